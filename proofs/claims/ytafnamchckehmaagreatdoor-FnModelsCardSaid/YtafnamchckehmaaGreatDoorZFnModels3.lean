/- What the law needs of the program's functions as plain functions, of the proofs that their calls answer so, and of plain laws: gathered by a program of this place (pack.py) out of its printed texts. No condition beyond what each statement says. -/
import Derived.Test.YtafnamchckehmaaGreatDoorZFnModels2
namespace Go.Proofs.YtafnamchckehmaaGreatDoor.Pr
open Go.RowKit Go.Proofs.YtafnamchckehmaaGreatDoorW.PrintWords Go.Proofs.YtafnamchckehmaaGreatDoorW.PrintLast Go.Proofs.YtafnamchckehmaaGreatDoorW.PrintMore
attribute [local go_sem] max2_int min2_int max_two min_two max_three min_three max_four min_four
set_option linter.unusedVariables false
set_option linter.unusedSimpArgs false
theorem bnd3_ {α β : Type} {o : Option α} {f : α → Option β} {r : β} (h : o.bind f = some r) : ∃ a, Aside0 (o = some a) ∧ f a = some r := by
 obtain ⟨a, h1, h2⟩ := Option.bind_eq_some_iff.mp h
 exact ⟨a, ⟨h1⟩, h2⟩
def laws_big.f (l0 : List Int) : Option (Bool) := some (decide ((l0.length : Int) > 1048576))
set_option maxHeartbeats 40000000 in
set_option maxRecDepth 100000 in
theorem laws_big.calls (A0 : Option Addr) (c0 : Nat) (l0 : List Int) (r : Bool) (w : World) (hr0 : Kd.C (Kd.int .u8) w A0 l0.length l0) (hc0 : l0.length ≤ c0) (h : laws_big.f l0 = some r) :
  Calls Tryz.prog 9 #[.slice A0 l0.length c0] w fun e w' => e = .returned (.bool r) ∧ Drawn0 w w' := by
 have HR0 := Aside0.mk hr0; have HC0 := Aside0.mk hc0; clear hr0 hc0; have H := h; clear h; unfold laws_big.f at H; obtain rfl := Option.some.inj H
 go_enter Tryz.func9, Tryz.ntmps9
 go_wp2
 go_ret
 exact ⟨(by first | rfl | (simp; done) | (simp [*]; done) | (simp [i64_w, i32_w]; done)), (by repeat (first | exact Drawn0.refl _ | apply Drawn0.step))⟩
def IsS152 (w0 W : World) (g : Nat) (f0 : List Int) (f1 : Int) (f2 : Int) : Prop := ∃ A0 c0, W.heap[g]? = some (.cells #[.slice A0 f0.length c0, .int .i64 f1, .int .i64 f2] 152 (0, 0)) ∧ w0.heap.size ≤ g ∧ Kd.C (Kd.int .u8) w0 A0 f0.length f0
theorem IsS152.grown {w0 W : World} {g : Nat} {f0 : List Int} {f1 : Int} {f2 : Int} {W1 : World} {row : Option Nat} (h : IsS152 w0 W g f0 f1 f2) (hw : W.grownBy W1 row) (hne : some g ≠ row) : IsS152 w0 W1 g f0 f1 f2 := by
 obtain ⟨A0, c0, hb, hg, hr0⟩ := h
 exact ⟨A0, c0, blk_grown hb hw hne, hg, hr0⟩
theorem IsS152.below {w0 W : World} {g : Nat} {f0 : List Int} {f1 : Int} {f2 : Int} {W1 : World} (h : IsS152 w0 W g f0 f1 f2) (hw : Below W.heap.size W W1) : IsS152 w0 W1 g f0 f1 f2 := h.grown (grown_of_below hw none) (by simp)
theorem IsS152.drewN {w0 W : World} {g : Nat} {f0 : List Int} {f1 : Int} {f2 : Int} (h : IsS152 w0 W g f0 f1 f2) (m : Nat) : IsS152 w0 (W.drewN m) g f0 f1 f2 := h
theorem IsS152.drew {w0 W : World} {g : Nat} {f0 : List Int} {f1 : Int} {f2 : Int} (h : IsS152 w0 W g f0 f1 f2) : IsS152 w0 W.drew g f0 f1 f2 := h
theorem IsS152.apart {w0 W : World} {g : Nat} {f0 : List Int} {f1 : Int} {f2 : Int} {α : Type} {d : Kd α} {e : Nat} {base : Nat} {ok : Nat → Prop} {v : Value} {xs : List α} (h : IsS152 w0 W g f0 f1 f2) (ho : d.R e W base ok v xs) (ht : ∀ q, q ∈ e :: d.E → q ≠ 152) : d.R e W base (fun k => ok k ∧ k ≠ g) v xs := by
 obtain ⟨A0, c0, hb, hg, hr0⟩ := h
 exact Kd.R_types ho hb ht
theorem IsS152.own_ne {w0 W : World} {g : Nat} {f0 : List Int} {f1 : Int} {f2 : Int} {α : Type} {d : Kd α} {e : Nat} {base : Nat} {ok : Nat → Prop} {v : Value} {xs : List α} (h : IsS152 w0 W g f0 f1 f2) (ho : d.R e W base ok v xs) (ht : e ≠ 152) : some g ≠ v.ownBlock := by
 obtain ⟨A0, c0, hb, hg, hr0⟩ := h
 exact Kd.R_ne ho hb ht
theorem IsS152.lt {w0 W : World} {g : Nat} {f0 : List Int} {f1 : Int} {f2 : Int} (h : IsS152 w0 W g f0 f1 f2) : g < W.heap.size := by
 obtain ⟨A0, c0, hb, hg, hr0⟩ := h
 exact blk_lt hb
theorem IsS152.ge {w0 W : World} {g : Nat} {f0 : List Int} {f1 : Int} {f2 : Int} (h : IsS152 w0 W g f0 f1 f2) : w0.heap.size ≤ g := by
 obtain ⟨A0, c0, hb, hg, hr0⟩ := h
 exact hg
theorem IsS152.far {w0 W : World} {g : Nat} {f0 : List Int} {f1 : Int} {f2 : Int} {p : Addr} (h : IsS152 w0 W g f0 f1 f2) (hne : g ≠ p.block) (u : Value) : IsS152 w0 (W.setCell p u) g f0 f1 f2 := by
 obtain ⟨A0, c0, hb, hg, hr0⟩ := h
 exact ⟨A0, c0, blk_far hb hne u, hg, hr0⟩
theorem cellS152_0 {W : World} {g : Nat} {A0 : Option Addr} {c0 : Nat} {f0 : List Int} {f1 : Int} {f2 : Int} (h : W.heap[g]? = some (.cells #[.slice A0 f0.length c0, .int .i64 f1, .int .i64 f2] 152 (0, 0))) : W.cell? ⟨g, 0, none⟩ = some (.slice A0 f0.length c0) := (blk_cell h 0).trans rfl
theorem cellS152_1 {W : World} {g : Nat} {A0 : Option Addr} {c0 : Nat} {f0 : List Int} {f1 : Int} {f2 : Int} (h : W.heap[g]? = some (.cells #[.slice A0 f0.length c0, .int .i64 f1, .int .i64 f2] 152 (0, 0))) : W.cell? ⟨g, 1, none⟩ = some (.int .i64 f1) := (blk_cell h 1).trans rfl
theorem IsS152.set_1 {w0 W : World} {g : Nat} {f0 : List Int} {f1 : Int} {f2 : Int} (h : IsS152 w0 W g f0 f1 f2) (x : Int) : IsS152 w0 (W.setCell ⟨g, 1, none⟩ (.int .i64 x)) g f0 x f2 := by
 obtain ⟨A0, c0, hb, hg, hr0⟩ := h
 exact ⟨A0, c0, by simpa using blk_set hb 1 (.int .i64 x), hg, hr0⟩
theorem cellS152_2 {W : World} {g : Nat} {A0 : Option Addr} {c0 : Nat} {f0 : List Int} {f1 : Int} {f2 : Int} (h : W.heap[g]? = some (.cells #[.slice A0 f0.length c0, .int .i64 f1, .int .i64 f2] 152 (0, 0))) : W.cell? ⟨g, 2, none⟩ = some (.int .i64 f2) := (blk_cell h 2).trans rfl
theorem IsS152.set_2 {w0 W : World} {g : Nat} {f0 : List Int} {f1 : Int} {f2 : Int} (h : IsS152 w0 W g f0 f1 f2) (x : Int) : IsS152 w0 (W.setCell ⟨g, 2, none⟩ (.int .i64 x)) g f0 f1 x := by
 obtain ⟨A0, c0, hb, hg, hr0⟩ := h
 exact ⟨A0, c0, by simpa using blk_set hb 2 (.int .i64 x), hg, hr0⟩
theorem q3_1 {P : Prop} (h : P := by repeat (first | (with_reducible first | exact HBW.out | apply below_alloc | apply pw_below_drewN | apply below_drew1) | exact HBW.out)) : P := h
def spec_l1New.l0 : Nat → List Int → Int → Int → Option (List Int × Int × Int)
 | 0, _, _, _ => none
 | k + 1, x0, x3, x4 => if x4 < (x0.length : Int) then (if x4 < 4000 then (if 0 ≤ x4 then (spec_l1New.l0 k x0 (Go.bits .and .i64 (wrap64 ((wrap64 ((wrap64 (x3 * 131)) + (wrap64 (rd x0 x4)))) + 7)) 1073741823) (wrap64 (x4 + 1))) else (none)) else (some (x0, 0, x3))) else (some (x0, 0, x3))
def spec_l1New.f (k : Nat) (l0 : List Int) : Option (List Int × Int × Int) := spec_l1New.l0 k l0 (wrap64 (26583 + (l0.length : Int))) 0
set_option maxHeartbeats 40000000 in
set_option maxRecDepth 100000 in
theorem spec_l1New.calls (k : Nat) (A0 : Option Addr) (c0 : Nat) (l0 : List Int) (r1 : List Int) (r2 : Int) (r3 : Int) (w0 w : World) (hB : Below w0.heap.size w0 w) (hr0 : Kd.C (Kd.int .u8) w0 A0 l0.length l0) (hc0 : l0.length ≤ c0) (h : spec_l1New.f k l0 = some (r1, r2, r3)) :
  Calls Tryz.prog 144 #[.slice A0 l0.length c0] w fun e w' => ∃ g_ : Nat, e = .returned (.pointer (some ⟨g_, 0, none⟩)) ∧ IsS152 w0 w' g_ r1 r2 r3 ∧ Below w0.heap.size w0 w' ∧ Below w.heap.size w w' := by
 have hu152 := Tryz.underlying152; have HR0 := Aside0.mk hr0; have HC0 := Aside0.mk hc0; clear hr0 hc0; have HBW := Aside0.mk (Below.refl w.heap.size w); have HW0 := Aside0.mk hB.size; have HB := Aside0.mk hB; clear hB; have H := h; clear h; unfold spec_l1New.f at H; have H' := Aside0.mk H; clear H
 go_enter Tryz.func144, Tryz.ntmps144
 go_wp2
 go_loopg [3, 4] k (fun kq v3 v4 w' => ∃ (x3_1 : Int) (x4_1 : Int), v3 = .int .i64 x3_1 ∧ v4 = .int .i64 x4_1 ∧ Aside0 (spec_l1New.l0 kq l0 x3_1 x4_1 = some (r1, r2, r3)) ∧ Aside0 (kq ≤ k) ∧ Aside0 (Below w0.heap.size w0 w') ∧ Aside0 (Below w.heap.size w w'))
 case atStart => exact ⟨(wrap64 (26583 + (l0.length : Int))), (0), s2_, s2_, H', ⟨Nat.le_refl _⟩, ⟨s1_⟩, ⟨q3_1⟩⟩
 case round =>
  clear H'
  try clear c1
  obtain ⟨x3_1, x4_1, rfl, rfl, HA, HK1, HB, HBW⟩ := hrel
  cases gk with
  | zero => exact absurd HA.out (by simp [spec_l1New.l0])
  | succ k1 =>
   have H := HA.out; clear HA
   simp only [spec_l1New.l0] at H
   by_cases c2 : x4_1 < (l0.length : Int)
   ·
    rw [if_pos c2] at H; have c2b0 : decide (x4_1 < (l0.length : Int)) = true := decide_eq_true c2; clear c2
    by_cases c3 : x4_1 < 4000
    ·
     rw [if_pos c3] at H; have c3b0 : decide (x4_1 < 4000) = true := decide_eq_true c3; clear c3
     by_cases c4 : 0 ≤ x4_1
     ·
      rw [if_pos c4] at H; have c4b0 : decide (0 ≤ x4_1) = true := decide_eq_true c4; clear c4; have H' := Aside0.mk H; clear H
      have p101 : 0 ≤ (x4_1 : Int) := of_decide_eq_true (by first | (with_reducible assumption) | assumption)
      have q101 : x4_1 < (l0.length : Int) := of_decide_eq_true (by first | (with_reducible assumption) | assumption)
      obtain ⟨ad101, e101, hx101_0⟩ := Kd.at_int HR0.out x4_1 p101 q101
      cases e101
      replace hx101_0 := pw_cell_below HB.out hx101_0; replace p101 := eq_true p101; replace q101 := eq_true q101
      go_wp2
      go_roundg k1
      case measure => have := HK1.out; omega
      case rel => exact ⟨(Go.bits .and .i64 (wrap64 ((wrap64 ((wrap64 (x3_1 * 131)) + (wrap64 (rd l0 x4_1)))) + 7)) 1073741823), (wrap64 (x4_1 + 1)), s2_, s2_, H', ⟨by have := HK1.out; omega⟩, ⟨s1_⟩, ⟨q3_1⟩⟩
     ·
      rw [if_neg c4] at H
      exact absurd H (by simp)
    ·
     rw [if_neg c3] at H; have c3b0 : decide (x4_1 < 4000) = false := decide_eq_false c3; clear c3
     simp only [Option.some.injEq, Prod.mk.injEq] at H
     obtain ⟨rfl, rfl, rfl⟩ := H
     go_wp2_with (first | (refine be_ 31 #[.slice A0 l0.length c0, .int .i64 0, .int .i64 x3_1] 152 ?_; intro gb102 hg w5 hbox hb; have n_ := ac_ (below_step HBW.out hb) <| ac_ (below_step s1_ hb) <| ac_ (hbox) <| ac_ ((gz_ w hg q3_1)) <| Aside0.mk ((Nat.le_trans HW0.out (gz_ w hg q3_1) : w0.heap.size ≤ gb102)); clear HBW HB; obtain ⟨HBW, HB, BK102, GW102, GE102⟩ := n_; clear hb hbox hg))
     go_ret
     exact ⟨_, rfl, (show IsS152 w0 _ gb102 l0 0 x3_1 from ⟨_, _, (by (with_reducible repeat (first | refine blk_drewN ?_ _ | refine blk_drew ?_ | refine blk_alloc ?_ _)); exact BK102.out), GE102.out, HR0.out⟩), (by repeat (first | (with_reducible first | exact HB.out | apply below_alloc | apply pw_below_drewN | apply below_drew1 | refine below_set ?_ GE102.out) | exact HB.out)), (by repeat (first | (with_reducible first | exact HBW.out | apply below_alloc | apply pw_below_drewN | apply below_drew1 | refine below_set ?_ GW102.out) | exact HBW.out))⟩
   ·
    rw [if_neg c2] at H; have c2b0 : decide (x4_1 < (l0.length : Int)) = false := decide_eq_false c2; clear c2
    simp only [Option.some.injEq, Prod.mk.injEq] at H
    obtain ⟨rfl, rfl, rfl⟩ := H
    go_wp2_with (first | (refine be_ 31 #[.slice A0 l0.length c0, .int .i64 0, .int .i64 x3_1] 152 ?_; intro gb103 hg w6 hbox hb; have n_ := ac_ (below_step HBW.out hb) <| ac_ (below_step s1_ hb) <| ac_ (hbox) <| ac_ ((gz_ w hg q3_1)) <| Aside0.mk ((Nat.le_trans HW0.out (gz_ w hg q3_1) : w0.heap.size ≤ gb103)); clear HBW HB; obtain ⟨HBW, HB, BK103, GW103, GE103⟩ := n_; clear hb hbox hg))
    go_ret
    exact ⟨_, rfl, (show IsS152 w0 _ gb103 l0 0 x3_1 from ⟨_, _, (by (with_reducible repeat (first | refine blk_drewN ?_ _ | refine blk_drew ?_ | refine blk_alloc ?_ _)); exact BK103.out), GE103.out, HR0.out⟩), (by repeat (first | (with_reducible first | exact HB.out | apply below_alloc | apply pw_below_drewN | apply below_drew1 | refine below_set ?_ GE103.out) | exact HB.out)), (by repeat (first | (with_reducible first | exact HBW.out | apply below_alloc | apply pw_below_drewN | apply below_drew1 | refine below_set ?_ GW103.out) | exact HBW.out))⟩
def spec_l1Byte.f (s0_0 : List Int) (s0_1 : Int) (s0_2 : Int) : Option (Int × Int × Int) := if s0_1 < (s0_0.length : Int) then (if 0 ≤ s0_1 then (some (Go.bits .and .i64 (wrap64 ((Go.bits .and .i64 (Go.bits .xor .i64 ((wrap64 ((wrap64 (s0_2 * 6364136223846793005)) + 1442695040888963407)) / 8589934592) ((wrap64 ((wrap64 (s0_2 * 6364136223846793005)) + 1442695040888963407)) / 35184372088832)) 255) + (wrap64 (rd s0_0 s0_1)))) 255, wrap64 (s0_1 + 1), wrap64 ((wrap64 (s0_2 * 6364136223846793005)) + 1442695040888963407))) else (none)) else (some (Go.bits .and .i64 (Go.bits .xor .i64 ((wrap64 ((wrap64 (s0_2 * 6364136223846793005)) + 1442695040888963407)) / 8589934592) ((wrap64 ((wrap64 (s0_2 * 6364136223846793005)) + 1442695040888963407)) / 35184372088832)) 255, s0_1, wrap64 ((wrap64 (s0_2 * 6364136223846793005)) + 1442695040888963407)))
set_option maxHeartbeats 40000000 in
set_option maxRecDepth 100000 in
theorem spec_l1Byte.calls (g : Nat) (s0_0 : List Int) (s0_1 : Int) (s0_2 : Int) (r1 : Int) (r2 : Int) (r3 : Int) (w0 w : World) (hI : IsS152 w0 w g s0_0 s0_1 s0_2) (hB : Below w0.heap.size w0 w) (h : spec_l1Byte.f s0_0 s0_1 s0_2 = some (r1, r2, r3)) :
  Calls Tryz.prog 217 #[.pointer (some ⟨g, 0, none⟩)] w fun e w' => e = .returned (.int .i64 r1) ∧ IsS152 w0 w' g s0_0 r2 r3 ∧ Below w0.heap.size w0 w' ∧ KeepBut w w' g none := by
 have HI0 := Aside0.mk hI; have HK := Aside0.mk (KeepBut.refl w g none); have HL := Aside0.mk hB.size; clear hI; have HW0 := Aside0.mk hB.size; have HB := Aside0.mk hB; clear hB; have H := h; clear h; unfold spec_l1Byte.f at H
 by_cases c2 : s0_1 < (s0_0.length : Int)
 ·
  rw [if_pos c2] at H; have c2b0 : decide (s0_1 < (s0_0.length : Int)) = true := decide_eq_true c2; clear c2
  by_cases c3 : 0 ≤ s0_1
  ·
   rw [if_pos c3] at H; have c3b0 : decide (0 ≤ s0_1) = true := decide_eq_true c3; clear c3
   simp only [Option.some.injEq, Prod.mk.injEq] at H
   obtain ⟨rfl, rfl, rfl⟩ := H; obtain ⟨ASz4_0, cSz4_0, HGz4, hgz4, HSz4_0⟩ := HI0.out; have hcz4_0 := cellS152_0 HGz4; have hcz4_1 := cellS152_1 HGz4; have hcz4_2 := cellS152_2 HGz4; have hfz4_1 := blk_frozen HGz4 1; have hfz4_2 := blk_frozen HGz4 2; clear HGz4 hgz4
   have p104 : 0 ≤ (s0_1 : Int) := of_decide_eq_true (by first | (with_reducible assumption) | assumption)
   have q104 : s0_1 < (s0_0.length : Int) := of_decide_eq_true (by first | (with_reducible assumption) | assumption)
   obtain ⟨ad104, e104, hx104_0⟩ := Kd.at_int HSz4_0 s0_1 p104 q104
   cases e104
   have hn104_0 : ad104.block ≠ g := Nat.ne_of_lt (Nat.lt_of_lt_of_le (by have := World.block_lt_of_cell? _ _ hx104_0; first | rwa [add_block] at this | exact this) (IsS152.ge HI0.out))
   replace hx104_0 := pw_cell_below HB.out hx104_0
   replace hx104_0 := (cell_far (p := ⟨g, 2, none⟩) (by first | (rw [add_block]; exact hn104_0) | (show (Addr.add _ _).block ≠ _; rw [add_block]; exact hn104_0) | exact hn104_0) (.int .i64 (wrap64 ((wrap64 (s0_2 * 6364136223846793005)) + 1442695040888963407)))).trans hx104_0
   (try have hy104_0 := fun (n_ : Nat) => (show (((w.drewN n_).setCell ⟨g, 2, none⟩ (.int .i64 (wrap64 ((wrap64 (s0_2 * 6364136223846793005)) + 1442695040888963407))))).cell? _ = some _ from hx104_0))
   clear hn104_0; replace p104 := eq_true p104; replace q104 := eq_true q104
   go_enter Tryz.func217, Tryz.ntmps217
   go_wp2
   repeat (go_quiet (fail); try go_wp2)
   go_ret
   exact ⟨(by first | rfl | (simp [errW_none, errW_some] <;> rfl) | (simp [*, errW_none, errW_some] <;> rfl)), s5_, s8_, s6_⟩
  ·
   rw [if_neg c3] at H
   exact absurd H (by simp)
 ·
  rw [if_neg c2] at H; have c2b0 : decide (s0_1 < (s0_0.length : Int)) = false := decide_eq_false c2; clear c2
  simp only [Option.some.injEq, Prod.mk.injEq] at H
  obtain ⟨rfl, rfl, rfl⟩ := H; obtain ⟨ASz5_0, cSz5_0, HGz5, hgz5, HSz5_0⟩ := HI0.out; have hcz5_0 := cellS152_0 HGz5; have hcz5_1 := cellS152_1 HGz5; have hcz5_2 := cellS152_2 HGz5; have hfz5_1 := blk_frozen HGz5 1; have hfz5_2 := blk_frozen HGz5 2; clear HGz5 hgz5
  go_enter Tryz.func217, Tryz.ntmps217
  go_wp2
  repeat (go_quiet (fail); try go_wp2)
  go_ret
  exact ⟨(by first | rfl | (simp [errW_none, errW_some] <;> rfl) | (simp [*, errW_none, errW_some] <;> rfl)), s5_, s8_, s6_⟩
def spec_l1Below.f (s0_0 : List Int) (s0_1 : Int) (s0_2 : Int) (a1 : Int) : Option (Int × Int × Int) := if a1 ≤ 0 then (some (0, s0_1, s0_2)) else (if a1 ≤ 256 then ((spec_l1Byte.f s0_0 s0_1 s0_2).bind fun bt105 => (if a1 = 0 then (none) else (some (Int.tmod bt105.1 a1, bt105.2.1, bt105.2.2)))) else ((spec_l1Byte.f s0_0 s0_1 s0_2).bind fun bt108 => ((spec_l1Byte.f s0_0 bt108.2.1 bt108.2.2).bind fun bt111 => ((spec_l1Byte.f s0_0 bt111.2.1 bt111.2.2).bind fun bt114 => ((spec_l1Byte.f s0_0 bt114.2.1 bt114.2.2).bind fun bt117 => (if a1 = 0 then (none) else (some (Int.tmod (wrap64 ((wrap64 ((wrap64 ((wrap64 (bt108.1 * 16777216)) + (wrap64 (bt111.1 * 65536)))) + (wrap64 (bt114.1 * 256)))) + bt117.1)) a1, bt117.2.1, bt117.2.2))))))))
set_option maxHeartbeats 40000000 in
set_option maxRecDepth 100000 in
theorem spec_l1Below.calls (g : Nat) (s0_0 : List Int) (s0_1 : Int) (s0_2 : Int) (a1 : Int) (r1 : Int) (r2 : Int) (r3 : Int) (w0 w : World) (hI : IsS152 w0 w g s0_0 s0_1 s0_2) (hB : Below w0.heap.size w0 w) (h : spec_l1Below.f s0_0 s0_1 s0_2 a1 = some (r1, r2, r3)) :
  Calls Tryz.prog 146 #[.pointer (some ⟨g, 0, none⟩), .int .i64 a1] w fun e w' => e = .returned (.int .i64 r1) ∧ IsS152 w0 w' g s0_0 r2 r3 ∧ Below w0.heap.size w0 w' ∧ KeepBut w w' g none := by
 have HI0 := Aside0.mk hI; have HK := Aside0.mk (KeepBut.refl w g none); have HL := Aside0.mk hB.size; clear hI; have HW0 := Aside0.mk hB.size; have HB := Aside0.mk hB; clear hB; have H := h; clear h; unfold spec_l1Below.f at H
 by_cases c3 : a1 ≤ 0
 ·
  rw [if_pos c3] at H; have c3b0 : decide (a1 ≤ 0) = true := decide_eq_true c3; clear c3
  simp only [Option.some.injEq, Prod.mk.injEq] at H
  obtain ⟨rfl, rfl, rfl⟩ := H
  go_enter Tryz.func146, Tryz.ntmps146
  go_wp2
  go_ret
  exact ⟨s7_, s5_, s8_, s6_⟩
 ·
  rw [if_neg c3] at H; have c3b0 : decide (a1 ≤ 0) = false := decide_eq_false c3; clear c3
  by_cases c4 : a1 ≤ 256
  ·
   rw [if_pos c4] at H; have c4b0 : decide (a1 ≤ 256) = true := decide_eq_true c4; clear c4; obtain ⟨⟨t105, t106, t107⟩, A5, H⟩ := bnd3_ H; dsimp only at H
   by_cases c6 : a1 = 0
   ·
    rw [if_pos c6] at H
    exact absurd H (by simp)
   ·
    rw [if_neg c6] at H; have c6b0 : (a1 == 0) = false := beq_eq_false_iff_ne.mpr c6; have c6b1 : (a1 != 0) = true := bne_iff_ne.mpr c6
    simp only [Option.some.injEq, Prod.mk.injEq] at H
    obtain ⟨rfl, rfl, rfl⟩ := H
    go_enter Tryz.func146, Tryz.ntmps146
    go_wp2_with (first | (refine gL_ 217 14 Tryz.func217 #[.pointer (some ⟨g, 0, none⟩)] ?_; (with_reducible refine (spec_l1Byte.calls g s0_0 s0_1 s0_2 t105 t106 t107 w0 _ ?side1 ?side2 A5.out).mono ?_); (case side1 => exact s5_); (case side2 => exact s8_); rintro e w7 ⟨rfl, hi, hb, hk⟩; refine ⟨_, rfl, ?_⟩; have n_ := ac_ (KeepBut.trans s6_ hk (.inl rfl)) <| ac_ (hb) <| Aside0.mk (hi); clear HK HB HI0; obtain ⟨HK, HB, HI0⟩ := n_; (try clear hb hk hi)))
    go_ret
    exact ⟨s7_, s5_, s8_, s6_⟩
  ·
   rw [if_neg c4] at H; have c4b0 : decide (a1 ≤ 256) = false := decide_eq_false c4; clear c4; obtain ⟨⟨t108, t109, t110⟩, A8, H⟩ := bnd3_ H; dsimp only at H; obtain ⟨⟨t111, t112, t113⟩, A9, H⟩ := bnd3_ H; dsimp only at H; obtain ⟨⟨t114, t115, t116⟩, A10, H⟩ := bnd3_ H; dsimp only at H; obtain ⟨⟨t117, t118, t119⟩, A11, H⟩ := bnd3_ H; dsimp only at H
   by_cases c12 : a1 = 0
   ·
    rw [if_pos c12] at H
    exact absurd H (by simp)
   ·
    rw [if_neg c12] at H; have c12b0 : (a1 == 0) = false := beq_eq_false_iff_ne.mpr c12; have c12b1 : (a1 != 0) = true := bne_iff_ne.mpr c12
    simp only [Option.some.injEq, Prod.mk.injEq] at H
    obtain ⟨rfl, rfl, rfl⟩ := H
    go_enter Tryz.func146, Tryz.ntmps146
    go_wp2_with (first | (refine gL_ 217 18 Tryz.func217 #[.pointer (some ⟨g, 0, none⟩)] ?_; (with_reducible refine (spec_l1Byte.calls g s0_0 s0_1 s0_2 t108 t109 t110 w0 _ ?side1 ?side2 A8.out).mono ?_); (case side1 => exact s5_); (case side2 => exact s8_); rintro e w13 ⟨rfl, hi, hb, hk⟩; refine ⟨_, rfl, ?_⟩; have n_ := ac_ (KeepBut.trans s6_ hk (.inl rfl)) <| ac_ (hb) <| Aside0.mk (hi); clear HK HB HI0; obtain ⟨HK, HB, HI0⟩ := n_; (try clear hb hk hi)) | (refine gL_ 217 20 Tryz.func217 #[.pointer (some ⟨g, 0, none⟩)] ?_; (with_reducible refine (spec_l1Byte.calls g s0_0 t109 t110 t111 t112 t113 w0 _ ?side1 ?side2 A9.out).mono ?_); (case side1 => exact s5_); (case side2 => exact s8_); rintro e w14 ⟨rfl, hi, hb, hk⟩; refine ⟨_, rfl, ?_⟩; have n_ := ac_ (KeepBut.trans s6_ hk (.inl rfl)) <| ac_ (hb) <| Aside0.mk (hi); clear HK HB HI0; obtain ⟨HK, HB, HI0⟩ := n_; (try clear hb hk hi)) | (refine gL_ 217 22 Tryz.func217 #[.pointer (some ⟨g, 0, none⟩)] ?_; (with_reducible refine (spec_l1Byte.calls g s0_0 t112 t113 t114 t115 t116 w0 _ ?side1 ?side2 A10.out).mono ?_); (case side1 => exact s5_); (case side2 => exact s8_); rintro e w15 ⟨rfl, hi, hb, hk⟩; refine ⟨_, rfl, ?_⟩; have n_ := ac_ (KeepBut.trans s6_ hk (.inl rfl)) <| ac_ (hb) <| Aside0.mk (hi); clear HK HB HI0; obtain ⟨HK, HB, HI0⟩ := n_; (try clear hb hk hi)) | (refine gL_ 217 24 Tryz.func217 #[.pointer (some ⟨g, 0, none⟩)] ?_; (with_reducible refine (spec_l1Byte.calls g s0_0 t115 t116 t117 t118 t119 w0 _ ?side1 ?side2 A11.out).mono ?_); (case side1 => exact s5_); (case side2 => exact s8_); rintro e w16 ⟨rfl, hi, hb, hk⟩; refine ⟨_, rfl, ?_⟩; have n_ := ac_ (KeepBut.trans s6_ hk (.inl rfl)) <| ac_ (hb) <| Aside0.mk (hi); clear HK HB HI0; obtain ⟨HK, HB, HI0⟩ := n_; (try clear hb hk hi)))
    go_ret
    exact ⟨s7_, s5_, s8_, s6_⟩
def spec_l1PickInt.f (s0_0 : List Int) (s0_1 : Int) (s0_2 : Int) (l1 : List Int) : Option (Int × Int × Int) := (spec_l1Below.f s0_0 s0_1 s0_2 (l1.length : Int)).bind fun bt120 => (if 0 ≤ bt120.1 then (if bt120.1 < (l1.length : Int) then (some (rd l1 bt120.1, bt120.2.1, bt120.2.2)) else (none)) else (none))
set_option maxHeartbeats 40000000 in
set_option maxRecDepth 100000 in
theorem spec_l1PickInt.calls (g : Nat) (s0_0 : List Int) (s0_1 : Int) (s0_2 : Int) (A1 : Option Addr) (c1 : Nat) (l1 : List Int) (r1 : Int) (r2 : Int) (r3 : Int) (w0 w : World) (hI : IsS152 w0 w g s0_0 s0_1 s0_2) (hB : Below w0.heap.size w0 w) (hr1 : Kd.C (Kd.int .i64) w A1 l1.length l1) (hc1 : l1.length ≤ c1) (hf1 : ∀ ad, A1 = some ad → 0 < l1.length → ad.block ≠ g) (h : spec_l1PickInt.f s0_0 s0_1 s0_2 l1 = some (r1, r2, r3)) :
  Calls Tryz.prog 147 #[.pointer (some ⟨g, 0, none⟩), .slice A1 l1.length c1] w fun e w' => e = .returned (.int .i64 r1) ∧ IsS152 w0 w' g s0_0 r2 r3 ∧ Below w0.heap.size w0 w' ∧ KeepBut w w' g none := by
 have HR1 := Aside0.mk hr1; have HC1 := Aside0.mk hc1; clear hr1 hc1; have HI0 := Aside0.mk hI; have HK := Aside0.mk (KeepBut.refl w g none); have HL := Aside0.mk hB.size; clear hI; have HW0 := Aside0.mk hB.size; have HB := Aside0.mk hB; clear hB; have H := h; clear h; unfold spec_l1PickInt.f at H; obtain ⟨⟨t120, t121, t122⟩, A3, H⟩ := bnd3_ H; dsimp only at H
 by_cases c4 : 0 ≤ t120
 ·
  rw [if_pos c4] at H; have c4b0 : decide (0 ≤ t120) = true := decide_eq_true c4; clear c4
  by_cases c5 : t120 < (l1.length : Int)
  ·
   rw [if_pos c5] at H; have c5b0 : decide (t120 < (l1.length : Int)) = true := decide_eq_true c5; clear c5
   simp only [Option.some.injEq, Prod.mk.injEq] at H
   obtain ⟨rfl, rfl, rfl⟩ := H
   go_enter Tryz.func147, Tryz.ntmps147
   go_wp2_with (first | ((with_reducible refine gate_callee (f := 146) rfl ?_); refine goesL_ (some 9) rfl rfl Tryz.func146 (by kernel_rfl) rfl #[.pointer (some ⟨g, 0, none⟩), .int .i64 (l1.length : Int)] rfl (by (try simp only [List.map_toArray, List.map_cons, List.map_nil]); first | done | rfl | (simp only [List.length_drop, List.length_take]; rfl)) ?_; (with_reducible refine (spec_l1Below.calls g s0_0 s0_1 s0_2 (l1.length : Int) t120 t121 t122 w0 _ ?side1 ?side2 A3.out).mono ?_); (case side1 => exact s5_); (case side2 => exact s8_); rintro e w6 ⟨rfl, hi, hb, hk⟩; refine ⟨_, rfl, ?_⟩; have n_ := ac_ (KeepBut.trans s6_ hk (.inl rfl)) <| ac_ (hb) <| Aside0.mk (hi); clear HK HB HI0; obtain ⟨HK, HB, HI0⟩ := n_; (try clear hb hk hi); have p123 : 0 ≤ (t120 : Int) := of_decide_eq_true (by first | (with_reducible assumption) | assumption); have q123 : t120 < (l1.length : Int) := of_decide_eq_true (by first | (with_reducible assumption) | assumption); obtain ⟨ad123, e123, hx123_0⟩ := Kd.at_int HR1.out t120 p123 q123; cases e123; replace hx123_0 := keep_cell HK.out hx123_0 (by first | (rw [add_block]; exact hf1 _ rfl (by omega)) | exact hf1 _ rfl (by omega) | exact hf1 ad123 rfl (by omega)); replace p123 := eq_true p123; replace q123 := eq_true q123))
   go_ret
   exact ⟨(by first | rfl | (simp [errW_none, errW_some] <;> rfl) | (simp [*, errW_none, errW_some] <;> rfl)), s5_, s8_, s6_⟩
  ·
   rw [if_neg c5] at H
   exact absurd H (by simp)
 ·
  rw [if_neg c4] at H
  exact absurd H (by simp)
def spec_l1Once.f (s0_0 : List Int) (s0_1 : Int) (s0_2 : Int) (a1 : Int) : Option (Bool × Int × Int) := (spec_l1Below.f s0_0 s0_1 s0_2 a1).bind fun bt124 => (some ((bt124.1 == 0), bt124.2.1, bt124.2.2))
set_option maxHeartbeats 40000000 in
set_option maxRecDepth 100000 in
theorem spec_l1Once.calls (g : Nat) (s0_0 : List Int) (s0_1 : Int) (s0_2 : Int) (a1 : Int) (r1 : Bool) (r2 : Int) (r3 : Int) (w0 w : World) (hI : IsS152 w0 w g s0_0 s0_1 s0_2) (hB : Below w0.heap.size w0 w) (h : spec_l1Once.f s0_0 s0_1 s0_2 a1 = some (r1, r2, r3)) :
  Calls Tryz.prog 145 #[.pointer (some ⟨g, 0, none⟩), .int .i64 a1] w fun e w' => e = .returned (.bool r1) ∧ IsS152 w0 w' g s0_0 r2 r3 ∧ Below w0.heap.size w0 w' ∧ KeepBut w w' g none := by
 have HI0 := Aside0.mk hI; have HK := Aside0.mk (KeepBut.refl w g none); have HL := Aside0.mk hB.size; clear hI; have HW0 := Aside0.mk hB.size; have HB := Aside0.mk hB; clear hB; have H := h; clear h; unfold spec_l1Once.f at H; obtain ⟨⟨t124, t125, t126⟩, A3, H⟩ := bnd3_ H; dsimp only at H
 simp only [Option.some.injEq, Prod.mk.injEq] at H
 obtain ⟨rfl, rfl, rfl⟩ := H
 go_enter Tryz.func145, Tryz.ntmps145
 go_wp2_with (first | ((with_reducible refine gate_callee (f := 146) rfl ?_); refine goesL_ (some 7) rfl rfl Tryz.func146 (by kernel_rfl) rfl #[.pointer (some ⟨g, 0, none⟩), .int .i64 a1] rfl (by (try simp only [List.map_toArray, List.map_cons, List.map_nil]); first | done | rfl | (simp only [List.length_drop, List.length_take]; rfl)) ?_; (with_reducible refine (spec_l1Below.calls g s0_0 s0_1 s0_2 a1 t124 t125 t126 w0 _ ?side1 ?side2 A3.out).mono ?_); (case side1 => exact s5_); (case side2 => exact s8_); rintro e w4 ⟨rfl, hi, hb, hk⟩; refine ⟨_, rfl, ?_⟩; have n_ := ac_ (KeepBut.trans s6_ hk (.inl rfl)) <| ac_ (hb) <| Aside0.mk (hi); clear HK HB HI0; obtain ⟨HK, HB, HI0⟩ := n_; (try clear hb hk hi)))
 go_ret
 exact ⟨(by first | rfl | (simp [errW_none, errW_some] <;> rfl) | (simp [*, errW_none, errW_some] <;> rfl)), s5_, s8_, s6_⟩
def spec_l2Bent.f (s0_0 : List Int) (s0_1 : Int) (s0_2 : Int) : Option (Int × Int × Int) := (spec_l1Once.f s0_0 s0_1 s0_2 8).bind fun bt127 => (if bt127.1 = true then ((spec_l1PickInt.f s0_0 bt127.2.1 bt127.2.2 (([(-1), 256, 1000, (-9223372036854775808)] : List Int))).bind fun bt133 => (some (bt133.1, bt133.2.1, bt133.2.2))) else ((spec_l1Below.f s0_0 bt127.2.1 bt127.2.2 256).bind fun bt136 => (some (bt136.1, bt136.2.1, bt136.2.2))))
set_option maxHeartbeats 40000000 in
set_option maxRecDepth 100000 in
theorem spec_l2Bent.calls (g : Nat) (s0_0 : List Int) (s0_1 : Int) (s0_2 : Int) (r1 : Int) (r2 : Int) (r3 : Int) (w0 w : World) (hI : IsS152 w0 w g s0_0 s0_1 s0_2) (hB : Below w0.heap.size w0 w) (h : spec_l2Bent.f s0_0 s0_1 s0_2 = some (r1, r2, r3)) :
  Calls Tryz.prog 176 #[.pointer (some ⟨g, 0, none⟩)] w fun e w' => e = .returned (.int .i64 r1) ∧ IsS152 w0 w' g s0_0 r2 r3 ∧ Below w0.heap.size w0 w' ∧ KeepBut w w' g none := by
 have HI0 := Aside0.mk hI; have HK := Aside0.mk (KeepBut.refl w g none); have HL := Aside0.mk hB.size; clear hI; have HW0 := Aside0.mk hB.size; have HB := Aside0.mk hB; clear hB; have H := h; clear h; unfold spec_l2Bent.f at H; obtain ⟨⟨t127, t128, t129⟩, A2, H⟩ := bnd3_ H; dsimp only at H
 by_cases c3 : t127 = true
 ·
  subst c3; rw [if_pos rfl] at H; obtain ⟨y130, hy130⟩ : ∃ y_ : List Int, y_ = (([(-1), 256, 1000, (-9223372036854775808)] : List Int)) := ⟨_, rfl⟩
  replace H : ((spec_l1PickInt.f s0_0 t128 t129 y130).bind fun bt133 => (some (bt133.1, bt133.2.1, bt133.2.2))) = some (r1, r2, r3) := by first | (rw [hy130]; with_reducible exact H) | (have H2_ := (Option.bind_some _ _).symm.trans H; rw [hy130]; with_reducible exact H2_) | (have H2_ := (Option.bind_some _ _).symm.trans H; with_reducible exact H2_) | with_reducible exact H | (rw [hy130]; exact H) | exact H
  have Ny130 := Aside0.mk hy130; clear hy130; obtain ⟨⟨t133, t134, t135⟩, A4, H⟩ := bnd3_ H; dsimp only at H
  simp only [Option.some.injEq, Prod.mk.injEq] at H
  obtain ⟨rfl, rfl, rfl⟩ := H
  go_enter Tryz.func176, Tryz.ntmps176
  go_wp2_with (first | (refine gL_ 145 4 Tryz.func145 #[.pointer (some ⟨g, 0, none⟩), .int .i64 8] ?_; (with_reducible refine (spec_l1Once.calls g s0_0 s0_1 s0_2 8 true t128 t129 w0 _ ?side1 ?side2 A2.out).mono ?_); (case side1 => exact s5_); (case side2 => exact s8_); rintro e w5 ⟨rfl, hi, hb, hk⟩; refine ⟨_, rfl, ?_⟩; have n_ := ac_ (KeepBut.trans s6_ hk (.inl rfl)) <| ac_ (hb) <| Aside0.mk (hi); clear HK HB HI0; obtain ⟨HK, HB, HI0⟩ := n_; (try clear hb hk hi)) | ((with_reducible refine gate_dst (N := 6) rfl ?_); refine Kd.R_lit (Kd.int .i64) _ 3 ?hg (N := 6) ?hd (xs := ([(-1), 256, 1000, (-9223372036854775808)] : List Int)) (inner := [.int .i64 (-1), .int .i64 256, .int .i64 1000, .int .i64 (-9223372036854775808)]) (ok := fun _ => True) (okp := fun _ => True) ?hr ?hp (fun _ hk => hk) trivial (Below.refl _ _) (Nat.le_refl _) (by simp) ?_; (case hd => rfl); (case hg => rfl); (case hr => first | (go_simp; done) | (go_simp; rfl)); (case hp => exact (Reps.one (show Kd.M (Kd.int .i64) _ _ _ (-1) [.int .i64 (-1)] from rfl) (Reps.one (show Kd.M (Kd.int .i64) _ _ _ 256 [.int .i64 256] from rfl) (Reps.one (show Kd.M (Kd.int .i64) _ _ _ 1000 [.int .i64 1000] from rfl) (Reps.one (show Kd.M (Kd.int .i64) _ _ _ (-9223372036854775808) [.int .i64 (-9223372036854775808)] from rfl) (Reps.none _ _)))))); intro v131 w6 ho7 hb hg_ hnew_; clear hg_ hnew_; (first | rw [← Ny130.out] at ho7 | (simp only [Int.reduceToNat] at ho7; rw [← Ny130.out] at ho7)); have n_ := ac_ (Kd.R_lower ho7 (keep_size (w := w) (g := g) (row := none) s6_)) <| ac_ (IsS152.below s5_ hb) <| ac_ (KeepBut.trans s6_ (KeepBut.of_below hb g none) (.inl rfl)) <| Aside0.mk (below_step s8_ hb); clear HI0 HK HB; obtain ⟨HO132, HI0, HK, HB⟩ := n_; clear hb ho7; obtain ⟨Ao8, co8, eo8⟩ := Kd.R_slice HO132.out; subst eo8) | (refine gL_ 147 7 Tryz.func147 #[.pointer (some ⟨g, 0, none⟩), .slice Ao8 y130.length co8] ?_; (with_reducible refine (spec_l1PickInt.calls g s0_0 t128 t129 _ _ y130 t133 t134 t135 w0 _ ?side1 ?side2 ?side3 ?side4 ?side5 A4.out).mono ?_); (case side1 => exact s5_); (case side2 => exact s8_); (case side3 => repeat (first | exact (Kd.R_reads' HO132.out).2.2 | (with_reducible refine Kd.C_alloc ?_ _) | (with_reducible refine Kd.C_drewN ?_ _) | (with_reducible refine Kd.C_drew ?_))); (case side4 => exact (Kd.R_reads' HO132.out).2.1); (case side5 => exact far_slice (IsS152.own_ne HI0.out HO132.out (by decide))); rintro e w9 ⟨rfl, hi, hb, hk⟩; refine ⟨_, rfl, ?_⟩; have n_ := ac_ (Kd.R_mono (Kd.R_keep (IsS152.apart (show IsS152 w0 _ g s0_0 t128 t129 from s5_) (by (with_reducible repeat (first | apply Kd.R_alloc | apply Kd.R_drewN | apply Kd.R_drew)); exact HO132.out) (by decide)) hk (fun _ h => h.2)) (fun _ h => h.1)) <| ac_ (KeepBut.trans s6_ hk (.inl rfl)) <| ac_ (hb) <| Aside0.mk (hi); clear HO132 HK HB HI0; obtain ⟨HO132, HK, HB, HI0⟩ := n_; (try clear hb hk hi)))
  go_ret
  exact ⟨(by first | rfl | (simp [errW_none, errW_some] <;> rfl) | (simp [*, errW_none, errW_some] <;> rfl)), s5_, s8_, s6_⟩
 ·
  replace c3 := Bool.eq_false_iff.mpr c3; subst c3
  rw [if_neg (show ¬ (false = true) by decide)] at H
  obtain ⟨⟨t136, t137, t138⟩, A10, H⟩ := bnd3_ H; dsimp only at H
  simp only [Option.some.injEq, Prod.mk.injEq] at H
  obtain ⟨rfl, rfl, rfl⟩ := H
  go_enter Tryz.func176, Tryz.ntmps176
  go_wp2_with (first | (refine gL_ 145 4 Tryz.func145 #[.pointer (some ⟨g, 0, none⟩), .int .i64 8] ?_; (with_reducible refine (spec_l1Once.calls g s0_0 s0_1 s0_2 8 false t128 t129 w0 _ ?side1 ?side2 A2.out).mono ?_); (case side1 => exact s5_); (case side2 => exact s8_); rintro e w11 ⟨rfl, hi, hb, hk⟩; refine ⟨_, rfl, ?_⟩; have n_ := ac_ (KeepBut.trans s6_ hk (.inl rfl)) <| ac_ (hb) <| Aside0.mk (hi); clear HK HB HI0; obtain ⟨HK, HB, HI0⟩ := n_; (try clear hb hk hi)) | (refine gL_ 146 9 Tryz.func146 #[.pointer (some ⟨g, 0, none⟩), .int .i64 256] ?_; (with_reducible refine (spec_l1Below.calls g s0_0 t128 t129 256 t136 t137 t138 w0 _ ?side1 ?side2 A10.out).mono ?_); (case side1 => exact s5_); (case side2 => exact s8_); rintro e w12 ⟨rfl, hi, hb, hk⟩; refine ⟨_, rfl, ?_⟩; have n_ := ac_ (KeepBut.trans s6_ hk (.inl rfl)) <| ac_ (hb) <| Aside0.mk (hi); clear HK HB HI0; obtain ⟨HK, HB, HI0⟩ := n_; (try clear hb hk hi)))
  go_ret
  exact ⟨(by first | rfl | (simp [errW_none, errW_some] <;> rfl) | (simp [*, errW_none, errW_some] <;> rfl)), s5_, s8_, s6_⟩
theorem q3_22 {P : Prop} (h : P := by repeat (first | (with_reducible first | exact HI0.out | apply IsS152.alloc | apply IsS152.drewN | apply IsS152.drew | apply IsS152.set_1 | apply IsS152.set_2 | refine IsS152.far ?_ NB0_139.out _) | exact HI0.out)) : P := h
theorem q3_23 {P : Prop} (h : P := by repeat (first | (with_reducible first | exact HB.out | apply below_alloc | apply pw_below_drewN | apply below_drew1 | refine below_set ?_ (IsS152.ge HI0.out) | refine below_set ?_ GE139.out) | exact HB.out)) : P := h
theorem q3_24 {P : Prop} (h : P := by repeat (first | (with_reducible first | exact HK.out | apply KeepBut.set_ | apply keep_drewN | apply keep_drew | apply keep_alloc | refine keep_far ?_ GW139.out _) | exact HK.out)) : P := h
theorem q3_26 {P : Prop} (h : P := by (try simp only [List.map_toArray, List.map_cons, List.map_nil]); first | done | (simp only [hji5]; rfl) | rfl | (simp only [List.length_drop, List.length_take]; rfl)) : P := h
theorem q3_28 {P : Prop} (h : P := by (with_reducible repeat (first | refine blk_drewN ?_ _ | refine blk_drew ?_ | refine blk_alloc ?_ _)); exact BK139.out) : P := h
def spec_l9Make.f (s0_0 : List Int) (s0_1 : Int) (s0_2 : Int) (a1 : Int) : Option (Int × Int × Int × Int) := if 0 ≤ (IntKind.u64.wrap (a1)) then ((spec_l1Below.f s0_0 s0_1 s0_2 (shl .i64 1 (IntKind.u64.wrap (a1)))).bind fun bt140 => ((spec_l1Below.f s0_0 bt140.2.1 bt140.2.2 (shl .i64 1 (IntKind.u64.wrap (a1)))).bind fun bt143 => ((spec_l1Below.f s0_0 bt143.2.1 bt143.2.2 (shl .i64 1 (IntKind.u64.wrap (a1)))).bind fun bt146 => (some (Go.bits .and .i64 bt140.1 bt143.1, bt146.1, bt146.2.1, bt146.2.2))))) else (none)
set_option maxHeartbeats 40000000 in
set_option maxRecDepth 100000 in
theorem spec_l9Make.calls (g : Nat) (s0_0 : List Int) (s0_1 : Int) (s0_2 : Int) (a1 : Int) (r1 : Int) (r2 : Int) (r3 : Int) (r4 : Int) (w0 w : World) (hI : IsS152 w0 w g s0_0 s0_1 s0_2) (hB : Below w0.heap.size w0 w) (h : spec_l9Make.f s0_0 s0_1 s0_2 a1 = some (r1, r2, r3, r4)) :
  Calls Tryz.prog 172 #[.pointer (some ⟨g, 0, none⟩), .int .i64 a1] w fun e w' => e = .returned (.agg #[.int .i64 r1, .int .i64 r2]) ∧ IsS152 w0 w' g s0_0 r3 r4 ∧ Below w0.heap.size w0 w' ∧ KeepBut w w' g none := by
 have hu48 := Tryz.underlying48; have HI0 := Aside0.mk hI; have HK := Aside0.mk (KeepBut.refl w g none); have HL := Aside0.mk hB.size; clear hI; have HW0 := Aside0.mk hB.size; have HB := Aside0.mk hB; clear hB; have H := h; clear h; unfold spec_l9Make.f at H; obtain ⟨ji3, hji3⟩ : ∃ j_ : Int, (IntKind.u64.wrap (a1)) = j_ := ⟨_, rfl⟩
 replace H : (if 0 ≤ (ji3) then ((spec_l1Below.f s0_0 s0_1 s0_2 (shl .i64 1 (ji3))).bind fun bt140 => ((spec_l1Below.f s0_0 bt140.2.1 bt140.2.2 (shl .i64 1 (ji3))).bind fun bt143 => ((spec_l1Below.f s0_0 bt143.2.1 bt143.2.2 (shl .i64 1 (ji3))).bind fun bt146 => (some (Go.bits .and .i64 bt140.1 bt143.1, bt146.1, bt146.2.1, bt146.2.2))))) else (none)) = some (r1, r2, r3, r4) := by first | (rw [hji3] at H; exact H) | (simp only [hji3] at H ⊢; exact H)
 by_cases c4 : 0 ≤ (ji3)
 ·
  rw [if_pos c4] at H; have c4b0 := eq_true c4; have c4b1 : decide (0 ≤ (ji3)) = true := decide_eq_true c4; clear c4; obtain ⟨ji5, hji5⟩ : ∃ j_ : Int, (shl .i64 1 (ji3)) = j_ := ⟨_, rfl⟩
  replace H : ((spec_l1Below.f s0_0 s0_1 s0_2 (ji5)).bind fun bt140 => ((spec_l1Below.f s0_0 bt140.2.1 bt140.2.2 (ji5)).bind fun bt143 => ((spec_l1Below.f s0_0 bt143.2.1 bt143.2.2 (ji5)).bind fun bt146 => (some (Go.bits .and .i64 bt140.1 bt143.1, bt146.1, bt146.2.1, bt146.2.2))))) = some (r1, r2, r3, r4) := by first | (rw [hji5] at H; exact H) | (simp only [hji5] at H ⊢; exact H)
  have hji5_ : (IntKind.i64.wrap (1 * 2 ^ min (ji3).toNat 64)) = ji5 := hji5; have hji5z : (ji3) ≤ 64 → (IntKind.i64.wrap (1 * 2 ^ (ji3).toNat)) = ji5 := shl_small hji5
  have hji5u : (IntKind.i64.wrap (2 ^ min (ji3).toNat 64)) = ji5 := by have h_ := hji5_; rw [Int.one_mul] at h_; exact h_
  have hji5v : (ji3) ≤ 64 → (IntKind.i64.wrap (2 ^ (ji3).toNat)) = ji5 := fun hle_ => by have h_ := hji5z hle_; rw [Int.one_mul] at h_; exact h_
  have hji5y : (wrap64 (1 * 2 ^ min (ji3).toNat 64)) = ji5 := (i64_w _).symm.trans hji5_
  have hji5x : (ji3) ≤ 64 → (wrap64 (1 * 2 ^ (ji3).toNat)) = ji5 := fun h_ => (i64_w _).symm.trans (hji5z h_)
  obtain ⟨⟨t140, t141, t142⟩, A6, H⟩ := bnd3_ H; dsimp only at H
  have c7b0 := eq_true (of_decide_eq_true (by first | (with_reducible assumption) | assumption) : 0 ≤ (ji3))
  obtain ⟨⟨t143, t144, t145⟩, A8, H⟩ := bnd3_ H; dsimp only at H
  have c9b0 := eq_true (of_decide_eq_true (by first | (with_reducible assumption) | assumption) : 0 ≤ (ji3))
  obtain ⟨⟨t146, t147, t148⟩, A10, H⟩ := bnd3_ H; dsimp only at H
  simp only [Option.some.injEq, Prod.mk.injEq] at H
  obtain ⟨rfl, rfl, rfl, rfl⟩ := H
  go_enter Tryz.func172, Tryz.ntmps172
  go_wp2_with (first | (refine be_ 4 #[.int .i64 0, .int .i64 0] 48 ?_; intro gb139 hg w11 hbox hb; have n_ := ac_ (IsS152.below s5_ hb) <| ac_ (KeepBut.trans s6_ (KeepBut.of_below hb g none) (.inl rfl)) <| ac_ (below_step (by repeat (first | (with_reducible first | exact HB.out | apply below_alloc | apply pw_below_drewN | apply below_drew1 | refine below_set ?_ (IsS152.ge HI0.out)) | exact HB.out)) hb) <| ac_ (hbox) <| ac_ ((by rw [hg]; exact (keep_size (w := w) (g := g) (row := none) s6_) : w.heap.size ≤ gb139)) <| ac_ ((Nat.le_trans HW0.out (by rw [hg]; exact (keep_size (w := w) (g := g) (row := none) s6_) : w.heap.size ≤ gb139) : w0.heap.size ≤ gb139)) <| ac_ ((nl_ hg (IsS152.lt (show IsS152 w0 _ g s0_0 s0_1 s0_2 from s5_)))) <| Aside0.mk ((ng_ hg (IsS152.lt (show IsS152 w0 _ g s0_0 s0_1 s0_2 from s5_)))); clear HI0 HK HB; obtain ⟨HI0, HK, HB, BK139, GW139, GE139, NB0_139, NB139_0⟩ := n_; clear hb hbox hg) | ((with_reducible refine gate_callee (f := 146) rfl ?_); refine goesL_ (some 10) rfl rfl Tryz.func146 (by kernel_rfl) rfl #[.pointer (some ⟨g, 0, none⟩), .int .i64 ji5] rfl q3_26 ?_; (with_reducible refine (spec_l1Below.calls g s0_0 s0_1 s0_2 ji5 t140 t141 t142 w0 _ ?side1 ?side2 A6.out).mono ?_); (case side1 => exact q3_22); (case side2 => exact q3_23); rintro e w12 ⟨rfl, hi, hb, hk⟩; refine ⟨_, rfl, ?_⟩; have n_ := ac_ (KeepBut.blk hk (g' := gb139) (o := .cells #[.int .i64 0, .int .i64 0] 48 (0, 0)) q3_28 NB139_0.out (by simp)) <| ac_ (KeepBut.trans q3_24 hk (.inl rfl)) <| ac_ (hb) <| Aside0.mk (hi); clear BK139 HK HB HI0; obtain ⟨BK139, HK, HB, HI0⟩ := n_; (try clear hb hk hi)) | ((with_reducible refine gate_callee (f := 146) rfl ?_); refine goesL_ (some 15) rfl rfl Tryz.func146 (by kernel_rfl) rfl #[.pointer (some ⟨g, 0, none⟩), .int .i64 ji5] rfl q3_26 ?_; (with_reducible refine (spec_l1Below.calls g s0_0 t141 t142 ji5 t143 t144 t145 w0 _ ?side1 ?side2 A8.out).mono ?_); (case side1 => exact q3_22); (case side2 => exact q3_23); rintro e w13 ⟨rfl, hi, hb, hk⟩; refine ⟨_, rfl, ?_⟩; have n_ := ac_ (KeepBut.blk hk (g' := gb139) (o := .cells #[.int .i64 0, .int .i64 0] 48 (0, 0)) q3_28 NB139_0.out (by simp)) <| ac_ (KeepBut.trans q3_24 hk (.inl rfl)) <| ac_ (hb) <| Aside0.mk (hi); clear BK139 HK HB HI0; obtain ⟨BK139, HK, HB, HI0⟩ := n_; (try clear hb hk hi)) | ((with_reducible refine gate_callee (f := 146) rfl ?_); refine goesL_ (some 22) rfl rfl Tryz.func146 (by kernel_rfl) rfl #[.pointer (some ⟨g, 0, none⟩), .int .i64 ji5] rfl q3_26 ?_; (with_reducible refine (spec_l1Below.calls g s0_0 t144 t145 ji5 t146 t147 t148 w0 _ ?side1 ?side2 A10.out).mono ?_); (case side1 => exact q3_22); (case side2 => exact q3_23); rintro e w14 ⟨rfl, hi, hb, hk⟩; refine ⟨_, rfl, ?_⟩; have n_ := ac_ (KeepBut.blk hk (g' := gb139) (o := .cells #[.int .i64 0, .int .i64 0] 48 (0, 0)) q3_28 NB139_0.out (by simp)) <| ac_ (KeepBut.trans q3_24 hk (.inl rfl)) <| ac_ (hb) <| Aside0.mk (hi); clear BK139 HK HB HI0; obtain ⟨BK139, HK, HB, HI0⟩ := n_; (try clear hb hk hi); have hnb15 := NB139_0.out; have hnc15 := NB0_139.out; have hcz16_0 : w14.cell? ⟨gb139, 0, none⟩ = some (.int .i64 0) := (blk_cell BK139.out 0).trans rfl; have hcz16_1 : w14.cell? ⟨gb139, 1, none⟩ = some (.int .i64 0) := (blk_cell BK139.out 1).trans rfl; have hfz16_0 := blk_frozen BK139.out 0; have hfz16_1 := blk_frozen BK139.out 1))
  refine bodyPost_ret (results_cell_row rfl _ _ gb139 48 #[.int .i64 (Go.bits .and .i64 t140 t143), .int .i64 t146] (0, 0) _ rfl (by (with_reducible repeat (first | refine blk_drewN ?_ _ | refine blk_drew ?_ | refine blk_alloc ?_ _)); refine blk_put (cs := #[.int .i64 (Go.bits .and .i64 t140 t143), .int .i64 0]) ?_ 1 _ rfl; (with_reducible repeat (first | refine blk_drewN ?_ _ | refine blk_drew ?_ | refine blk_alloc ?_ _)); refine blk_put (cs := #[.int .i64 0, .int .i64 0]) ?_ 0 _ rfl; (with_reducible repeat (first | refine blk_drewN ?_ _ | refine blk_drew ?_ | refine blk_alloc ?_ _)); exact BK139.out) Tryz.underlying48 rfl (by kernel_rfl)) rfl ?_
  exact ⟨(by first | rfl | (simp [errW_none, errW_some] <;> rfl) | (simp only [← hji3, ← hji5]; first | rfl | (simp [errW_none, errW_some] <;> rfl)) | (simp [*, errW_none, errW_some] <;> rfl)), q3_22, q3_23, q3_24⟩
 ·
  rw [if_neg c4] at H
  exact absurd H (by simp)
def impl_inSet.f (a0 : Int) (a1 : Int) : Option (Bool) := some ((Go.bits .andNot .i64 a0 a1) == 0)
set_option maxHeartbeats 40000000 in
set_option maxRecDepth 100000 in
theorem impl_inSet.calls (a0 : Int) (a1 : Int) (r : Bool) (w : World) (h : impl_inSet.f a0 a1 = some r) :
  Calls Tryz.prog 141 #[.int .i64 a0, .int .i64 a1] w fun e w' => e = .returned (.bool r) ∧ Drawn0 w w' := by
 have H := h; clear h; unfold impl_inSet.f at H; obtain rfl := Option.some.inj H
 go_enter Tryz.func141, Tryz.ntmps141
 go_wp2
 go_ret
 exact ⟨(by first | rfl | (simp; done) | (simp [*]; done) | (simp [i64_w, i32_w]; done)), (by repeat (first | exact Drawn0.refl _ | apply Drawn0.step))⟩
def impl_within.f (a0 : Int) (a1 : Int) (a2 : Int) : Option (Bool) := if a1 ≤ a0 then (some (decide (a0 ≤ a2))) else (some false)
set_option maxHeartbeats 40000000 in
set_option maxRecDepth 100000 in
theorem impl_within.calls (a0 : Int) (a1 : Int) (a2 : Int) (r : Bool) (w : World) (h : impl_within.f a0 a1 a2 = some r) :
  Calls Tryz.prog 127 #[.int .i64 a0, .int .i64 a1, .int .i64 a2] w fun e w' => e = .returned (.bool r) ∧ Drawn0 w w' := by
 have H := h; clear h; unfold impl_within.f at H
 by_cases c4 : a1 ≤ a0
 ·
  rw [if_pos c4] at H; have c4b0 : decide (a1 ≤ a0) = true := decide_eq_true c4; clear c4; obtain rfl := Option.some.inj H
  go_enter Tryz.func127, Tryz.ntmps127
  go_wp2
  go_ret
  exact ⟨(by first | rfl | (simp; done) | (simp [*]; done) | (simp [i64_w, i32_w]; done)), (by repeat (first | exact Drawn0.refl _ | apply Drawn0.step))⟩
 ·
  rw [if_neg c4] at H; have c4b0 : decide (a1 ≤ a0) = false := decide_eq_false c4; clear c4; obtain rfl := Option.some.inj H
  go_enter Tryz.func127, Tryz.ntmps127
  go_wp2
  go_ret
  exact ⟨(by first | rfl | (simp; done) | (simp [*]; done) | (simp [i64_w, i32_w]; done)), (by repeat (first | exact Drawn0.refl _ | apply Drawn0.step))⟩
def impl_IsSet.f (a0 : Int) (a1 : Int) : Option (Bool) := (impl_within.f a0 0 8).bind fun t207 => (if t207 = true then (if 0 ≤ a0 then ((impl_within.f a1 0 (wrap64 ((shl .i64 1 a0) - 1))).bind fun t208 => (some t208)) else (none)) else (some false))
set_option maxHeartbeats 40000000 in
set_option maxRecDepth 100000 in
theorem impl_IsSet.calls (a0 : Int) (a1 : Int) (r : Bool) (w : World) (h : impl_IsSet.f a0 a1 = some r) :
  Calls Tryz.prog 130 #[.int .i64 a0, .int .i64 a1] w fun e w' => e = .returned (.bool r) ∧ Drawn0 w w' := by
 have H := h; clear h; unfold impl_IsSet.f at H; obtain ⟨t207, A3, H⟩ := bnd3_ H
 by_cases c4 : t207 = true
 ·
  subst c4; rw [if_pos rfl] at H
  by_cases c5 : 0 ≤ a0
  ·
   rw [if_pos c5] at H; have c5b0 := eq_true c5; have c5b1 : decide (0 ≤ a0) = true := decide_eq_true c5; clear c5; obtain ⟨ji6, hji6⟩ : ∃ j_ : Int, (shl .i64 1 a0) = j_ := ⟨_, rfl⟩
   replace H : ((impl_within.f a1 0 (wrap64 ((ji6) - 1))).bind fun t208 => (some t208)) = some r := by first | (rw [hji6] at H; exact H) | (simp only [hji6] at H ⊢; exact H)
   (try rw [hji6] at A3)
   have hji6_ : (IntKind.i64.wrap (1 * 2 ^ min a0.toNat 64)) = ji6 := hji6; have hji6z : a0 ≤ 64 → (IntKind.i64.wrap (1 * 2 ^ a0.toNat)) = ji6 := shl_small hji6
   have hji6u : (IntKind.i64.wrap (2 ^ min a0.toNat 64)) = ji6 := by have h_ := hji6_; rw [Int.one_mul] at h_; exact h_
   have hji6v : a0 ≤ 64 → (IntKind.i64.wrap (2 ^ a0.toNat)) = ji6 := fun hle_ => by have h_ := hji6z hle_; rw [Int.one_mul] at h_; exact h_
   have hji6y : (wrap64 (1 * 2 ^ min a0.toNat 64)) = ji6 := (i64_w _).symm.trans hji6_
   have hji6x : a0 ≤ 64 → (wrap64 (1 * 2 ^ a0.toNat)) = ji6 := fun h_ => (i64_w _).symm.trans (hji6z h_)
   obtain ⟨t208, A7, H⟩ := bnd3_ H; obtain rfl := Option.some.inj H
   go_enter Tryz.func130, Tryz.ntmps130
   go_wp2_with (first | (refine gL_ 127 6 Tryz.func127 #[.int .i64 a0, .int .i64 0, .int .i64 8] ?_; (with_reducible refine (impl_within.calls a0 0 8 true _ A3.out).mono ?_); rintro e w' ⟨rfl, ⟨nd, rfl⟩⟩; refine ⟨_, rfl, ?_⟩) | (go_at_call 127; (with_reducible refine (impl_within.calls a1 0 (wrap64 ((ji6) - 1)) t208 _ A7.out).mono ?_); rintro e w' ⟨rfl, ⟨nd, rfl⟩⟩))
   go_ret
   exact ⟨(by first | rfl | (simp; done) | (simp only [← hji6] <;> (first | rfl | simp)) | (simp [*]; done)), (by repeat (first | exact Drawn0.refl _ | apply Drawn0.step))⟩
  ·
   rw [if_neg c5] at H
   exact absurd H (by simp)
 ·
  replace c4 := Bool.eq_false_iff.mpr c4; subst c4
  rw [if_neg (show ¬ (false = true) by decide)] at H
  obtain rfl := Option.some.inj H
  go_enter Tryz.func130, Tryz.ntmps130
  go_wp2_with (first | (refine gL_ 127 6 Tryz.func127 #[.int .i64 a0, .int .i64 0, .int .i64 8] ?_; (with_reducible refine (impl_within.calls a0 0 8 false _ A3.out).mono ?_); rintro e w' ⟨rfl, ⟨nd, rfl⟩⟩; refine ⟨_, rfl, ?_⟩))
  go_ret
  exact ⟨(by first | rfl | (simp; done) | (simp [*]; done) | (simp [i64_w, i32_w]; done)), (by repeat (first | exact Drawn0.refl _ | apply Drawn0.step))⟩
def impl_isAnySet.f (a0 : Int) : Option (Bool) := (impl_IsSet.f 8 a0).bind fun t209 => (some t209)
set_option maxHeartbeats 40000000 in
set_option maxRecDepth 100000 in
theorem impl_isAnySet.calls (a0 : Int) (r : Bool) (w : World) (h : impl_isAnySet.f a0 = some r) :
  Calls Tryz.prog 177 #[.int .i64 a0] w fun e w' => e = .returned (.bool r) ∧ Drawn0 w w' := by
 have H := h; clear h; unfold impl_isAnySet.f at H; obtain ⟨t209, A2, H⟩ := bnd3_ H; obtain rfl := Option.some.inj H
 go_enter Tryz.func177, Tryz.ntmps177
 go_wp2_with (first | ((with_reducible refine gate_callee (f := 130) rfl ?_); refine goesL_ (some 4) rfl rfl Tryz.func130 (by kernel_rfl) rfl #[.int .i64 8, .int .i64 a0] rfl (by (try simp only [List.map_toArray, List.map_cons, List.map_nil]); first | done | rfl | (simp only [List.length_drop, List.length_take]; rfl)) ?_; (with_reducible refine (impl_IsSet.calls 8 a0 t209 _ A2.out).mono ?_); rintro e w' ⟨rfl, ⟨nd, rfl⟩⟩; refine ⟨_, rfl, ?_⟩))
 go_ret
 exact ⟨(by first | rfl | (simp; done) | (simp [*]; done) | (simp [i64_w, i32_w]; done)), (by repeat (first | exact Drawn0.refl _ | apply Drawn0.step))⟩
theorem q3_30 {P : Prop} (h : P := by repeat (first | (with_reducible first | exact HB.out | apply below_alloc | apply pw_below_drewN | apply below_drew1 | refine below_set ?_ GE210.out) | exact HB.out)) : P := h
def impl_areAnyRules_1.f (a0_0 : Int) (a0_1 : Int) : Option (Bool) := (impl_isAnySet.f a0_0).bind fun t211 => (if t211 = true then ((impl_isAnySet.f a0_1).bind fun t212 => (some (!t212))) else (some true))
set_option maxHeartbeats 40000000 in
set_option maxRecDepth 100000 in
theorem impl_areAnyRules_1.calls (a0_0 : Int) (a0_1 : Int) (r : Bool) (w : World) (h : impl_areAnyRules_1.f a0_0 a0_1 = some r) :
  Calls Tryz.prog 218 #[.agg #[.int .i64 a0_0, .int .i64 a0_1]] w fun e w' => e = .returned (.bool r) ∧ Below w.heap.size w w' := by
 have hu48 := Tryz.underlying48; have HB := Aside0.mk (Below.refl w.heap.size w); have H := h; clear h; unfold impl_areAnyRules_1.f at H; obtain ⟨t211, A2, H⟩ := bnd3_ H
 by_cases c3 : t211 = true
 ·
  subst c3; rw [if_pos rfl] at H; obtain ⟨t212, A4, H⟩ := bnd3_ H; obtain rfl := Option.some.inj H
  go_enter Tryz.func218, Tryz.ntmps218
  go_wp2_with (first | (refine be_ 1 #[.int .i64 a0_0, .int .i64 a0_1] 48 ?_; intro gb210 hg w5 hbox hb; have n_ := ac_ (below_step s1_ hb) <| ac_ (hbox) <| ac_ ((gz_ w hg s1_)) <| Aside0.mk ((gz_ w hg s1_)); clear HB; obtain ⟨HB, BK210, GW210, GE210⟩ := n_; clear hb hbox hg; have hcz6_0 : w5.cell? ⟨gb210, 0, none⟩ = some (.int .i64 a0_0) := (blk_cell BK210.out 0).trans rfl; have hcz6_1 : w5.cell? ⟨gb210, 1, none⟩ = some (.int .i64 a0_1) := (blk_cell BK210.out 1).trans rfl; have hfz6_0 := blk_frozen BK210.out 0; have hfz6_1 := blk_frozen BK210.out 1) | (refine gL_ 177 5 Tryz.func177 #[.int .i64 a0_0] ?_; (with_reducible refine (impl_isAnySet.calls a0_0 true _ A2.out).mono ?_); rintro e w' ⟨rfl, ⟨nd, rfl⟩⟩; refine ⟨_, rfl, ?_⟩) | (go_at_call 177; (with_reducible refine (impl_isAnySet.calls a0_1 t212 _ A4.out).mono ?_); rintro e w' ⟨rfl, ⟨nd, rfl⟩⟩))
  go_ret
  exact ⟨(by first | rfl | (simp [errW_none, errW_some] <;> rfl) | (simp [*, errW_none, errW_some] <;> rfl)), q3_30⟩
 ·
  replace c3 := Bool.eq_false_iff.mpr c3; subst c3
  rw [if_neg (show ¬ (false = true) by decide)] at H
  obtain rfl := Option.some.inj H
  go_enter Tryz.func218, Tryz.ntmps218
  go_wp2_with (first | (refine be_ 1 #[.int .i64 a0_0, .int .i64 a0_1] 48 ?_; intro gb210 hg w7 hbox hb; have n_ := ac_ (below_step s1_ hb) <| ac_ (hbox) <| ac_ ((gz_ w hg s1_)) <| Aside0.mk ((gz_ w hg s1_)); clear HB; obtain ⟨HB, BK210, GW210, GE210⟩ := n_; clear hb hbox hg; have hcz8_0 : w7.cell? ⟨gb210, 0, none⟩ = some (.int .i64 a0_0) := (blk_cell BK210.out 0).trans rfl; have hcz8_1 : w7.cell? ⟨gb210, 1, none⟩ = some (.int .i64 a0_1) := (blk_cell BK210.out 1).trans rfl; have hfz8_0 := blk_frozen BK210.out 0; have hfz8_1 := blk_frozen BK210.out 1) | (refine gL_ 177 5 Tryz.func177 #[.int .i64 a0_0] ?_; (with_reducible refine (impl_isAnySet.calls a0_0 false _ A2.out).mono ?_); rintro e w' ⟨rfl, ⟨nd, rfl⟩⟩; refine ⟨_, rfl, ?_⟩))
  go_ret
  exact ⟨(by first | rfl | (simp [errW_none, errW_some] <;> rfl) | (simp [*, errW_none, errW_some] <;> rfl)), q3_30⟩
def impl_HasElement.f (a0 : Int) (a1 : Int) : Option (Bool) := (impl_isAnySet.f a0).bind fun t223 => (if t223 = true then ((impl_within.f a1 0 7).bind fun t224 => (if t224 = true then (if 0 ≤ a1 then (some ((Go.bits .and .i64 (shr .i64 a0 a1) 1) == 1)) else (none)) else (some false))) else (some false))
set_option maxHeartbeats 40000000 in
set_option maxRecDepth 100000 in
theorem impl_HasElement.calls (a0 : Int) (a1 : Int) (r : Bool) (w : World) (h : impl_HasElement.f a0 a1 = some r) :
  Calls Tryz.prog 212 #[.int .i64 a0, .int .i64 a1] w fun e w' => e = .returned (.bool r) ∧ Drawn0 w w' := by
 have H := h; clear h; unfold impl_HasElement.f at H; obtain ⟨t223, A3, H⟩ := bnd3_ H
 by_cases c4 : t223 = true
 ·
  subst c4; rw [if_pos rfl] at H; obtain ⟨t224, A5, H⟩ := bnd3_ H
  by_cases c6 : t224 = true
  ·
   subst c6; rw [if_pos rfl] at H
   by_cases c7 : 0 ≤ a1
   ·
    rw [if_pos c7] at H; have c7b0 := eq_true c7; have c7b1 : decide (0 ≤ a1) = true := decide_eq_true c7; clear c7; obtain ⟨ji8, hji8⟩ : ∃ j_ : Int, (shr .i64 a0 a1) = j_ := ⟨_, rfl⟩
    replace H : (some ((Go.bits .and .i64 (ji8) 1) == 1)) = some r := by first | (rw [hji8] at H; exact H) | (simp only [hji8] at H ⊢; exact H)
    (try rw [hji8] at A3)
    (try rw [hji8] at A5)
    have hji8_ : (a0 / 2 ^ min a1.toNat 64) = ji8 := hji8; have hji8z : a1 ≤ 64 → (a0 / 2 ^ a1.toNat) = ji8 := shr_small hji8; obtain rfl := Option.some.inj H
    go_enter Tryz.func212, Tryz.ntmps212
    go_wp2_with (first | (refine gL_ 177 6 Tryz.func177 #[.int .i64 a0] ?_; (with_reducible refine (impl_isAnySet.calls a0 true _ A3.out).mono ?_); rintro e w' ⟨rfl, ⟨nd, rfl⟩⟩; refine ⟨_, rfl, ?_⟩) | (go_at_call 127; (with_reducible refine (impl_within.calls a1 0 7 true _ A5.out).mono ?_); rintro e w' ⟨rfl, ⟨nd, rfl⟩⟩))
    go_ret
    exact ⟨(by first | rfl | (simp; done) | (simp only [← hji8] <;> (first | rfl | simp)) | (simp [*]; done)), (by repeat (first | exact Drawn0.refl _ | apply Drawn0.step))⟩
   ·
    rw [if_neg c7] at H
    exact absurd H (by simp)
  ·
   replace c6 := Bool.eq_false_iff.mpr c6; subst c6
   rw [if_neg (show ¬ (false = true) by decide)] at H
   obtain rfl := Option.some.inj H
   go_enter Tryz.func212, Tryz.ntmps212
   go_wp2_with (first | (refine gL_ 177 6 Tryz.func177 #[.int .i64 a0] ?_; (with_reducible refine (impl_isAnySet.calls a0 true _ A3.out).mono ?_); rintro e w' ⟨rfl, ⟨nd, rfl⟩⟩; refine ⟨_, rfl, ?_⟩) | (go_at_call 127; (with_reducible refine (impl_within.calls a1 0 7 false _ A5.out).mono ?_); rintro e w' ⟨rfl, ⟨nd, rfl⟩⟩))
   go_ret
   exact ⟨(by first | rfl | (simp; done) | (simp [*]; done) | (simp [i64_w, i32_w]; done)), (by repeat (first | exact Drawn0.refl _ | apply Drawn0.step))⟩
 ·
  replace c4 := Bool.eq_false_iff.mpr c4; subst c4
  rw [if_neg (show ¬ (false = true) by decide)] at H
  obtain rfl := Option.some.inj H
  go_enter Tryz.func212, Tryz.ntmps212
  go_wp2_with (first | (refine gL_ 177 6 Tryz.func177 #[.int .i64 a0] ?_; (with_reducible refine (impl_isAnySet.calls a0 false _ A3.out).mono ?_); rintro e w' ⟨rfl, ⟨nd, rfl⟩⟩; refine ⟨_, rfl, ?_⟩))
  go_ret
  exact ⟨(by first | rfl | (simp; done) | (simp [*]; done) | (simp [i64_w, i32_w]; done)), (by repeat (first | exact Drawn0.refl _ | apply Drawn0.step))⟩
def spec_l1In.f (a0 : Int) (a1 : Int) (a2 : Int) : Option (Bool) := if a0 ≥ a1 then (some (decide (a0 ≤ a2))) else (some false)
set_option maxHeartbeats 40000000 in
set_option maxRecDepth 100000 in
theorem spec_l1In.calls (a0 : Int) (a1 : Int) (a2 : Int) (r : Bool) (w : World) (h : spec_l1In.f a0 a1 a2 = some r) :
  Calls Tryz.prog 132 #[.int .i64 a0, .int .i64 a1, .int .i64 a2] w fun e w' => e = .returned (.bool r) ∧ Drawn0 w w' := by
 have H := h; clear h; unfold spec_l1In.f at H
 by_cases c4 : a0 ≥ a1
 ·
  rw [if_pos c4] at H; have c4b0 : decide (a1 ≤ a0) = true := decide_eq_true c4; clear c4; obtain rfl := Option.some.inj H
  go_enter Tryz.func132, Tryz.ntmps132
  go_wp2
  go_ret
  exact ⟨(by first | rfl | (simp; done) | (simp [*]; done) | (simp [i64_w, i32_w]; done)), (by repeat (first | exact Drawn0.refl _ | apply Drawn0.step))⟩
 ·
  rw [if_neg c4] at H; have c4b0 : decide (a1 ≤ a0) = false := decide_eq_false c4; clear c4; obtain rfl := Option.some.inj H
  go_enter Tryz.func132, Tryz.ntmps132
  go_wp2
  go_ret
  exact ⟨(by first | rfl | (simp; done) | (simp [*]; done) | (simp [i64_w, i32_w]; done)), (by repeat (first | exact Drawn0.refl _ | apply Drawn0.step))⟩
def spec_IsSet.f (a0 : Int) (a1 : Int) : Option (Bool) := (spec_l1In.f a0 0 8).bind fun t282 => (if t282 = true then (if 0 ≤ (IntKind.u64.wrap (a0)) then ((spec_l1In.f a1 0 (wrap64 ((shl .i64 1 (IntKind.u64.wrap (a0))) - 1))).bind fun t283 => (some t283)) else (none)) else (some false))
set_option maxHeartbeats 40000000 in
set_option maxRecDepth 100000 in
theorem spec_IsSet.calls (a0 : Int) (a1 : Int) (r : Bool) (w : World) (h : spec_IsSet.f a0 a1 = some r) :
  Calls Tryz.prog 86 #[.int .i64 a0, .int .i64 a1] w fun e w' => e = .returned (.bool r) ∧ Drawn0 w w' := by
 have H := h; clear h; unfold spec_IsSet.f at H; obtain ⟨t282, A3, H⟩ := bnd3_ H
 by_cases c4 : t282 = true
 ·
  subst c4; rw [if_pos rfl] at H; obtain ⟨ji5, hji5⟩ : ∃ j_ : Int, (IntKind.u64.wrap (a0)) = j_ := ⟨_, rfl⟩
  replace H : (if 0 ≤ (ji5) then ((spec_l1In.f a1 0 (wrap64 ((shl .i64 1 (ji5)) - 1))).bind fun t283 => (some t283)) else (none)) = some r := by first | (rw [hji5] at H; exact H) | (simp only [hji5] at H ⊢; exact H)
  (try rw [hji5] at A3)
  by_cases c6 : 0 ≤ (ji5)
  ·
   rw [if_pos c6] at H; have c6b0 := eq_true c6; have c6b1 : decide (0 ≤ (ji5)) = true := decide_eq_true c6; clear c6; obtain ⟨ji7, hji7⟩ : ∃ j_ : Int, (shl .i64 1 (ji5)) = j_ := ⟨_, rfl⟩
   replace H : ((spec_l1In.f a1 0 (wrap64 ((ji7) - 1))).bind fun t283 => (some t283)) = some r := by first | (rw [hji7] at H; exact H) | (simp only [hji7] at H ⊢; exact H)
   (try rw [hji7] at A3)
   have hji7_ : (IntKind.i64.wrap (1 * 2 ^ min (ji5).toNat 64)) = ji7 := hji7; have hji7z : (ji5) ≤ 64 → (IntKind.i64.wrap (1 * 2 ^ (ji5).toNat)) = ji7 := shl_small hji7
   have hji7u : (IntKind.i64.wrap (2 ^ min (ji5).toNat 64)) = ji7 := by have h_ := hji7_; rw [Int.one_mul] at h_; exact h_
   have hji7v : (ji5) ≤ 64 → (IntKind.i64.wrap (2 ^ (ji5).toNat)) = ji7 := fun hle_ => by have h_ := hji7z hle_; rw [Int.one_mul] at h_; exact h_
   have hji7y : (wrap64 (1 * 2 ^ min (ji5).toNat 64)) = ji7 := (i64_w _).symm.trans hji7_
   have hji7x : (ji5) ≤ 64 → (wrap64 (1 * 2 ^ (ji5).toNat)) = ji7 := fun h_ => (i64_w _).symm.trans (hji7z h_)
   obtain ⟨t283, A8, H⟩ := bnd3_ H; obtain rfl := Option.some.inj H
   go_enter Tryz.func86, Tryz.ntmps86
   go_wp2_with (first | (refine gL_ 132 6 Tryz.func132 #[.int .i64 a0, .int .i64 0, .int .i64 8] ?_; (with_reducible refine (spec_l1In.calls a0 0 8 true _ A3.out).mono ?_); rintro e w' ⟨rfl, ⟨nd, rfl⟩⟩; refine ⟨_, rfl, ?_⟩) | (go_at_call 132; (with_reducible refine (spec_l1In.calls a1 0 (wrap64 ((ji7) - 1)) t283 _ A8.out).mono ?_); rintro e w' ⟨rfl, ⟨nd, rfl⟩⟩))
   go_ret
   exact ⟨(by first | rfl | (simp; done) | (simp only [← hji5, ← hji7] <;> (first | rfl | simp)) | (simp [*]; done)), (by repeat (first | exact Drawn0.refl _ | apply Drawn0.step))⟩
  ·
   rw [if_neg c6] at H
   exact absurd H (by simp)
 ·
  replace c4 := Bool.eq_false_iff.mpr c4; subst c4
  rw [if_neg (show ¬ (false = true) by decide)] at H
  obtain rfl := Option.some.inj H
  go_enter Tryz.func86, Tryz.ntmps86
  go_wp2_with (first | (refine gL_ 132 6 Tryz.func132 #[.int .i64 a0, .int .i64 0, .int .i64 8] ?_; (with_reducible refine (spec_l1In.calls a0 0 8 false _ A3.out).mono ?_); rintro e w' ⟨rfl, ⟨nd, rfl⟩⟩; refine ⟨_, rfl, ?_⟩))
  go_ret
  exact ⟨(by first | rfl | (simp; done) | (simp [*]; done) | (simp [i64_w, i32_w]; done)), (by repeat (first | exact Drawn0.refl _ | apply Drawn0.step))⟩
theorem q3_35 {P : Prop} (h : P := by repeat (first | (with_reducible first | exact HB.out | apply below_alloc | apply pw_below_drewN | apply below_drew1 | refine below_set ?_ GE284.out) | exact HB.out)) : P := h
def spec_l9Rule.f (a0 : Int) (a1_0 : Int) (a1_1 : Int) : Option (Bool) := (spec_IsSet.f a0 a1_0).bind fun t285 => (if t285 = true then ((spec_IsSet.f a0 a1_1).bind fun t286 => (some t286)) else (some false))
set_option maxHeartbeats 40000000 in
set_option maxRecDepth 100000 in
theorem spec_l9Rule.calls (a0 : Int) (a1_0 : Int) (a1_1 : Int) (r : Bool) (w : World) (h : spec_l9Rule.f a0 a1_0 a1_1 = some r) :
  Calls Tryz.prog 157 #[.int .i64 a0, .agg #[.int .i64 a1_0, .int .i64 a1_1]] w fun e w' => e = .returned (.bool r) ∧ Below w.heap.size w w' := by
 have hu48 := Tryz.underlying48; have HB := Aside0.mk (Below.refl w.heap.size w); have H := h; clear h; unfold spec_l9Rule.f at H; obtain ⟨t285, A3, H⟩ := bnd3_ H
 by_cases c4 : t285 = true
 ·
  subst c4; rw [if_pos rfl] at H; obtain ⟨t286, A5, H⟩ := bnd3_ H; obtain rfl := Option.some.inj H
  go_enter Tryz.func157, Tryz.ntmps157
  go_wp2_with (first | (refine be_ 3 #[.int .i64 a1_0, .int .i64 a1_1] 48 ?_; intro gb284 hg w6 hbox hb; have n_ := ac_ (below_step s1_ hb) <| ac_ (hbox) <| ac_ ((gz_ w hg s1_)) <| Aside0.mk ((gz_ w hg s1_)); clear HB; obtain ⟨HB, BK284, GW284, GE284⟩ := n_; clear hb hbox hg; have hcz7_0 : w6.cell? ⟨gb284, 0, none⟩ = some (.int .i64 a1_0) := (blk_cell BK284.out 0).trans rfl; have hcz7_1 : w6.cell? ⟨gb284, 1, none⟩ = some (.int .i64 a1_1) := (blk_cell BK284.out 1).trans rfl; have hfz7_0 := blk_frozen BK284.out 0; have hfz7_1 := blk_frozen BK284.out 1) | (refine gL_ 86 8 Tryz.func86 #[.int .i64 a0, .int .i64 a1_0] ?_; (with_reducible refine (spec_IsSet.calls a0 a1_0 true _ A3.out).mono ?_); rintro e w' ⟨rfl, ⟨nd, rfl⟩⟩; refine ⟨_, rfl, ?_⟩) | (go_at_call 86; (with_reducible refine (spec_IsSet.calls a0 a1_1 t286 _ A5.out).mono ?_); rintro e w' ⟨rfl, ⟨nd, rfl⟩⟩))
  go_ret
  exact ⟨(by first | rfl | (simp [errW_none, errW_some] <;> rfl) | (simp [*, errW_none, errW_some] <;> rfl)), q3_35⟩
 ·
  replace c4 := Bool.eq_false_iff.mpr c4; subst c4
  rw [if_neg (show ¬ (false = true) by decide)] at H
  obtain rfl := Option.some.inj H
  go_enter Tryz.func157, Tryz.ntmps157
  go_wp2_with (first | (refine be_ 3 #[.int .i64 a1_0, .int .i64 a1_1] 48 ?_; intro gb284 hg w8 hbox hb; have n_ := ac_ (below_step s1_ hb) <| ac_ (hbox) <| ac_ ((gz_ w hg s1_)) <| Aside0.mk ((gz_ w hg s1_)); clear HB; obtain ⟨HB, BK284, GW284, GE284⟩ := n_; clear hb hbox hg; have hcz9_0 : w8.cell? ⟨gb284, 0, none⟩ = some (.int .i64 a1_0) := (blk_cell BK284.out 0).trans rfl; have hcz9_1 : w8.cell? ⟨gb284, 1, none⟩ = some (.int .i64 a1_1) := (blk_cell BK284.out 1).trans rfl; have hfz9_0 := blk_frozen BK284.out 0; have hfz9_1 := blk_frozen BK284.out 1) | (refine gL_ 86 8 Tryz.func86 #[.int .i64 a0, .int .i64 a1_0] ?_; (with_reducible refine (spec_IsSet.calls a0 a1_0 false _ A3.out).mono ?_); rintro e w' ⟨rfl, ⟨nd, rfl⟩⟩; refine ⟨_, rfl, ?_⟩))
  go_ret
  exact ⟨(by first | rfl | (simp [errW_none, errW_some] <;> rfl) | (simp [*, errW_none, errW_some] <;> rfl)), q3_35⟩
def spec_AreRules.l0 : Nat → Int → List (S48) → Int → Option (Bool)
 | 0, _, _, _ => none
 | k + 1, x0, x1, x5 => if x5 < (x1.length : Int) then (if 0 ≤ x5 then ((spec_l9Rule.f x0 ((rd_T48 x1 x5).f0) ((rd_T48 x1 x5).f1)).bind fun t288 => (if t288 = true then (spec_AreRules.l0 k x0 x1 (wrap64 (x5 + 1))) else (some false))) else (none)) else ((spec_l1In.f x0 0 6).bind fun t289 => (if t289 = true then (some (decide ((x1.length : Int) ≤ 40))) else (some false)))
def spec_AreRules.f (k : Nat) (a0 : Int) (l1 : List (S48)) : Option (Bool) := spec_AreRules.l0 k a0 l1 0
set_option maxHeartbeats 40000000 in
set_option maxRecDepth 100000 in
theorem spec_AreRules.calls (k : Nat) (a0 : Int) (A1 : Option Addr) (c1 : Nat) (l1 : List (S48)) (r : Bool) (w : World) (hr1 : Kd.C k48 w A1 l1.length l1) (hc1 : l1.length ≤ c1) (h : spec_AreRules.f k a0 l1 = some r) :
  Calls Tryz.prog 82 #[.int .i64 a0, .slice A1 l1.length c1] w fun e w' => e = .returned (.bool r) ∧ Below w.heap.size w w' := by
 have hu48 := Tryz.underlying48; have HR1 := Aside0.mk hr1; have HC1 := Aside0.mk hc1; clear hr1 hc1; have HB := Aside0.mk (Below.refl w.heap.size w); have H := h; clear h; unfold spec_AreRules.f at H; have H' := Aside0.mk H; clear H
 go_enter Tryz.func82, Tryz.ntmps82
 go_wp2
 go_loopg [5] k (fun kq v5 w' => ∃ (x5_1 : Int), v5 = .int .i64 x5_1 ∧ Aside0 (spec_AreRules.l0 kq a0 l1 x5_1 = some r) ∧ Aside0 (kq ≤ k) ∧ Aside0 (Below w.heap.size w w'))
 case atStart => exact ⟨(0), (by first | rfl | (simp; done) | (simp [*]; done) | (simp [i64_w, i32_w]; done)), H', ⟨Nat.le_refl _⟩, ⟨s1_⟩⟩
 case round =>
  clear H'
  try clear c1
  try clear p2
  obtain ⟨x5_1, rfl, HA, HK1, HB⟩ := hrel
  cases gk with
  | zero => exact absurd HA.out (by simp [spec_AreRules.l0])
  | succ k1 =>
   have H := HA.out; clear HA
   simp only [spec_AreRules.l0] at H
   by_cases c3 : x5_1 < (l1.length : Int)
   ·
    rw [if_pos c3] at H; have c3b0 : decide (x5_1 < (l1.length : Int)) = true := decide_eq_true c3; clear c3
    by_cases c4 : 0 ≤ x5_1
    ·
     rw [if_pos c4] at H; have c4b0 : decide (0 ≤ x5_1) = true := decide_eq_true c4; clear c4; obtain ⟨t288, A5, H⟩ := bnd3_ H
     by_cases c6 : t288 = true
     ·
      subst c6; rw [if_pos rfl] at H; have H' := Aside0.mk H; clear H; have p287 : 0 ≤ (x5_1 : Int) := of_decide_eq_true s3_; have q287 : x5_1 < (l1.length : Int) := of_decide_eq_true s3_; obtain ⟨ad287, e287, hx287_0, hx287_1⟩ := at_T48 HR1.out x5_1 p287 q287
      cases e287
      replace hx287_0 := (HB.out.cell (World.block_lt_of_cell? w _ hx287_0)).trans hx287_0; replace hx287_1 := (HB.out.cell (World.block_lt_of_cell? w _ hx287_1)).trans hx287_1; replace p287 := eq_true p287; replace q287 := eq_true q287
      go_wp2_with (first | (refine gL_ 157 17 Tryz.func157 #[.int .i64 a0, .agg #[.int .i64 ((rd_T48 l1 x5_1).f0), .int .i64 ((rd_T48 l1 x5_1).f1)]] ?_; (with_reducible refine (spec_l9Rule.calls a0 ((rd_T48 l1 x5_1).f0) ((rd_T48 l1 x5_1).f1) true _ A5.out).mono ?_); rintro e w7 ⟨rfl, hb⟩; refine ⟨_, rfl, ?_⟩; have n_ := Aside0.mk (below_step s1_ hb); clear HB; have HB := n_; clear n_; (try clear hb)))
      go_roundg k1
      case measure => have := HK1.out; omega
      case rel => exact ⟨(wrap64 (x5_1 + 1)), (by first | rfl | (simp; done) | (simp [*]; done) | (simp [i64_w, i32_w]; done)), H', ⟨by have := HK1.out; omega⟩, ⟨s1_⟩⟩
     ·
      replace c6 := Bool.eq_false_iff.mpr c6; subst c6
      rw [if_neg (show ¬ (false = true) by decide)] at H
      obtain rfl := Option.some.inj H; have p287 : 0 ≤ (x5_1 : Int) := of_decide_eq_true s3_; have q287 : x5_1 < (l1.length : Int) := of_decide_eq_true s3_; obtain ⟨ad287, e287, hx287_0, hx287_1⟩ := at_T48 HR1.out x5_1 p287 q287
      cases e287
      replace hx287_0 := (HB.out.cell (World.block_lt_of_cell? w _ hx287_0)).trans hx287_0; replace hx287_1 := (HB.out.cell (World.block_lt_of_cell? w _ hx287_1)).trans hx287_1; replace p287 := eq_true p287; replace q287 := eq_true q287
      go_wp2_with (first | (refine gL_ 157 17 Tryz.func157 #[.int .i64 a0, .agg #[.int .i64 ((rd_T48 l1 x5_1).f0), .int .i64 ((rd_T48 l1 x5_1).f1)]] ?_; (with_reducible refine (spec_l9Rule.calls a0 ((rd_T48 l1 x5_1).f0) ((rd_T48 l1 x5_1).f1) false _ A5.out).mono ?_); rintro e w8 ⟨rfl, hb⟩; refine ⟨_, rfl, ?_⟩; have n_ := Aside0.mk (below_step s1_ hb); clear HB; have HB := n_; clear n_; (try clear hb)))
      go_ret
      exact ⟨s7_, s1_⟩
    ·
     rw [if_neg c4] at H
     exact absurd H (by simp)
   ·
    rw [if_neg c3] at H; have c3b0 : decide (x5_1 < (l1.length : Int)) = false := decide_eq_false c3; clear c3; obtain ⟨t289, A9, H⟩ := bnd3_ H
    by_cases c10 : t289 = true
    ·
     subst c10; rw [if_pos rfl] at H; obtain rfl := Option.some.inj H
     go_wp2_with (first | (refine gL_ 132 20 Tryz.func132 #[.int .i64 a0, .int .i64 0, .int .i64 6] ?_; (with_reducible refine (spec_l1In.calls a0 0 6 true _ A9.out).mono ?_); rintro e w' ⟨rfl, ⟨nd, rfl⟩⟩; refine ⟨_, rfl, ?_⟩))
     go_ret
     exact ⟨s7_, s1_⟩
    ·
     replace c10 := Bool.eq_false_iff.mpr c10; subst c10
     rw [if_neg (show ¬ (false = true) by decide)] at H
     obtain rfl := Option.some.inj H
     go_wp2_with (first | (refine gL_ 132 20 Tryz.func132 #[.int .i64 a0, .int .i64 0, .int .i64 6] ?_; (with_reducible refine (spec_l1In.calls a0 0 6 false _ A9.out).mono ?_); rintro e w' ⟨rfl, ⟨nd, rfl⟩⟩; refine ⟨_, rfl, ?_⟩))
     go_ret
     exact ⟨s7_, s1_⟩
end Go.Proofs.YtafnamchckehmaaGreatDoor.Pr
namespace Go.Proofs.YtafnamchckehmaaGreatDoor.Pr
open Go.RowKit Go.Proofs.YtafnamchckehmaaGreatDoorW.PrintWords Go.Proofs.YtafnamchckehmaaGreatDoorW.PrintLast Go.Proofs.YtafnamchckehmaaGreatDoorW.PrintMore
attribute [local go_sem] max2_int min2_int max_two min_two max_three min_three max_four min_four
set_option linter.unusedVariables false
set_option linter.unusedSimpArgs false
theorem eqA48 (d : Nat) (w : World) (x0 y0 : Int) (x1 y1 : Int) :
    (Op.equalIn (d + 2) 48 (.agg #[.int .i64 x0, .int .i64 x1]) (.agg #[.int .i64 y0, .int .i64 y1])).run Tryz.prog w = .ok (x0 == y0 && (x1 == y1)) w := by
  refine eqA_of Tryz.underlying48 (by kernel_rfl) ?_
  refine eqf_cons (by rfl) (by go_simp; rfl) (by go_simp; rfl) (by go_simp) ?_
  exact eqf_last (by rfl) (by go_simp; rfl) (by go_simp; rfl) (by go_simp)
end Go.Proofs.YtafnamchckehmaaGreatDoor.Pr
namespace Go.Proofs.YtafnamchckehmaaGreatDoor.Pr
open Go.RowKit Go.Proofs.YtafnamchckehmaaGreatDoorW.PrintWords Go.Proofs.YtafnamchckehmaaGreatDoorW.PrintLast Go.Proofs.YtafnamchckehmaaGreatDoorW.PrintMore
attribute [local go_sem] max2_int min2_int max_two min_two max_three min_three max_four min_four
set_option linter.unusedVariables false
set_option linter.unusedSimpArgs false
attribute [local go_sem high] eqA48
theorem bnd4_ {α β : Type} {o : Option α} {f : α → Option β} {r : β} (h : o.bind f = some r) : ∃ a, Aside0 (o = some a) ∧ f a = some r := by
 obtain ⟨a, h1, h2⟩ := Option.bind_eq_some_iff.mp h
 exact ⟨a, ⟨h1⟩, h2⟩
def spec_FullSet.f (a0 : Int) : Option (Int) := (spec_l1In.f a0 0 8).bind fun t290 => (if t290 = true then (if 0 ≤ (IntKind.u64.wrap (a0)) then (some (wrap64 ((shl .i64 1 (IntKind.u64.wrap (a0))) - 1))) else (none)) else (some 0))
set_option maxHeartbeats 40000000 in
set_option maxRecDepth 100000 in
theorem spec_FullSet.calls (a0 : Int) (r : Int) (w : World) (h : spec_FullSet.f a0 = some r) :
  Calls Tryz.prog 62 #[.int .i64 a0] w fun e w' => e = .returned (.int .i64 r) ∧ Drawn0 w w' := by
 have H := h; clear h; unfold spec_FullSet.f at H; obtain ⟨t290, A2, H⟩ := bnd4_ H
 by_cases c3 : t290 = true
 ·
  subst c3; rw [if_pos rfl] at H; obtain ⟨ji4, hji4⟩ : ∃ j_ : Int, (IntKind.u64.wrap (a0)) = j_ := ⟨_, rfl⟩
  replace H : (if 0 ≤ (ji4) then (some (wrap64 ((shl .i64 1 (ji4)) - 1))) else (none)) = some r := by first | (rw [hji4] at H; exact H) | (simp only [hji4] at H ⊢; exact H)
  (try rw [hji4] at A2)
  by_cases c5 : 0 ≤ (ji4)
  ·
   rw [if_pos c5] at H; have c5b0 := eq_true c5; have c5b1 : decide (0 ≤ (ji4)) = true := decide_eq_true c5; clear c5; obtain ⟨ji6, hji6⟩ : ∃ j_ : Int, (shl .i64 1 (ji4)) = j_ := ⟨_, rfl⟩
   replace H : (some (wrap64 ((ji6) - 1))) = some r := by first | (rw [hji6] at H; exact H) | (simp only [hji6] at H ⊢; exact H)
   (try rw [hji6] at A2)
   have hji6_ : (IntKind.i64.wrap (1 * 2 ^ min (ji4).toNat 64)) = ji6 := hji6; have hji6z : (ji4) ≤ 64 → (IntKind.i64.wrap (1 * 2 ^ (ji4).toNat)) = ji6 := shl_small hji6
   have hji6u : (IntKind.i64.wrap (2 ^ min (ji4).toNat 64)) = ji6 := by have h_ := hji6_; rw [Int.one_mul] at h_; exact h_
   have hji6v : (ji4) ≤ 64 → (IntKind.i64.wrap (2 ^ (ji4).toNat)) = ji6 := fun hle_ => by have h_ := hji6z hle_; rw [Int.one_mul] at h_; exact h_
   have hji6y : (wrap64 (1 * 2 ^ min (ji4).toNat 64)) = ji6 := (i64_w _).symm.trans hji6_
   have hji6x : (ji4) ≤ 64 → (wrap64 (1 * 2 ^ (ji4).toNat)) = ji6 := fun h_ => (i64_w _).symm.trans (hji6z h_)
   obtain rfl := Option.some.inj H
   go_enter Tryz.func62, Tryz.ntmps62
   go_wp2_with (first | (refine gL_ 132 4 Tryz.func132 #[.int .i64 a0, .int .i64 0, .int .i64 8] ?_; (with_reducible refine (spec_l1In.calls a0 0 8 true _ A2.out).mono ?_); rintro e w' ⟨rfl, ⟨nd, rfl⟩⟩; refine ⟨_, rfl, ?_⟩))
   go_ret
   exact ⟨(by first | rfl | (simp; done) | (simp only [← hji4, ← hji6] <;> (first | rfl | simp)) | (simp [*]; done)), (by repeat (first | exact Drawn0.refl _ | apply Drawn0.step))⟩
  ·
   rw [if_neg c5] at H
   exact absurd H (by simp)
 ·
  replace c3 := Bool.eq_false_iff.mpr c3; subst c3
  rw [if_neg (show ¬ (false = true) by decide)] at H
  obtain rfl := Option.some.inj H
  go_enter Tryz.func62, Tryz.ntmps62
  go_wp2_with (first | (refine gL_ 132 4 Tryz.func132 #[.int .i64 a0, .int .i64 0, .int .i64 8] ?_; (with_reducible refine (spec_l1In.calls a0 0 8 false _ A2.out).mono ?_); rintro e w' ⟨rfl, ⟨nd, rfl⟩⟩; refine ⟨_, rfl, ?_⟩))
  go_ret
  exact ⟨(by first | rfl | (simp; done) | (simp [*]; done) | (simp [i64_w, i32_w]; done)), (by repeat (first | exact Drawn0.refl _ | apply Drawn0.step))⟩
mutual
def spec_l9Closed.l0 : Nat → List (S48) → Int → Bool → Option (Int)
 | 0, _, _, _ => none
 | k + 1, x0, x1, x5 => if x5 = true then (spec_l9Closed.l1 k x0 x1 false 0) else (some x1)
def spec_l9Closed.l1 : Nat → List (S48) → Int → Bool → Int → Option (Int)
 | 0, _, _, _, _ => none
 | k + 1, x0, x1, x5, x6 => if x6 < (x0.length : Int) then (if 0 ≤ x6 then (if (Go.bits .and .i64 ((rd_T48 x0 x6).f0) x1) = ((rd_T48 x0 x6).f0) then (if (Go.bits .and .i64 ((rd_T48 x0 x6).f1) x1) = ((rd_T48 x0 x6).f1) then (spec_l9Closed.l1 k x0 x1 x5 (wrap64 (x6 + 1))) else (spec_l9Closed.l1 k x0 (Go.bits .or .i64 x1 ((rd_T48 x0 x6).f1)) true (wrap64 (x6 + 1)))) else (spec_l9Closed.l1 k x0 x1 x5 (wrap64 (x6 + 1)))) else (none)) else (spec_l9Closed.l0 k x0 x1 x5)
end
def spec_l9Closed.f (k : Nat) (l0 : List (S48)) (a1 : Int) : Option (Int) := spec_l9Closed.l0 k l0 a1 true
set_option maxHeartbeats 40000000 in
set_option maxRecDepth 100000 in
theorem spec_l9Closed.calls (k : Nat) (A0 : Option Addr) (c0 : Nat) (l0 : List (S48)) (a1 : Int) (r : Int) (w : World) (hr0 : Kd.C k48 w A0 l0.length l0) (hc0 : l0.length ≤ c0) (h : spec_l9Closed.f k l0 a1 = some r) :
  Calls Tryz.prog 138 #[.slice A0 l0.length c0, .int .i64 a1] w fun e w' => e = .returned (.int .i64 r) ∧ Drawn0 w w' := by
 have HR0 := Aside0.mk hr0; have HC0 := Aside0.mk hc0; clear hr0 hc0; have H := h; clear h; unfold spec_l9Closed.f at H; have H' := Aside0.mk H; clear H
 go_enter Tryz.func138, Tryz.ntmps138
 go_wp2
 repeat (go_quiet (fail); try go_wp2)
 go_loopg [1, 5] k (fun kq v1 v5 w' => ∃ (x1_1 : Int) (x5_1 : Bool), v1 = .int .i64 x1_1 ∧ v5 = .bool x5_1 ∧ Aside0 (spec_l9Closed.l0 kq l0 x1_1 x5_1 = some r) ∧ Aside0 (kq ≤ k) ∧ Drawn0 w w')
 case atStart => exact ⟨(a1), (true), s2_, s2_, H', ⟨Nat.le_refl _⟩, s4_⟩
 case round =>
  clear H'
  try clear c1
  try clear p2
  obtain ⟨x1_1, x5_1, rfl, rfl, HA, HK1, ⟨m1, rfl⟩⟩ := hrel
  cases gk with
  | zero => exact absurd HA.out (by simp [spec_l9Closed.l0])
  | succ k1 =>
   have H := HA.out; clear HA
   simp only [spec_l9Closed.l0] at H
   by_cases c3 : x5_1 = true
   ·
    subst c3; rw [if_pos rfl] at H; have H' := Aside0.mk H; clear H
    go_wp2
    repeat (go_quiet (fail); try go_wp2)
    go_loopg [1, 5, 6] k1 (fun kq v1 v5 v6 w' => ∃ (x1_2 : Int) (x5_2 : Bool) (x6_2 : Int), v1 = .int .i64 x1_2 ∧ v5 = .bool x5_2 ∧ v6 = .int .i64 x6_2 ∧ Aside0 (spec_l9Closed.l1 kq l0 x1_2 x5_2 x6_2 = some r) ∧ Aside0 (kq ≤ k1) ∧ Drawn0 w w')
    case atStart => exact ⟨(x1_1), (false), (0), s2_, s2_, s2_, H', ⟨Nat.le_refl _⟩, s4_⟩
    case round =>
     clear H'
     try clear c1
     try clear p2
     try clear c3
     try clear p2
     obtain ⟨x1_2, x5_2, x6_2, rfl, rfl, rfl, HA, HK2, ⟨m2, rfl⟩⟩ := hrel
     cases gk with
     | zero => exact absurd HA.out (by simp [spec_l9Closed.l1])
     | succ k2 =>
      have H := HA.out; clear HA
      simp only [spec_l9Closed.l1] at H
      by_cases c4 : x6_2 < (l0.length : Int)
      ·
       rw [if_pos c4] at H; have c4b0 : decide (x6_2 < (l0.length : Int)) = true := decide_eq_true c4; clear c4
       by_cases c5 : 0 ≤ x6_2
       ·
        rw [if_pos c5] at H; have c5b0 : decide (0 ≤ x6_2) = true := decide_eq_true c5; clear c5
        by_cases c6 : (Go.bits .and .i64 ((rd_T48 l0 x6_2).f0) x1_2) = ((rd_T48 l0 x6_2).f0)
        ·
         rw [if_pos c6] at H; have c6b0 : ((Go.bits .and .i64 ((rd_T48 l0 x6_2).f0) x1_2) == ((rd_T48 l0 x6_2).f0)) = true := beq_iff_eq.mpr c6; have c6b1 : ((Go.bits .and .i64 ((rd_T48 l0 x6_2).f0) x1_2) != ((rd_T48 l0 x6_2).f0)) = false := bne_eq_false_iff_eq.mpr c6; clear c6
         by_cases c7 : (Go.bits .and .i64 ((rd_T48 l0 x6_2).f1) x1_2) = ((rd_T48 l0 x6_2).f1)
         ·
          rw [if_pos c7] at H; have c7b0 : ((Go.bits .and .i64 ((rd_T48 l0 x6_2).f1) x1_2) == ((rd_T48 l0 x6_2).f1)) = true := beq_iff_eq.mpr c7; have c7b1 : ((Go.bits .and .i64 ((rd_T48 l0 x6_2).f1) x1_2) != ((rd_T48 l0 x6_2).f1)) = false := bne_eq_false_iff_eq.mpr c7; clear c7; have H' := Aside0.mk H; clear H; have p291 : 0 ≤ (x6_2 : Int) := of_decide_eq_true s3_; have q291 : x6_2 < (l0.length : Int) := of_decide_eq_true s3_; obtain ⟨ad291, e291, hx291_0, hx291_1⟩ := at_T48 HR0.out x6_2 p291 q291
          cases e291
          replace p291 := eq_true p291; replace q291 := eq_true q291; have p292 : 0 ≤ (x6_2 : Int) := of_decide_eq_true s3_; have q292 : x6_2 < (l0.length : Int) := of_decide_eq_true s3_; obtain ⟨ad292, e292, hx292_0, hx292_1⟩ := at_T48 HR0.out x6_2 p292 q292
          obtain rfl : ad291 = ad292 := (by injection e292)
          replace p292 := eq_true p292; replace q292 := eq_true q292; have p293 : 0 ≤ (x6_2 : Int) := of_decide_eq_true s3_; have q293 : x6_2 < (l0.length : Int) := of_decide_eq_true s3_; obtain ⟨ad293, e293, hx293_0, hx293_1⟩ := at_T48 HR0.out x6_2 p293 q293
          obtain rfl : ad291 = ad293 := (by injection e293)
          replace p293 := eq_true p293; replace q293 := eq_true q293; have p294 : 0 ≤ (x6_2 : Int) := of_decide_eq_true s3_; have q294 : x6_2 < (l0.length : Int) := of_decide_eq_true s3_; obtain ⟨ad294, e294, hx294_0, hx294_1⟩ := at_T48 HR0.out x6_2 p294 q294
          obtain rfl : ad291 = ad294 := (by injection e294)
          replace p294 := eq_true p294; replace q294 := eq_true q294
          go_wp2
          repeat (go_quiet (fail); try go_wp2)
          go_roundg k2
          case measure => have := HK1.out; have := HK2.out; omega
          case rel => exact ⟨(x1_2), (x5_2), (wrap64 (x6_2 + 1)), s2_, s2_, s2_, H', ⟨by have := HK1.out; have := HK2.out; omega⟩, s4_⟩
         ·
          rw [if_neg c7] at H; have c7b0 : ((Go.bits .and .i64 ((rd_T48 l0 x6_2).f1) x1_2) == ((rd_T48 l0 x6_2).f1)) = false := beq_eq_false_iff_ne.mpr c7; have c7b1 : ((Go.bits .and .i64 ((rd_T48 l0 x6_2).f1) x1_2) != ((rd_T48 l0 x6_2).f1)) = true := bne_iff_ne.mpr c7; have H' := Aside0.mk H; clear H; have p291 : 0 ≤ (x6_2 : Int) := of_decide_eq_true s3_; have q291 : x6_2 < (l0.length : Int) := of_decide_eq_true s3_; obtain ⟨ad291, e291, hx291_0, hx291_1⟩ := at_T48 HR0.out x6_2 p291 q291
          cases e291
          replace p291 := eq_true p291; replace q291 := eq_true q291; have p292 : 0 ≤ (x6_2 : Int) := of_decide_eq_true s3_; have q292 : x6_2 < (l0.length : Int) := of_decide_eq_true s3_; obtain ⟨ad292, e292, hx292_0, hx292_1⟩ := at_T48 HR0.out x6_2 p292 q292
          obtain rfl : ad291 = ad292 := (by injection e292)
          replace p292 := eq_true p292; replace q292 := eq_true q292; have p293 : 0 ≤ (x6_2 : Int) := of_decide_eq_true s3_; have q293 : x6_2 < (l0.length : Int) := of_decide_eq_true s3_; obtain ⟨ad293, e293, hx293_0, hx293_1⟩ := at_T48 HR0.out x6_2 p293 q293
          obtain rfl : ad291 = ad293 := (by injection e293)
          replace p293 := eq_true p293; replace q293 := eq_true q293; have p294 : 0 ≤ (x6_2 : Int) := of_decide_eq_true s3_; have q294 : x6_2 < (l0.length : Int) := of_decide_eq_true s3_; obtain ⟨ad294, e294, hx294_0, hx294_1⟩ := at_T48 HR0.out x6_2 p294 q294
          obtain rfl : ad291 = ad294 := (by injection e294)
          replace p294 := eq_true p294; replace q294 := eq_true q294; have p295 : 0 ≤ (x6_2 : Int) := of_decide_eq_true s3_; have q295 : x6_2 < (l0.length : Int) := of_decide_eq_true s3_; obtain ⟨ad295, e295, hx295_0, hx295_1⟩ := at_T48 HR0.out x6_2 p295 q295
          obtain rfl : ad291 = ad295 := (by injection e295)
          replace p295 := eq_true p295; replace q295 := eq_true q295
          go_wp2
          repeat (go_quiet (fail); try go_wp2)
          go_roundg k2
          case measure => have := HK1.out; have := HK2.out; omega
          case rel => exact ⟨(Go.bits .or .i64 x1_2 ((rd_T48 l0 x6_2).f1)), (true), (wrap64 (x6_2 + 1)), s2_, s2_, s2_, H', ⟨by have := HK1.out; have := HK2.out; omega⟩, s4_⟩
        ·
         rw [if_neg c6] at H; have c6b0 : ((Go.bits .and .i64 ((rd_T48 l0 x6_2).f0) x1_2) == ((rd_T48 l0 x6_2).f0)) = false := beq_eq_false_iff_ne.mpr c6; have c6b1 : ((Go.bits .and .i64 ((rd_T48 l0 x6_2).f0) x1_2) != ((rd_T48 l0 x6_2).f0)) = true := bne_iff_ne.mpr c6; have H' := Aside0.mk H; clear H; have p291 : 0 ≤ (x6_2 : Int) := of_decide_eq_true s3_; have q291 : x6_2 < (l0.length : Int) := of_decide_eq_true s3_; obtain ⟨ad291, e291, hx291_0, hx291_1⟩ := at_T48 HR0.out x6_2 p291 q291
         cases e291
         replace p291 := eq_true p291; replace q291 := eq_true q291; have p292 : 0 ≤ (x6_2 : Int) := of_decide_eq_true s3_; have q292 : x6_2 < (l0.length : Int) := of_decide_eq_true s3_; obtain ⟨ad292, e292, hx292_0, hx292_1⟩ := at_T48 HR0.out x6_2 p292 q292
         obtain rfl : ad291 = ad292 := (by injection e292)
         replace p292 := eq_true p292; replace q292 := eq_true q292
         go_wp2
         repeat (go_quiet (fail); try go_wp2)
         go_roundg k2
         case measure => have := HK1.out; have := HK2.out; omega
         case rel => exact ⟨(x1_2), (x5_2), (wrap64 (x6_2 + 1)), s2_, s2_, s2_, H', ⟨by have := HK1.out; have := HK2.out; omega⟩, s4_⟩
       ·
        rw [if_neg c5] at H
        exact absurd H (by simp)
      ·
       rw [if_neg c4] at H; have c4b0 : decide (x6_2 < (l0.length : Int)) = false := decide_eq_false c4; clear c4; have H' := Aside0.mk H; clear H
       go_wp2
       repeat (go_quiet (fail); try go_wp2)
       go_roundg k2
       case measure => have := HK1.out; have := HK2.out; omega
       case rel => exact ⟨(x1_2), (x5_2), s2_, s2_, H', ⟨by have := HK1.out; have := HK2.out; omega⟩, s4_⟩
   ·
    replace c3 := Bool.eq_false_iff.mpr c3; subst c3
    rw [if_neg (show ¬ (false = true) by decide)] at H
    obtain rfl := Option.some.inj H
    go_wp2
    repeat (go_quiet (fail); try go_wp2)
    go_ret
    exact ⟨s2_, s4_⟩
def laws_sameRules.l0 : Nat → List (S48) → List (S48) → Int → Option (Bool)
 | 0, _, _, _ => none
 | k + 1, x0, x1, x5 => if x5 < (x0.length : Int) then (if 0 ≤ x5 then (if x5 < (x1.length : Int) then (if (!(((rd_T48 x0 x5).f0) == ((rd_T48 x1 x5).f0)) || (!(((rd_T48 x0 x5).f1) == ((rd_T48 x1 x5).f1)))) = true then (some false) else (laws_sameRules.l0 k x0 x1 (wrap64 (x5 + 1)))) else (none)) else (none)) else (some true)
def laws_sameRules.f (k : Nat) (l0 : List (S48)) (l1 : List (S48)) : Option (Bool) := if (l0.length : Int) = (l1.length : Int) then (laws_sameRules.l0 k l0 l1 0) else (some false)
set_option maxHeartbeats 40000000 in
set_option maxRecDepth 100000 in
theorem laws_sameRules.calls (k : Nat) (A0 : Option Addr) (c0 : Nat) (l0 : List (S48)) (A1 : Option Addr) (c1 : Nat) (l1 : List (S48)) (r : Bool) (w : World) (hr0 : Kd.C k48 w A0 l0.length l0) (hc0 : l0.length ≤ c0) (hr1 : Kd.C k48 w A1 l1.length l1) (hc1 : l1.length ≤ c1) (h : laws_sameRules.f k l0 l1 = some r) :
  Calls Tryz.prog 27 #[.slice A0 l0.length c0, .slice A1 l1.length c1] w fun e w' => e = .returned (.bool r) ∧ Drawn0 w w' := by
 have hu48 := Tryz.underlying48; have HR0 := Aside0.mk hr0; have HC0 := Aside0.mk hc0; clear hr0 hc0; have HR1 := Aside0.mk hr1; have HC1 := Aside0.mk hc1; clear hr1 hc1; have H := h; clear h; unfold laws_sameRules.f at H
 by_cases c3 : (l0.length : Int) = (l1.length : Int)
 ·
  rw [if_pos c3] at H; have c3b0 : ((l0.length : Int) == (l1.length : Int)) = true := beq_iff_eq.mpr c3; have c3b1 : ((l0.length : Int) != (l1.length : Int)) = false := bne_eq_false_iff_eq.mpr c3
  have c3b2 : (l0.length == l1.length) = true := by first | simpa using c3 | (simp at c3 ⊢; omega)
  clear c3; have H' := Aside0.mk H; clear H
  go_enter Tryz.func27, Tryz.ntmps27
  go_wp2
  repeat (go_quiet (fail); try go_wp2)
  go_loopg [5] k (fun kq v5 w' => ∃ (x5_1 : Int), v5 = .int .i64 x5_1 ∧ Aside0 (laws_sameRules.l0 kq l0 l1 x5_1 = some r) ∧ Aside0 (kq ≤ k) ∧ Drawn0 w w')
  case atStart => exact ⟨(0), s2_, H', ⟨Nat.le_refl _⟩, s4_⟩
  case round =>
   clear H'
   try clear c1
   try clear c2
   try clear p2
   try clear c3
   try clear c3b0
   try clear c3b1
   try clear c3b2
   obtain ⟨x5_1, rfl, HA, HK1, ⟨m1, rfl⟩⟩ := hrel
   cases gk with
   | zero => exact absurd HA.out (by simp [laws_sameRules.l0])
   | succ k1 =>
    have H := HA.out; clear HA
    simp only [laws_sameRules.l0] at H
    by_cases c4 : x5_1 < (l0.length : Int)
    ·
     rw [if_pos c4] at H; have c4b0 : decide (x5_1 < (l0.length : Int)) = true := decide_eq_true c4; clear c4
     by_cases c5 : 0 ≤ x5_1
     ·
      rw [if_pos c5] at H; have c5b0 : decide (0 ≤ x5_1) = true := decide_eq_true c5; clear c5
      by_cases c6 : x5_1 < (l1.length : Int)
      ·
       rw [if_pos c6] at H; have c6b0 : decide (x5_1 < (l1.length : Int)) = true := decide_eq_true c6; clear c6
       by_cases c7 : (!(((rd_T48 l0 x5_1).f0) == ((rd_T48 l1 x5_1).f0)) || (!(((rd_T48 l0 x5_1).f1) == ((rd_T48 l1 x5_1).f1)))) = true
       ·
        rw [if_pos c7] at H; have c7b0 : (!(((rd_T48 l0 x5_1).f0) == ((rd_T48 l1 x5_1).f0)) || (!(((rd_T48 l0 x5_1).f1) == ((rd_T48 l1 x5_1).f1)))) = true := c7; clear c7; obtain rfl := Option.some.inj H; have p620 : 0 ≤ (x5_1 : Int) := of_decide_eq_true s3_; have q620 : x5_1 < (l0.length : Int) := of_decide_eq_true s3_; obtain ⟨ad620, e620, hx620_0, hx620_1⟩ := at_T48 HR0.out x5_1 p620 q620
        cases e620
        replace p620 := eq_true p620; replace q620 := eq_true q620; have p621 : 0 ≤ (x5_1 : Int) := of_decide_eq_true s3_; have q621 : x5_1 < (l1.length : Int) := of_decide_eq_true s3_; obtain ⟨ad621, e621, hx621_0, hx621_1⟩ := at_T48 HR1.out x5_1 p621 q621
        cases e621
        replace p621 := eq_true p621; replace q621 := eq_true q621
        go_wp2
        repeat (go_quiet (fail); try go_wp2)
        go_ret
        exact ⟨s2_, s4_⟩
       ·
        rw [if_neg c7] at H
        have c7b0 : (!(((rd_T48 l0 x5_1).f0) == ((rd_T48 l1 x5_1).f0)) || (!(((rd_T48 l0 x5_1).f1) == ((rd_T48 l1 x5_1).f1)))) = false := by simpa using c7
        clear c7; have H' := Aside0.mk H; clear H; have p620 : 0 ≤ (x5_1 : Int) := of_decide_eq_true s3_; have q620 : x5_1 < (l0.length : Int) := of_decide_eq_true s3_; obtain ⟨ad620, e620, hx620_0, hx620_1⟩ := at_T48 HR0.out x5_1 p620 q620
        cases e620
        replace p620 := eq_true p620; replace q620 := eq_true q620; have p621 : 0 ≤ (x5_1 : Int) := of_decide_eq_true s3_; have q621 : x5_1 < (l1.length : Int) := of_decide_eq_true s3_; obtain ⟨ad621, e621, hx621_0, hx621_1⟩ := at_T48 HR1.out x5_1 p621 q621
        cases e621
        replace p621 := eq_true p621; replace q621 := eq_true q621
        go_wp2
        repeat (go_quiet (fail); try go_wp2)
        go_roundg k1
        case measure => have := HK1.out; omega
        case rel => exact ⟨(wrap64 (x5_1 + 1)), s2_, H', ⟨by have := HK1.out; omega⟩, s4_⟩
      ·
       rw [if_neg c6] at H
       exact absurd H (by simp)
     ·
      rw [if_neg c5] at H
      exact absurd H (by simp)
    ·
     rw [if_neg c4] at H; have c4b0 : decide (x5_1 < (l0.length : Int)) = false := decide_eq_false c4; clear c4; obtain rfl := Option.some.inj H
     go_wp2
     repeat (go_quiet (fail); try go_wp2)
     go_ret
     exact ⟨s2_, s4_⟩
 ·
  rw [if_neg c3] at H; have c3b0 : ((l0.length : Int) == (l1.length : Int)) = false := beq_eq_false_iff_ne.mpr c3; have c3b1 : ((l0.length : Int) != (l1.length : Int)) = true := bne_iff_ne.mpr c3
  have c3b2 : (l0.length == l1.length) = false := by first | simpa using c3 | (simp at c3 ⊢; omega)
  obtain rfl := Option.some.inj H
  go_enter Tryz.func27, Tryz.ntmps27
  go_wp2
  repeat (go_quiet (fail); try go_wp2)
  go_ret
  exact ⟨s2_, s4_⟩
end Go.Proofs.YtafnamchckehmaaGreatDoor.Pr
namespace Go.Proofs.YtafnamchckehmaaGreatDoor.Pr
open Go.RowKit Go.Proofs.YtafnamchckehmaaGreatDoorW.PrintWords Go.Proofs.YtafnamchckehmaaGreatDoorW.PrintLast Go.Proofs.YtafnamchckehmaaGreatDoorW.PrintMore
attribute [local go_sem] max2_int min2_int max_two min_two max_three min_three max_four min_four
set_option linter.unusedVariables false
set_option linter.unusedSimpArgs false
theorem bnd6_ {α β : Type} {o : Option α} {f : α → Option β} {r : β} (h : o.bind f = some r) : ∃ a, Aside0 (o = some a) ∧ f a = some r := by
 obtain ⟨a, h1, h2⟩ := Option.bind_eq_some_iff.mp h
 exact ⟨a, ⟨h1⟩, h2⟩
def impl_SortLectic_1.f (a0 : Int) : Option (Bool) := (impl_isAnySet.f a0).bind fun t222 => (some (!t222))
set_option maxHeartbeats 40000000 in
set_option maxRecDepth 100000 in
theorem impl_SortLectic_1.calls (a0 : Int) (r : Bool) (w : World) (h : impl_SortLectic_1.f a0 = some r) :
  Calls Tryz.prog 246 #[.int .i64 a0] w fun e w' => e = .returned (.bool r) ∧ Drawn0 w w' := by
 have H := h; clear h; unfold impl_SortLectic_1.f at H; obtain ⟨t222, A2, H⟩ := bnd6_ H; obtain rfl := Option.some.inj H
 go_enter Tryz.func246, Tryz.ntmps246
 go_wp2_with (first | ((with_reducible refine gate_callee (f := 177) rfl ?_); refine goesL_ (some 4) rfl rfl Tryz.func177 (by kernel_rfl) rfl #[.int .i64 a0] rfl (by (try simp only [List.map_toArray, List.map_cons, List.map_nil]); first | done | rfl | (simp only [List.length_drop, List.length_take]; rfl)) ?_; (with_reducible refine (impl_isAnySet.calls a0 t222 _ A2.out).mono ?_); rintro e w' ⟨rfl, ⟨nd, rfl⟩⟩; refine ⟨_, rfl, ?_⟩))
 go_ret
 exact ⟨(by first | rfl | (simp; done) | (simp [*]; done) | (simp [i64_w, i32_w]; done)), (by repeat (first | exact Drawn0.refl _ | apply Drawn0.step))⟩
def spec_l2In.l0 : Nat → List Int → Int → Int → Option (Bool)
 | 0, _, _, _ => none
 | k + 1, x0, x1, x5 => if x5 < (x0.length : Int) then (if 0 ≤ x5 then (if (rd x0 x5) = x1 then (some true) else (spec_l2In.l0 k x0 x1 (wrap64 (x5 + 1)))) else (none)) else (some false)
def spec_l2In.f (k : Nat) (l0 : List Int) (a1 : Int) : Option (Bool) := spec_l2In.l0 k l0 a1 0
set_option maxHeartbeats 40000000 in
set_option maxRecDepth 100000 in
theorem spec_l2In.calls (k : Nat) (A0 : Option Addr) (c0 : Nat) (l0 : List Int) (a1 : Int) (r : Bool) (w : World) (hr0 : Kd.C (Kd.int .i64) w A0 l0.length l0) (hc0 : l0.length ≤ c0) (h : spec_l2In.f k l0 a1 = some r) :
  Calls Tryz.prog 133 #[.slice A0 l0.length c0, .int .i64 a1] w fun e w' => e = .returned (.bool r) ∧ Drawn0 w w' := by
 have HR0 := Aside0.mk hr0; have HC0 := Aside0.mk hc0; clear hr0 hc0; have H := h; clear h; unfold spec_l2In.f at H; have H' := Aside0.mk H; clear H
 go_enter Tryz.func133, Tryz.ntmps133
 go_wp2
 go_loopg [5] k (fun kq v5 w' => ∃ (x5_1 : Int), v5 = .int .i64 x5_1 ∧ Aside0 (spec_l2In.l0 kq l0 a1 x5_1 = some r) ∧ Aside0 (kq ≤ k) ∧ Drawn0 w w')
 case atStart => exact ⟨(0), s2_, H', ⟨Nat.le_refl _⟩, s4_⟩
 case round =>
  clear H'
  try clear c1
  try clear p2
  obtain ⟨x5_1, rfl, HA, HK1, ⟨m1, rfl⟩⟩ := hrel
  cases gk with
  | zero => exact absurd HA.out (by simp [spec_l2In.l0])
  | succ k1 =>
   have H := HA.out; clear HA
   simp only [spec_l2In.l0] at H
   by_cases c3 : x5_1 < (l0.length : Int)
   ·
    rw [if_pos c3] at H; have c3b0 : decide (x5_1 < (l0.length : Int)) = true := decide_eq_true c3; clear c3
    by_cases c4 : 0 ≤ x5_1
    ·
     rw [if_pos c4] at H; have c4b0 : decide (0 ≤ x5_1) = true := decide_eq_true c4; clear c4
     by_cases c5 : (rd l0 x5_1) = a1
     ·
      rw [if_pos c5] at H; have c5b0 : ((rd l0 x5_1) == a1) = true := beq_iff_eq.mpr c5; have c5b1 : ((rd l0 x5_1) != a1) = false := bne_eq_false_iff_eq.mpr c5; clear c5; obtain rfl := Option.some.inj H; have p296 : 0 ≤ (x5_1 : Int) := of_decide_eq_true s3_; have q296 : x5_1 < (l0.length : Int) := of_decide_eq_true s3_; obtain ⟨ad296, e296, hx296_0⟩ := Kd.at_int HR0.out x5_1 p296 q296
      cases e296
      replace p296 := eq_true p296; replace q296 := eq_true q296
      go_wp2
      go_ret
      exact ⟨s2_, s4_⟩
     ·
      rw [if_neg c5] at H; have c5b0 : ((rd l0 x5_1) == a1) = false := beq_eq_false_iff_ne.mpr c5; have c5b1 : ((rd l0 x5_1) != a1) = true := bne_iff_ne.mpr c5; have H' := Aside0.mk H; clear H; have p296 : 0 ≤ (x5_1 : Int) := of_decide_eq_true s3_; have q296 : x5_1 < (l0.length : Int) := of_decide_eq_true s3_; obtain ⟨ad296, e296, hx296_0⟩ := Kd.at_int HR0.out x5_1 p296 q296
      cases e296
      replace p296 := eq_true p296; replace q296 := eq_true q296
      go_wp2
      go_roundg k1
      case measure => have := HK1.out; omega
      case rel => exact ⟨(wrap64 (x5_1 + 1)), s2_, H', ⟨by have := HK1.out; omega⟩, s4_⟩
    ·
     rw [if_neg c4] at H
     exact absurd H (by simp)
   ·
    rw [if_neg c3] at H; have c3b0 : decide (x5_1 < (l0.length : Int)) = false := decide_eq_false c3; clear c3; obtain rfl := Option.some.inj H
    go_wp2
    go_ret
    exact ⟨s2_, s4_⟩
def spec_BeforeSet.f (a0 : Int) (a1 : Int) : Option (Bool) := (spec_IsSet.f 8 a0).bind fun t297 => (if t297 = true then ((spec_IsSet.f 8 a1).bind fun t298 => (if t298 = true then (if a0 = a1 then (some false) else (some ((Go.bits .and .i64 a1 (Go.bits .and .i64 (Go.bits .xor .i64 a0 a1) (wrap64 (-(Go.bits .xor .i64 a0 a1))))) != 0))) else (some false))) else (some false))
set_option maxHeartbeats 40000000 in
set_option maxRecDepth 100000 in
theorem spec_BeforeSet.calls (a0 : Int) (a1 : Int) (r : Bool) (w : World) (h : spec_BeforeSet.f a0 a1 = some r) :
  Calls Tryz.prog 134 #[.int .i64 a0, .int .i64 a1] w fun e w' => e = .returned (.bool r) ∧ Drawn0 w w' := by
 have H := h; clear h; unfold spec_BeforeSet.f at H; obtain ⟨t297, A3, H⟩ := bnd6_ H
 by_cases c4 : t297 = true
 ·
  subst c4; rw [if_pos rfl] at H; obtain ⟨t298, A5, H⟩ := bnd6_ H
  by_cases c6 : t298 = true
  ·
   subst c6; rw [if_pos rfl] at H
   by_cases c7 : a0 = a1
   ·
    rw [if_pos c7] at H; have c7b0 : (a0 == a1) = true := beq_iff_eq.mpr c7; have c7b1 : (a0 != a1) = false := bne_eq_false_iff_eq.mpr c7; clear c7; obtain rfl := Option.some.inj H
    go_enter Tryz.func134, Tryz.ntmps134
    go_wp2_with (first | (refine gL_ 86 7 Tryz.func86 #[.int .i64 8, .int .i64 a0] ?_; (with_reducible refine (spec_IsSet.calls 8 a0 true _ A3.out).mono ?_); rintro e w' ⟨rfl, ⟨nd, rfl⟩⟩; refine ⟨_, rfl, ?_⟩) | (go_at_call 86; (with_reducible refine (spec_IsSet.calls 8 a1 true _ A5.out).mono ?_); rintro e w' ⟨rfl, ⟨nd, rfl⟩⟩))
    go_ret
    exact ⟨s2_, s4_⟩
   ·
    rw [if_neg c7] at H; have c7b0 : (a0 == a1) = false := beq_eq_false_iff_ne.mpr c7; have c7b1 : (a0 != a1) = true := bne_iff_ne.mpr c7; obtain rfl := Option.some.inj H
    go_enter Tryz.func134, Tryz.ntmps134
    go_wp2_with (first | (refine gL_ 86 7 Tryz.func86 #[.int .i64 8, .int .i64 a0] ?_; (with_reducible refine (spec_IsSet.calls 8 a0 true _ A3.out).mono ?_); rintro e w' ⟨rfl, ⟨nd, rfl⟩⟩; refine ⟨_, rfl, ?_⟩) | (go_at_call 86; (with_reducible refine (spec_IsSet.calls 8 a1 true _ A5.out).mono ?_); rintro e w' ⟨rfl, ⟨nd, rfl⟩⟩))
    go_ret
    exact ⟨s2_, s4_⟩
  ·
   replace c6 := Bool.eq_false_iff.mpr c6; subst c6
   rw [if_neg (show ¬ (false = true) by decide)] at H
   obtain rfl := Option.some.inj H
   go_enter Tryz.func134, Tryz.ntmps134
   go_wp2_with (first | (refine gL_ 86 7 Tryz.func86 #[.int .i64 8, .int .i64 a0] ?_; (with_reducible refine (spec_IsSet.calls 8 a0 true _ A3.out).mono ?_); rintro e w' ⟨rfl, ⟨nd, rfl⟩⟩; refine ⟨_, rfl, ?_⟩) | (go_at_call 86; (with_reducible refine (spec_IsSet.calls 8 a1 false _ A5.out).mono ?_); rintro e w' ⟨rfl, ⟨nd, rfl⟩⟩))
   go_ret
   exact ⟨s2_, s4_⟩
 ·
  replace c4 := Bool.eq_false_iff.mpr c4; subst c4
  rw [if_neg (show ¬ (false = true) by decide)] at H
  obtain rfl := Option.some.inj H
  go_enter Tryz.func134, Tryz.ntmps134
  go_wp2_with (first | (refine gL_ 86 7 Tryz.func86 #[.int .i64 8, .int .i64 a0] ?_; (with_reducible refine (spec_IsSet.calls 8 a0 false _ A3.out).mono ?_); rintro e w' ⟨rfl, ⟨nd, rfl⟩⟩; refine ⟨_, rfl, ?_⟩))
  go_ret
  exact ⟨s2_, s4_⟩
def spec_l2Sets.l0 : Nat → List Int → Int → Option (Bool)
 | 0, _, _ => none
 | k + 1, x0, x3 => if x3 < (x0.length : Int) then (if 0 ≤ x3 then ((spec_IsSet.f 8 (rd x0 x3)).bind fun t300 => (if t300 = true then (spec_l2Sets.l0 k x0 (wrap64 (x3 + 1))) else (some false))) else (none)) else (some true)
def spec_l2Sets.f (k : Nat) (l0 : List Int) : Option (Bool) := spec_l2Sets.l0 k l0 0
set_option maxHeartbeats 40000000 in
set_option maxRecDepth 100000 in
theorem spec_l2Sets.calls (k : Nat) (A0 : Option Addr) (c0 : Nat) (l0 : List Int) (r : Bool) (w : World) (hr0 : Kd.C (Kd.int .i64) w A0 l0.length l0) (hc0 : l0.length ≤ c0) (h : spec_l2Sets.f k l0 = some r) :
  Calls Tryz.prog 216 #[.slice A0 l0.length c0] w fun e w' => e = .returned (.bool r) ∧ Drawn0 w w' := by
 have HR0 := Aside0.mk hr0; have HC0 := Aside0.mk hc0; clear hr0 hc0; have H := h; clear h; unfold spec_l2Sets.f at H; have H' := Aside0.mk H; clear H
 go_enter Tryz.func216, Tryz.ntmps216
 go_wp2
 go_loopg [3] k (fun kq v3 w' => ∃ (x3_1 : Int), v3 = .int .i64 x3_1 ∧ Aside0 (spec_l2Sets.l0 kq l0 x3_1 = some r) ∧ Aside0 (kq ≤ k) ∧ Drawn0 w w')
 case atStart => exact ⟨(0), s2_, H', ⟨Nat.le_refl _⟩, s4_⟩
 case round =>
  clear H'; obtain ⟨x3_1, rfl, HA, HK1, ⟨m1, rfl⟩⟩ := hrel
  cases gk with
  | zero => exact absurd HA.out (by simp [spec_l2Sets.l0])
  | succ k1 =>
   have H := HA.out; clear HA
   simp only [spec_l2Sets.l0] at H
   by_cases c2 : x3_1 < (l0.length : Int)
   ·
    rw [if_pos c2] at H; have c2b0 : decide (x3_1 < (l0.length : Int)) = true := decide_eq_true c2; clear c2
    by_cases c3 : 0 ≤ x3_1
    ·
     rw [if_pos c3] at H; have c3b0 : decide (0 ≤ x3_1) = true := decide_eq_true c3; clear c3; obtain ⟨t300, A4, H⟩ := bnd6_ H
     by_cases c5 : t300 = true
     ·
      subst c5; rw [if_pos rfl] at H; have H' := Aside0.mk H; clear H; have p299 : 0 ≤ (x3_1 : Int) := of_decide_eq_true s3_; have q299 : x3_1 < (l0.length : Int) := of_decide_eq_true s3_; obtain ⟨ad299, e299, hx299_0⟩ := Kd.at_int HR0.out x3_1 p299 q299
      cases e299
      replace p299 := eq_true p299; replace q299 := eq_true q299
      go_wp2_with (first | (refine gL_ 86 14 Tryz.func86 #[.int .i64 8, .int .i64 (rd l0 x3_1)] ?_; (with_reducible refine (spec_IsSet.calls 8 (rd l0 x3_1) true _ A4.out).mono ?_); rintro e w' ⟨rfl, ⟨nd, rfl⟩⟩; refine ⟨_, rfl, ?_⟩))
      go_roundg k1
      case measure => have := HK1.out; omega
      case rel => exact ⟨(wrap64 (x3_1 + 1)), s2_, H', ⟨by have := HK1.out; omega⟩, s4_⟩
     ·
      replace c5 := Bool.eq_false_iff.mpr c5; subst c5
      rw [if_neg (show ¬ (false = true) by decide)] at H
      obtain rfl := Option.some.inj H; have p299 : 0 ≤ (x3_1 : Int) := of_decide_eq_true s3_; have q299 : x3_1 < (l0.length : Int) := of_decide_eq_true s3_; obtain ⟨ad299, e299, hx299_0⟩ := Kd.at_int HR0.out x3_1 p299 q299
      cases e299
      replace p299 := eq_true p299; replace q299 := eq_true q299
      go_wp2_with (first | (refine gL_ 86 14 Tryz.func86 #[.int .i64 8, .int .i64 (rd l0 x3_1)] ?_; (with_reducible refine (spec_IsSet.calls 8 (rd l0 x3_1) false _ A4.out).mono ?_); rintro e w' ⟨rfl, ⟨nd, rfl⟩⟩; refine ⟨_, rfl, ?_⟩))
      go_ret
      exact ⟨s2_, s4_⟩
    ·
     rw [if_neg c3] at H
     exact absurd H (by simp)
   ·
    rw [if_neg c2] at H; have c2b0 : decide (x3_1 < (l0.length : Int)) = false := decide_eq_false c2; clear c2; obtain rfl := Option.some.inj H
    go_wp2
    go_ret
    exact ⟨s2_, s4_⟩
end Go.Proofs.YtafnamchckehmaaGreatDoor.Pr
