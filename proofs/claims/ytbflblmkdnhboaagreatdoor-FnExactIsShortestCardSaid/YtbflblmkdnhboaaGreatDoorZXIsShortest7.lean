/- What the law needs of the program's functions as plain functions, of the proofs that their calls answer so, and of plain laws: gathered by a program of this place (pack.py) out of its printed texts. No condition beyond what each statement says. -/
import Derived.Test.YtbflblmkdnhboaaGreatDoorZXIsShortest6
import Derived.Test.YtbflblmkdnhboaaGreatDoorZXIsShortest2
import Derived.Shelf.Abstract
import Derived.Test.YtbflblmkdnhboaaGreatDoorRows
import Derived.Lib.LaidTab
import Derived.LaidSub
import Derived.MakeChecks
namespace Go.Proofs.YtbflblmkdnhboaaGreatDoor.Pr
open Go.RowKit Go.Proofs.YtbflblmkdnhboaaGreatDoorW.PrintWords Go.Proofs.YtbflblmkdnhboaaGreatDoorW.PrintLast Go.Proofs.YtbflblmkdnhboaaGreatDoorW.PrintMore
open Go.Sort Go.Shelf Go.Lib
set_option linter.unusedVariables false
set_option linter.unusedSimpArgs false
variable {α : Type} [Inhabited α]
def bsL (lt : α → α → Bool) (d : Array α) (a : Nat) : Nat → Nat → Nat → Nat
  | 0, i, _ => i
  | k + 1, i, j => if i < j then (if lt d[(i + j) / 2]! d[a]! then bsL lt d a k ((i + j) / 2 + 1) j else bsL lt d a k i ((i + j) / 2)) else i
def bsR (lt : α → α → Bool) (d : Array α) (m : Nat) : Nat → Nat → Nat → Nat
  | 0, i, _ => i
  | k + 1, i, j => if i < j then (if lt d[m]! d[(i + j) / 2]! then bsR lt d m k i ((i + j) / 2) else bsR lt d m k ((i + j) / 2 + 1) j) else i
def shU : Nat → Nat → Array α → Array α
  | _, 0, d => d
  | k, r + 1, d => shU (k + 1) r (swp d k (k + 1))
def shD : Nat → Nat → Array α → Array α
  | _, 0, d => d
  | k, r + 1, d => shD (k - 1) r (swp d k (k - 1))
theorem shU_size : ∀ (r k : Nat) (d : Array α), (shU k r d).size = d.size
  | 0, _, _ => rfl
  | r + 1, k, d => by rw [shU, shU_size r, size_swp]
theorem shD_size : ∀ (r k : Nat) (d : Array α), (shD k r d).size = d.size
  | 0, _, _ => rfl
  | r + 1, k, d => by rw [shD, shD_size r, size_swp]
theorem half_u (i j : Nat) (h : i + j < 9223372036854775808) : IntKind.u64.wrap ((i : Int) + (j : Int)) = ((i + j : Nat) : Int) := by
  rw [IntKind.wrap_u64]; omega
set_option maxHeartbeats 8000000 in
set_option maxRecDepth 1000000 in
theorem symL_s (enc : α → Value) (cf : α → α → Int) (g : Nat) (cb : Array Value) (blk off cap a m b : Nat) (hm : m = a + 1) (d0 d : Array α) (w0 w : World)
    (eg : ∀ args w, (callFunc g args).run Tryz.prog w = .ok (.enter g args) w) (hcmp : CmpLays1 Tryz.prog g cb enc cf blk off d0.size w0) (R : Row1 enc w0 blk off d0) (hs : d0.size = d.size) (S : SW enc w0 blk off d w) (hab : m < b) (hb : b ≤ d.size) (hsz : d.size < 4611686018427387904) :
    Calls Tryz.prog 92 #[.slice (some ⟨blk, off, none⟩) d.size cap, .int .i64 (a : Int), .int .i64 (m : Int), .int .i64 (b : Int), .func (.func g) #[] cb] w fun e w' => e = .returned (.tuple #[]) ∧ SW enc w0 blk off (shU a (bsL (ltOf cf) d a (b - m) m b - 1 - a) d) w' := by
  have mixed : Tryz.prog.follows .mixedOrders = true := by kernel_rfl
  have hcl0 := R.hO.cells
  simp only [Value.cells] at hcl0
  have hst := R.hO.store Tryz.prog
  have HC : Aside _ := hcmp
  have S0 : Aside (SW enc w0 blk off d w) := S
  clear S hcmp
  have z1 : (m : Int) - (a : Int) = 1 := by omega
  have hm1 : a < m := by omega
  have hm2 : m ≤ a + 1 := by omega
  clear hm
  go_enter Tryz.func92, Tryz.ntmps92
  go_wp2
  go_loopg [10, 11, 12] (b - m) (fun kx s10 s11 s12 wr => ∃ (i j : Nat), s10 = .int .i64 (i : Int) ∧ s11 = .int .i64 (j : Int) ∧ a < i ∧ i ≤ j ∧ j ≤ b ∧ j - i ≤ kx ∧ Aside (SW enc w0 blk off d wr) ∧ Hid (∃ kk, j - i ≤ kk ∧ bsL (ltOf cf) d a kk i j = bsL (ltOf cf) d a (b - m) m b))
  case atStart => exact ⟨m, b, rfl, rfl, by omega, by omega, Nat.le_refl _, Nat.le_refl _, S0, ⟨b - m, Nat.le_refl _, rfl⟩⟩
  case round =>
    clear S0
    obtain ⟨i, j, rfl, rfl, hai, hij, hjb, hkx, S1, hbs⟩ := hrel
    by_cases hlt : i < j
    · have hltz : (i : Int) < (j : Int) := by omega
      have hu := half_u i j (by omega)
      obtain ⟨h, hh⟩ : ∃ h, h = (i + j) / 2 := ⟨_, rfl⟩
      have hh2 : ((i + j : Nat) : Int) / 2 = (h : Int) := by omega
      have hiw : IntKind.i64.wrap (h : Int) = (h : Int) := by rw [IntKind.wrap_i64]; omega
      have hib : i ≤ h := by omega
      have hjb2 : h < j := by omega
      cases hlv : ltOf cf d[h]! d[a]! with
      | true =>
        obtain ⟨iN1, hiN1⟩ : ∃ q, q = h := ⟨_, rfl⟩
        obtain ⟨jN1, hjN1⟩ : ∃ q, q = a := ⟨_, rfl⟩
        have ea1 : (((i : Int) + (j : Int)) / 2).toNat = iN1 := by omega
        have pa1 : (0 : Int) ≤ ((i : Int) + (j : Int)) / 2 := by omega
        have ba1 : ((i : Int) + (j : Int)) / 2 < (d.size : Int) := by omega
        have ra1 : IntKind.i64.wrap (((i : Int) + (j : Int)) / 2) = ((i : Int) + (j : Int)) / 2 := by rw [IntKind.wrap_i64]; omega
        have ec1 : ((a : Int)).toNat = jN1 := by omega
        have pc1 : (0 : Int) ≤ (a : Int) := by omega
        have bc1 : (a : Int) < (d.size : Int) := by omega
        have rc1 : IntKind.i64.wrap ((a : Int)) = (a : Int) := by rw [IntKind.wrap_i64]; omega
        obtain ⟨x1, hx1⟩ : ∃ x, x = d[h]! := ⟨_, rfl⟩
        obtain ⟨y1, hy1⟩ : ∃ x, x = d[a]! := ⟨_, rfl⟩
        have l1a := S1.out.cl R (by omega) (h) (by omega)
        have l1b := S1.out.cl R (by omega) (a) (by omega)
        rw [← hx1, ← hiN1] at l1a
        rw [← hy1, ← hjN1] at l1b
        have hc1 := S1.out.cmp HC.out (by omega) x1 y1
        have hv1 : cf x1 y1 < 0 := by rw [hx1, hy1]; exact of_decide_eq_true hlv
        have hd1 : decide (cf x1 y1 < 0) = true := decide_eq_true hv1
        clear hx1 hy1 hiN1 hjN1
        go_wp2_with fail
        go_quiet_grown (first | (go_at_fn g; refine Calls.grown_of (hc1 _ _)))
        have S2 : Aside (SW enc w0 blk off d (grow (wr.drewN nq) osq)) := S1.out.grown nq osq
        clear l1a l1b hc1 S1
        generalize grow (wr.drewN nq) osq = w2 at S2 ⊢
        clear nq osq
        clear ea1 ec1
        go_wp2
        go_roundg (j - (h + 1))
        case measure => omega
        case rel => exact ⟨h + 1, j, by first | rfl | go_num | (congr 1; omega), rfl, by omega, by omega, by omega, Nat.le_refl _, S2, (show Hid _ from by
          obtain ⟨kk, hk, hq⟩ := hbs.out
          obtain ⟨k', rfl⟩ : ∃ k', kk = k' + 1 := ⟨kk - 1, by omega⟩
          rw [bsL, if_pos hlt, ← hh, if_pos hlv] at hq
          exact ⟨k', by omega, hq⟩)⟩
      | false =>
        obtain ⟨iN2, hiN2⟩ : ∃ q, q = h := ⟨_, rfl⟩
        obtain ⟨jN2, hjN2⟩ : ∃ q, q = a := ⟨_, rfl⟩
        have ea2 : (((i : Int) + (j : Int)) / 2).toNat = iN2 := by omega
        have pa2 : (0 : Int) ≤ ((i : Int) + (j : Int)) / 2 := by omega
        have ba2 : ((i : Int) + (j : Int)) / 2 < (d.size : Int) := by omega
        have ra2 : IntKind.i64.wrap (((i : Int) + (j : Int)) / 2) = ((i : Int) + (j : Int)) / 2 := by rw [IntKind.wrap_i64]; omega
        have ec2 : ((a : Int)).toNat = jN2 := by omega
        have pc2 : (0 : Int) ≤ (a : Int) := by omega
        have bc2 : (a : Int) < (d.size : Int) := by omega
        have rc2 : IntKind.i64.wrap ((a : Int)) = (a : Int) := by rw [IntKind.wrap_i64]; omega
        obtain ⟨x2, hx2⟩ : ∃ x, x = d[h]! := ⟨_, rfl⟩
        obtain ⟨y2, hy2⟩ : ∃ x, x = d[a]! := ⟨_, rfl⟩
        have l2a := S1.out.cl R (by omega) (h) (by omega)
        have l2b := S1.out.cl R (by omega) (a) (by omega)
        rw [← hx2, ← hiN2] at l2a
        rw [← hy2, ← hjN2] at l2b
        have hc2 := S1.out.cmp HC.out (by omega) x2 y2
        have hv2 : ¬ cf x2 y2 < 0 := by rw [hx2, hy2]; exact of_decide_eq_false hlv
        have hd2 : decide (cf x2 y2 < 0) = false := decide_eq_false hv2
        clear hx2 hy2 hiN2 hjN2
        go_wp2_with fail
        go_quiet_grown (first | (go_at_fn g; refine Calls.grown_of (hc2 _ _)))
        have S2 : Aside (SW enc w0 blk off d (grow (wr.drewN nq) osq)) := S1.out.grown nq osq
        clear l2a l2b hc2 S1
        generalize grow (wr.drewN nq) osq = w2 at S2 ⊢
        clear nq osq
        clear ea2 ec2
        go_wp2
        go_roundg (h - i)
        case measure => omega
        case rel => exact ⟨i, h, rfl, by first | rfl | go_num | (congr 1; omega), by omega, by omega, by omega, Nat.le_refl _, S2, (show Hid _ from by
          obtain ⟨kk, hk, hq⟩ := hbs.out
          obtain ⟨k', rfl⟩ : ∃ k', kk = k' + 1 := ⟨kk - 1, by omega⟩
          rw [bsL, if_pos hlt, ← hh, if_neg (by rw [hlv]; decide)] at hq
          exact ⟨k', by omega, hq⟩)⟩
    · have hltz : ¬ (i : Int) < (j : Int) := by omega
      have hI : bsL (ltOf cf) d a (b - m) m b = i := by
        obtain ⟨kk, _, hq⟩ := hbs.out
        rw [← hq]
        cases kk with
        | zero => rfl
        | succ k' => rw [bsL, if_neg hlt]
      clear hbs
      have hi1 : (i : Int) - 1 = ((i - 1 : Nat) : Int) := by omega
      go_wp2
      go_loopg [13] (i - 1 - a) (fun kx s13 wr => ∃ (k : Nat) (dk : Array α), s13 = .int .i64 (k : Int) ∧ a ≤ k ∧ k ≤ i - 1 ∧ i - 1 - k ≤ kx ∧ dk.size = d.size ∧ Aside (SW enc w0 blk off dk wr) ∧ Hid (shU k (i - 1 - k) dk = shU a (i - 1 - a) d))
      case atStart => exact ⟨a, d, rfl, Nat.le_refl _, by omega, Nat.le_refl _, rfl, S1, rfl⟩
      case round =>
        clear S1
        obtain ⟨k, dk, rfl, hak, hki, hkx2, hds, S1, heq⟩ := hrel
        by_cases hlt2 : k < i - 1
        · have hltz2 : (k : Int) < ((i - 1 : Nat) : Int) := by omega
          go_wp2_with fail
          obtain ⟨iN3, hiN3⟩ : ∃ q, q = k := ⟨_, rfl⟩
          obtain ⟨jN3, hjN3⟩ : ∃ q, q = k + 1 := ⟨_, rfl⟩
          have ea3 : ((k : Int)).toNat = iN3 := by omega
          have pa3 : (0 : Int) ≤ (k : Int) := by omega
          have ba3 : (k : Int) < (d.size : Int) := by omega
          have ra3 : IntKind.i64.wrap ((k : Int)) = (k : Int) := by rw [IntKind.wrap_i64]; omega
          have ec3 : ((k : Int) + 1).toNat = jN3 := by omega
          have pc3 : (0 : Int) ≤ (k : Int) + 1 := by omega
          have bc3 : (k : Int) + 1 < (d.size : Int) := by omega
          have rc3 : IntKind.i64.wrap ((k : Int) + 1) = (k : Int) + 1 := by rw [IntKind.wrap_i64]; omega
          obtain ⟨x3, hx3⟩ : ∃ x, x = dk[k]! := ⟨_, rfl⟩
          obtain ⟨y3, hy3⟩ : ∃ x, x = dk[k + 1]! := ⟨_, rfl⟩
          have S2 : Aside (SW enc w0 blk off (swp dk (k) (k + 1)) ((wr.setCell ⟨blk, off + iN3, none⟩ (enc y3)).setCell ⟨blk, off + jN3, none⟩ (enc x3)).drew) := by rw [hiN3, hjN3, hx3, hy3]; exact S1.out.swapped R (k) (k + 1) (by omega) (by omega)
          have c3a := S1.out.c1 R (by omega) (k) (by omega)
          have c3b := S1.out.c1 R (by omega) (k + 1) (by omega)
          have f3a := S1.out.f1 R (by omega) (k) (by omega)
          have f3b := S1.out.f1 R (by omega) (k + 1) (by omega)
          obtain ⟨u3, c3c⟩ := S1.out.c2 R (by omega) (k) (k + 1) (by omega) (by omega) (enc y3)
          rw [← hjN3, ← hiN3] at c3c
          rw [← hx3, ← hiN3] at c3a
          rw [← hy3, ← hjN3] at c3b
          rw [← hiN3] at f3a
          rw [← hjN3] at f3b
          clear S1 hx3 hy3 hiN3 hjN3
          go_wp2_with fail
          go_big_region_o
          clear c3a c3b c3c f3a f3b
          generalize ((wr.setCell ⟨blk, off + iN3, none⟩ (enc y3)).setCell ⟨blk, off + jN3, none⟩ (enc x3)).drew = w2 at S2 ⊢
          clear ea3 ec3
          go_wp2
          go_roundg (i - 1 - (k + 1))
          case measure => omega
          case rel => exact ⟨k + 1, swp dk k (k + 1), by first | rfl | go_num | (congr 1; omega), by omega, by omega, Nat.le_refl _, by rw [size_swp]; exact hds, S2, (show Hid _ from by
            have h := heq.out
            rw [show i - 1 - k = (i - 1 - (k + 1)) + 1 by omega, shU] at h
            exact h)⟩
        · have hltz2 : ¬ (k : Int) < ((i - 1 : Nat) : Int) := by omega
          obtain rfl : k = i - 1 := by omega
          go_wp2
          (try simp only [Exit.inBlock, Exit.then]); refine bodyPost_ret (results_none rfl _ _ _) rfl ?_
          refine ⟨rfl, ?_⟩
          have h := heq.out
          rw [Nat.sub_self, shU] at h
          rw [← h]
          exact S1.out
set_option maxHeartbeats 8000000 in
set_option maxRecDepth 1000000 in
theorem symR_s (enc : α → Value) (cf : α → α → Int) (g : Nat) (cb : Array Value) (blk off cap a m b : Nat) (hm : b = m + 1) (d0 d : Array α) (w0 w : World)
    (eg : ∀ args w, (callFunc g args).run Tryz.prog w = .ok (.enter g args) w) (hcmp : CmpLays1 Tryz.prog g cb enc cf blk off d0.size w0) (R : Row1 enc w0 blk off d0) (hs : d0.size = d.size) (S : SW enc w0 blk off d w) (hab : a + 1 < m) (hb : b ≤ d.size) (hsz : d.size < 4611686018427387904) :
    Calls Tryz.prog 92 #[.slice (some ⟨blk, off, none⟩) d.size cap, .int .i64 (a : Int), .int .i64 (m : Int), .int .i64 (b : Int), .func (.func g) #[] cb] w fun e w' => e = .returned (.tuple #[]) ∧ SW enc w0 blk off (shD m (m - bsR (ltOf cf) d m (m - a) a m) d) w' := by
  have mixed : Tryz.prog.follows .mixedOrders = true := by kernel_rfl
  have hcl0 := R.hO.cells
  simp only [Value.cells] at hcl0
  have hst := R.hO.store Tryz.prog
  have HC : Aside _ := hcmp
  have S0 : Aside (SW enc w0 blk off d w) := S
  clear S hcmp
  have z1 : (b : Int) - (m : Int) = 1 := by omega
  have z3 : ((m : Int) - (a : Int) == 1) = false := beq_eq_false_iff_ne.2 (by omega)
  have z4 : ((m : Int) - (a : Int) = 1) = False := eq_false (by omega)
  have hm1 : m < b := by omega
  have hm2 : b ≤ m + 1 := by omega
  clear hm
  go_enter Tryz.func92, Tryz.ntmps92
  go_wp2
  go_loopg [14, 15, 16] (m - a) (fun kx s10 s11 s12 wr => ∃ (i j : Nat), s10 = .int .i64 (i : Int) ∧ s11 = .int .i64 (j : Int) ∧ a ≤ i ∧ i ≤ j ∧ j ≤ m ∧ j - i ≤ kx ∧ Aside (SW enc w0 blk off d wr) ∧ Hid (∃ kk, j - i ≤ kk ∧ bsR (ltOf cf) d m kk i j = bsR (ltOf cf) d m (m - a) a m))
  case atStart => exact ⟨a, m, rfl, rfl, by omega, by omega, Nat.le_refl _, Nat.le_refl _, S0, ⟨m - a, Nat.le_refl _, rfl⟩⟩
  case round =>
    clear S0
    obtain ⟨i, j, rfl, rfl, hai, hij, hjb, hkx, S1, hbs⟩ := hrel
    by_cases hlt : i < j
    · have hltz : (i : Int) < (j : Int) := by omega
      have hu := half_u i j (by omega)
      obtain ⟨h, hh⟩ : ∃ h, h = (i + j) / 2 := ⟨_, rfl⟩
      have hib : i ≤ h := by omega
      have hjb2 : h < j := by omega
      cases hlv : ltOf cf d[m]! d[h]! with
      | true =>
        obtain ⟨iN4, hiN4⟩ : ∃ q, q = m := ⟨_, rfl⟩
        obtain ⟨jN4, hjN4⟩ : ∃ q, q = h := ⟨_, rfl⟩
        have ea4 : ((m : Int)).toNat = iN4 := by omega
        have pa4 : (0 : Int) ≤ (m : Int) := by omega
        have ba4 : (m : Int) < (d.size : Int) := by omega
        have ra4 : IntKind.i64.wrap ((m : Int)) = (m : Int) := by rw [IntKind.wrap_i64]; omega
        have ec4 : (((i : Int) + (j : Int)) / 2).toNat = jN4 := by omega
        have pc4 : (0 : Int) ≤ ((i : Int) + (j : Int)) / 2 := by omega
        have bc4 : ((i : Int) + (j : Int)) / 2 < (d.size : Int) := by omega
        have rc4 : IntKind.i64.wrap (((i : Int) + (j : Int)) / 2) = ((i : Int) + (j : Int)) / 2 := by rw [IntKind.wrap_i64]; omega
        obtain ⟨x4, hx4⟩ : ∃ x, x = d[m]! := ⟨_, rfl⟩
        obtain ⟨y4, hy4⟩ : ∃ x, x = d[h]! := ⟨_, rfl⟩
        have l4a := S1.out.cl R (by omega) (m) (by omega)
        have l4b := S1.out.cl R (by omega) (h) (by omega)
        rw [← hx4, ← hiN4] at l4a
        rw [← hy4, ← hjN4] at l4b
        have hc4 := S1.out.cmp HC.out (by omega) x4 y4
        have hv4 : cf x4 y4 < 0 := by rw [hx4, hy4]; exact of_decide_eq_true hlv
        have hd4 : decide (cf x4 y4 < 0) = true := decide_eq_true hv4
        clear hx4 hy4 hiN4 hjN4
        go_wp2_with fail
        go_quiet_grown (first | (go_at_fn g; refine Calls.grown_of (hc4 _ _)))
        have S2 : Aside (SW enc w0 blk off d (grow (wr.drewN nq) osq)) := S1.out.grown nq osq
        clear l4a l4b hc4 S1
        generalize grow (wr.drewN nq) osq = w2 at S2 ⊢
        clear nq osq
        clear ea4 ec4
        go_wp2
        go_roundg (h - i)
        case measure => omega
        case rel => exact ⟨i, h, rfl, by first | rfl | go_num | (congr 1; omega), by omega, by omega, by omega, Nat.le_refl _, S2, (show Hid _ from by
          obtain ⟨kk, hk, hq⟩ := hbs.out
          obtain ⟨k', rfl⟩ : ∃ k', kk = k' + 1 := ⟨kk - 1, by omega⟩
          rw [bsR, if_pos hlt, ← hh, if_pos hlv] at hq
          exact ⟨k', by omega, hq⟩)⟩
      | false =>
        obtain ⟨iN5, hiN5⟩ : ∃ q, q = m := ⟨_, rfl⟩
        obtain ⟨jN5, hjN5⟩ : ∃ q, q = h := ⟨_, rfl⟩
        have ea5 : ((m : Int)).toNat = iN5 := by omega
        have pa5 : (0 : Int) ≤ (m : Int) := by omega
        have ba5 : (m : Int) < (d.size : Int) := by omega
        have ra5 : IntKind.i64.wrap ((m : Int)) = (m : Int) := by rw [IntKind.wrap_i64]; omega
        have ec5 : (((i : Int) + (j : Int)) / 2).toNat = jN5 := by omega
        have pc5 : (0 : Int) ≤ ((i : Int) + (j : Int)) / 2 := by omega
        have bc5 : ((i : Int) + (j : Int)) / 2 < (d.size : Int) := by omega
        have rc5 : IntKind.i64.wrap (((i : Int) + (j : Int)) / 2) = ((i : Int) + (j : Int)) / 2 := by rw [IntKind.wrap_i64]; omega
        obtain ⟨x5, hx5⟩ : ∃ x, x = d[m]! := ⟨_, rfl⟩
        obtain ⟨y5, hy5⟩ : ∃ x, x = d[h]! := ⟨_, rfl⟩
        have l5a := S1.out.cl R (by omega) (m) (by omega)
        have l5b := S1.out.cl R (by omega) (h) (by omega)
        rw [← hx5, ← hiN5] at l5a
        rw [← hy5, ← hjN5] at l5b
        have hc5 := S1.out.cmp HC.out (by omega) x5 y5
        have hv5 : ¬ cf x5 y5 < 0 := by rw [hx5, hy5]; exact of_decide_eq_false hlv
        have hd5 : decide (cf x5 y5 < 0) = false := decide_eq_false hv5
        clear hx5 hy5 hiN5 hjN5
        go_wp2_with fail
        go_quiet_grown (first | (go_at_fn g; refine Calls.grown_of (hc5 _ _)))
        have S2 : Aside (SW enc w0 blk off d (grow (wr.drewN nq) osq)) := S1.out.grown nq osq
        clear l5a l5b hc5 S1
        generalize grow (wr.drewN nq) osq = w2 at S2 ⊢
        clear nq osq
        clear ea5 ec5
        go_wp2
        go_roundg (j - (h + 1))
        case measure => omega
        case rel => exact ⟨h + 1, j, by first | rfl | go_num | (congr 1; omega), rfl, by omega, by omega, by omega, Nat.le_refl _, S2, (show Hid _ from by
          obtain ⟨kk, hk, hq⟩ := hbs.out
          obtain ⟨k', rfl⟩ : ∃ k', kk = k' + 1 := ⟨kk - 1, by omega⟩
          rw [bsR, if_pos hlt, ← hh, if_neg (by rw [hlv]; decide)] at hq
          exact ⟨k', by omega, hq⟩)⟩
    · have hltz : ¬ (i : Int) < (j : Int) := by omega
      have hI : bsR (ltOf cf) d m (m - a) a m = i := by
        obtain ⟨kk, _, hq⟩ := hbs.out
        rw [← hq]
        cases kk with
        | zero => rfl
        | succ k' => rw [bsR, if_neg hlt]
      clear hbs
      go_wp2
      go_loopg [17] (m - i) (fun kx s13 wr => ∃ (k : Nat) (dk : Array α), s13 = .int .i64 (k : Int) ∧ i ≤ k ∧ k ≤ m ∧ k - i ≤ kx ∧ dk.size = d.size ∧ Aside (SW enc w0 blk off dk wr) ∧ Hid (shD k (k - i) dk = shD m (m - i) d))
      case atStart => exact ⟨m, d, rfl, by omega, Nat.le_refl _, Nat.le_refl _, rfl, S1, rfl⟩
      case round =>
        clear S1
        obtain ⟨k, dk, rfl, hik, hkm, hkx2, hds, S1, heq⟩ := hrel
        by_cases hlt2 : i < k
        · have hltz2 : (k : Int) > (i : Int) := by omega
          go_wp2_with fail
          obtain ⟨iN6, hiN6⟩ : ∃ q, q = k := ⟨_, rfl⟩
          obtain ⟨jN6, hjN6⟩ : ∃ q, q = k - 1 := ⟨_, rfl⟩
          have ea6 : ((k : Int)).toNat = iN6 := by omega
          have pa6 : (0 : Int) ≤ (k : Int) := by omega
          have ba6 : (k : Int) < (d.size : Int) := by omega
          have ra6 : IntKind.i64.wrap ((k : Int)) = (k : Int) := by rw [IntKind.wrap_i64]; omega
          have ec6 : ((k : Int) - 1).toNat = jN6 := by omega
          have pc6 : (0 : Int) ≤ (k : Int) - 1 := by omega
          have bc6 : (k : Int) - 1 < (d.size : Int) := by omega
          have rc6 : IntKind.i64.wrap ((k : Int) - 1) = (k : Int) - 1 := by rw [IntKind.wrap_i64]; omega
          obtain ⟨x6, hx6⟩ : ∃ x, x = dk[k]! := ⟨_, rfl⟩
          obtain ⟨y6, hy6⟩ : ∃ x, x = dk[k - 1]! := ⟨_, rfl⟩
          have S2 : Aside (SW enc w0 blk off (swp dk (k) (k - 1)) ((wr.setCell ⟨blk, off + iN6, none⟩ (enc y6)).setCell ⟨blk, off + jN6, none⟩ (enc x6)).drew) := by rw [hiN6, hjN6, hx6, hy6]; exact S1.out.swapped R (k) (k - 1) (by omega) (by omega)
          have c6a := S1.out.c1 R (by omega) (k) (by omega)
          have c6b := S1.out.c1 R (by omega) (k - 1) (by omega)
          have f6a := S1.out.f1 R (by omega) (k) (by omega)
          have f6b := S1.out.f1 R (by omega) (k - 1) (by omega)
          obtain ⟨u6, c6c⟩ := S1.out.c2 R (by omega) (k) (k - 1) (by omega) (by omega) (enc y6)
          rw [← hjN6, ← hiN6] at c6c
          rw [← hx6, ← hiN6] at c6a
          rw [← hy6, ← hjN6] at c6b
          rw [← hiN6] at f6a
          rw [← hjN6] at f6b
          clear S1 hx6 hy6 hiN6 hjN6
          go_wp2_with fail
          go_big_region_o
          clear c6a c6b c6c f6a f6b
          generalize ((wr.setCell ⟨blk, off + iN6, none⟩ (enc y6)).setCell ⟨blk, off + jN6, none⟩ (enc x6)).drew = w2 at S2 ⊢
          clear ea6 ec6
          go_wp2
          go_roundg (k - 1 - i)
          case measure => omega
          case rel => exact ⟨k - 1, swp dk k (k - 1), by first | rfl | go_num | (congr 1; omega), by omega, by omega, Nat.le_refl _, by rw [size_swp]; exact hds, S2, (show Hid _ from by
            have h := heq.out
            rw [show k - i = (k - 1 - i) + 1 by omega, shD] at h
            exact h)⟩
        · have hltz2 : ¬ (k : Int) > (i : Int) := by omega
          obtain rfl : k = i := by omega
          go_wp2
          (try simp only [Exit.inBlock, Exit.then]); refine bodyPost_ret (results_none rfl _ _ _) rfl ?_
          refine ⟨rfl, ?_⟩
          have h := heq.out
          rw [Nat.sub_self, shD] at h
          rw [← h]
          exact S1.out
end Go.Proofs.YtbflblmkdnhboaaGreatDoor.Pr
namespace Go.Proofs.YtbflblmkdnhboaaGreatDoor.Pr
open Go.RowKit Go.Proofs.YtbflblmkdnhboaaGreatDoorW.PrintWords Go.Proofs.YtbflblmkdnhboaaGreatDoorW.PrintLast Go.Proofs.YtbflblmkdnhboaaGreatDoorW.PrintMore
open Go.Sort Go.Shelf Go.Lib
set_option linter.unusedVariables false
set_option linter.unusedSimpArgs false
variable {α : Type} [Inhabited α]
def syS (lt : α → α → Bool) (d : Array α) (p : Nat) : Nat → Nat → Nat → Nat
  | 0, s, _ => s
  | k + 1, s, r => if s < r then (if lt d[p - (s + r) / 2]! d[(s + r) / 2]! then syS lt d p k s ((s + r) / 2) else syS lt d p k ((s + r) / 2 + 1) r) else s
def symT (rec : Nat → Nat → Nat → Array α → Array α) (a m b mid s e : Nat) (d : Array α) : Array α :=
  if mid < e ∧ e < b then rec mid e b (if a < s ∧ s < mid then rec a s mid (if s < m ∧ m < e then rotR m (e - s) (m - s) (e - m) d else d) else (if s < m ∧ m < e then rotR m (e - s) (m - s) (e - m) d else d))
  else (if a < s ∧ s < mid then rec a s mid (if s < m ∧ m < e then rotR m (e - s) (m - s) (e - m) d else d) else (if s < m ∧ m < e then rotR m (e - s) (m - s) (e - m) d else d))
def symM (lt : α → α → Bool) : Nat → Nat → Nat → Nat → Array α → Array α
  | 0, _, _, _, d => d
  | k + 1, a, m, b, d =>
    if m = a + 1 then shU a (bsL lt d a (b - m) m b - 1 - a) d
    else if b = m + 1 then shD m (m - bsR lt d m (m - a) a m) d
    else symT (symM lt k) a m b ((a + b) / 2) (syS lt d ((a + b) / 2 + m - 1) b (if (a + b) / 2 < m then (a + b) / 2 + m - b else a) (if (a + b) / 2 < m then (a + b) / 2 else m))
      ((a + b) / 2 + m - syS lt d ((a + b) / 2 + m - 1) b (if (a + b) / 2 < m then (a + b) / 2 + m - b else a) (if (a + b) / 2 < m then (a + b) / 2 else m)) d
theorem symM_size (lt : α → α → Bool) : ∀ (k a m b : Nat) (d : Array α), (symM lt k a m b d).size = d.size
  | 0, _, _, _, _ => rfl
  | k + 1, a, m, b, d => by
    rw [symM]
    split
    · exact shU_size _ _ _
    · split
      · exact shD_size _ _ _
      · unfold symT
        (repeat' split) <;> simp [symM_size lt k, rotR_size]
set_option maxHeartbeats 16000000 in
set_option maxRecDepth 1000000 in
theorem symG_s (enc : α → Value) (cf : α → α → Int) (g : Nat) (cb : Array Value) (blk off cap a m b mid n p s0 r0 : Nat) (rec : Nat → Nat → Nat → Array α → Array α) (hrec : ∀ a m b D, (rec a m b D).size = D.size) (d0 d : Array α) (w0 w : World)
    (eg : ∀ args w, (callFunc g args).run Tryz.prog w = .ok (.enter g args) w) (hcmp : CmpLays1 Tryz.prog g cb enc cf blk off d0.size w0) (R : Row1 enc w0 blk off d0) (hs : d0.size = d.size) (S : SW enc w0 blk off d w)
    (HI : Aside (∀ (a' m' b' : Nat) (D : Array α) (W : World), D.size = d.size → SW enc w0 blk off D W → b' - a' < b - a → a' < m' → m' < b' → b' ≤ d.size → Calls Tryz.prog 92 #[.slice (some ⟨blk, off, none⟩) d.size cap, .int .i64 (a' : Int), .int .i64 (m' : Int), .int .i64 (b' : Int), .func (.func g) #[] cb] W fun e w' => e = .returned (.tuple #[]) ∧ SW enc w0 blk off (rec a' m' b' D) w'))
    (ham : a + 1 < m) (hmb : m + 1 < b) (hb : b ≤ d.size) (hsz : d.size < 4611686018427387904)
    (hmid : mid = (a + b) / 2) (hn : n = mid + m) (hp : p = n - 1) (hs0 : s0 = if mid < m then n - b else a) (hr0 : r0 = if mid < m then mid else m) :
    Calls Tryz.prog 92 #[.slice (some ⟨blk, off, none⟩) d.size cap, .int .i64 (a : Int), .int .i64 (m : Int), .int .i64 (b : Int), .func (.func g) #[] cb] w fun e w' => e = .returned (.tuple #[]) ∧ SW enc w0 blk off (symT rec a m b mid (syS (ltOf cf) d p b s0 r0) (n - syS (ltOf cf) d p b s0 r0) d) w' := by
  have mixed : Tryz.prog.follows .mixedOrders = true := by kernel_rfl
  have hcl0 := R.hO.cells
  simp only [Value.cells] at hcl0
  have hst := R.hO.store Tryz.prog
  have HC : Aside _ := hcmp
  have S0 : Aside (SW enc w0 blk off d w) := S
  have HROT : Aside (∀ (x y z : Nat), x < y → y < z → z ≤ d.size → ∀ W, SW enc w0 blk off d W → Calls Tryz.prog 98 #[.slice (some ⟨blk, off, none⟩) d.size cap, .int .i64 (x : Int), .int .i64 (y : Int), .int .i64 (z : Int), .func (.func g) #[] cb] W fun e w' => e = .returned (.tuple #[]) ∧ SW enc w0 blk off (rotR y (z - x) (y - x) (z - y) d) w') :=
    fun x y z h1 h2 h3 W hS => rotate_s enc g cb blk off cap x y z d0 d w0 W R hs hS h1 h2 h3 hsz
  have HRS : Aside (∀ a m b D, (rec a m b D).size = D.size) := hrec
  clear S hcmp hrec
  have z3 : ((m : Int) - (a : Int) == 1) = false := beq_eq_false_iff_ne.2 (by omega)
  have z4 : ((m : Int) - (a : Int) = 1) = False := eq_false (by omega)
  have z5 : ((b : Int) - (m : Int) == 1) = false := beq_eq_false_iff_ne.2 (by omega)
  have z6 : ((b : Int) - (m : Int) = 1) = False := eq_false (by omega)
  have zmid : ((a : Int) + (b : Int)) / 2 = (mid : Int) := by omega
  have zn : (mid : Int) + (m : Int) = (n : Int) := by omega
  have zp : (n : Int) - 1 = (p : Int) := by omega
  have f1 : a < mid ∧ mid + 1 < b := by omega
  have f2 : s0 ≤ r0 ∧ r0 ≤ m ∧ r0 ≤ mid ∧ a ≤ s0 ∧ n ≤ b + s0 ∧ (∀ c, s0 ≤ c → c < r0 → c ≤ p ∧ p - c < d.size) := by
    subst hs0 hr0
    by_cases h : mid < m
    · rw [if_pos h, if_pos h]
      refine ⟨by omega, by omega, by omega, by omega, by omega, fun c h1 h2 => ⟨by omega, by omega⟩⟩
    · rw [if_neg h, if_neg h]
      refine ⟨by omega, by omega, by omega, by omega, by omega, fun c h1 h2 => ⟨by omega, by omega⟩⟩
  obtain ⟨f3, f4, f5, f6, f7, f8⟩ := f2
  have fn1 : n ≤ mid + m := by omega
  have fn2 : mid + m ≤ n := by omega
  have fp1 : p + 1 ≤ n := by omega
  have fp2 : n ≤ p + 1 := by omega
  have F8 : Aside (∀ c, s0 ≤ c → c < r0 → c ≤ p ∧ p - c < d.size) := f8
  clear f8
  have start : ∀ (zs zr : Int), zs = (s0 : Int) → zr = (r0 : Int) → (if mid < m then zs = (n : Int) - (b : Int) ∧ zr = (mid : Int) else zs = (a : Int) ∧ zr = (m : Int)) := by
    intro zs zr h1 h2
    subst hs0 hr0
    by_cases h : mid < m
    · rw [if_pos h] at h1 h2 ⊢
      exact ⟨by omega, h2⟩
    · rw [if_neg h] at h1 h2 ⊢
      exact ⟨h1, h2⟩
  have start := start _ _ rfl rfl
  clear hmid hn hp hs0 hr0
  by_cases hmm : mid < m
  · rw [if_pos hmm] at start
    obtain ⟨st1, st2⟩ := start
    have hmmz : (m : Int) > (mid : Int) := by omega
    have st1' : (n : Int) - (b : Int) = (s0 : Int) := st1.symm
    have st2a : r0 ≤ mid := by omega
    have st2b : mid ≤ r0 := by omega
    clear st1 st2
    go_wp2
    go_loopg [20, 21, 23] (r0 - s0) (fun kx v20 v21 v23 wr => ∃ (s r : Nat), v20 = .int .i64 (s : Int) ∧ v21 = .int .i64 (r : Int) ∧ s0 ≤ s ∧ s ≤ r ∧ r ≤ r0 ∧ r - s ≤ kx ∧ Aside (SW enc w0 blk off d wr) ∧ Hid (∃ kk, r - s ≤ kk ∧ syS (ltOf cf) d p kk s r = syS (ltOf cf) d p b s0 r0))
    case atStart => exact ⟨s0, r0, by first | rfl | (congr 1; omega), by first | rfl | (congr 1; omega), by omega, by omega, by omega, Nat.le_refl _, S0, ⟨b, by omega, rfl⟩⟩
    case round =>
      clear S0
      obtain ⟨s, r, rfl, rfl, hai, hij, hjb, hkx, S1, hbs⟩ := hrel
      by_cases hlt : s < r
      · have hltz : (s : Int) < (r : Int) := by omega
        obtain ⟨c, hh⟩ : ∃ c, c = (s + r) / 2 := ⟨_, rfl⟩
        have hib : s ≤ c := by omega
        have hjb2 : c < r := by omega
        obtain ⟨f9, f10⟩ := F8.out c (by omega) (by omega)
        obtain ⟨q, hq⟩ : ∃ q, q = p - c := ⟨_, rfl⟩
        have hqb : q < d.size := by omega
        go_wp2_with fail
        have HH : Aside (c = (s + r) / 2) := hh
        have HQ : Aside (q = p - c) := hq
        have hc1 : 2 * c ≤ s + r := by omega
        have hc2 : s + r ≤ 2 * c + 1 := by omega
        have hq1 : q + c ≤ p := by omega
        have hq2 : p ≤ q + c := by omega
        clear hh hq
        generalize hcz : ((s : Int) + (r : Int)) / 2 = cz
        obtain rfl : cz = (c : Int) := by omega
        clear hcz
        have zq : (p : Int) - (c : Int) = (q : Int) := by omega
        cases hlv : ltOf cf d[q]! d[c]! with
        | true =>
          obtain ⟨iN7, hiN7⟩ : ∃ q_, q_ = q := ⟨_, rfl⟩
          obtain ⟨jN7, hjN7⟩ : ∃ q_, q_ = c := ⟨_, rfl⟩
          have ea7 : ((q : Int)).toNat = iN7 := by omega
          have pa7 : (0 : Int) ≤ (q : Int) := by omega
          have ba7 : (q : Int) < (d.size : Int) := by omega
          have ra7 : IntKind.i64.wrap ((q : Int)) = (q : Int) := by rw [IntKind.wrap_i64]; omega
          have ec7 : ((c : Int)).toNat = jN7 := by omega
          have pc7 : (0 : Int) ≤ (c : Int) := by omega
          have bc7 : (c : Int) < (d.size : Int) := by omega
          have rc7 : IntKind.i64.wrap ((c : Int)) = (c : Int) := by rw [IntKind.wrap_i64]; omega
          obtain ⟨x7, hx7⟩ : ∃ x, x = d[q]! := ⟨_, rfl⟩
          obtain ⟨y7, hy7⟩ : ∃ x, x = d[c]! := ⟨_, rfl⟩
          have l7a := S1.out.cl R (by omega) (q) (by omega)
          have l7b := S1.out.cl R (by omega) (c) (by omega)
          rw [← hx7, ← hiN7] at l7a
          rw [← hy7, ← hjN7] at l7b
          have hc7 := S1.out.cmp HC.out (by omega) x7 y7
          have hv7 : cf x7 y7 < 0 := by rw [hx7, hy7]; exact of_decide_eq_true hlv
          have hd7 : decide (cf x7 y7 < 0) = true := decide_eq_true hv7
          clear hx7 hy7 hiN7 hjN7
          (try go_wp2_with fail)
          go_quiet_grown (first | (go_at_fn g; refine Calls.grown_of (hc7 _ _)))
          have S2 : Aside (SW enc w0 blk off d (grow (wr.drewN nq) osq)) := S1.out.grown nq osq
          clear l7a l7b hc7 S1
          generalize grow (wr.drewN nq) osq = w2 at S2 ⊢
          clear nq osq
          clear ea7 ec7
          go_wp2
          go_roundg (c - s)
          case measure => omega
          case rel => exact ⟨s, c, rfl, by first | rfl | (congr 1; omega), by omega, by omega, by omega, Nat.le_refl _, S2, (show Hid _ from by
            obtain ⟨kk, hk, hy⟩ := hbs.out
            obtain ⟨k', rfl⟩ : ∃ k', kk = k' + 1 := ⟨kk - 1, by omega⟩
            rw [syS, if_pos hlt, ← HH.out, ← HQ.out, if_pos hlv] at hy
            exact ⟨k', by omega, hy⟩)⟩
        | false =>
          obtain ⟨iN8, hiN8⟩ : ∃ q_, q_ = q := ⟨_, rfl⟩
          obtain ⟨jN8, hjN8⟩ : ∃ q_, q_ = c := ⟨_, rfl⟩
          have ea8 : ((q : Int)).toNat = iN8 := by omega
          have pa8 : (0 : Int) ≤ (q : Int) := by omega
          have ba8 : (q : Int) < (d.size : Int) := by omega
          have ra8 : IntKind.i64.wrap ((q : Int)) = (q : Int) := by rw [IntKind.wrap_i64]; omega
          have ec8 : ((c : Int)).toNat = jN8 := by omega
          have pc8 : (0 : Int) ≤ (c : Int) := by omega
          have bc8 : (c : Int) < (d.size : Int) := by omega
          have rc8 : IntKind.i64.wrap ((c : Int)) = (c : Int) := by rw [IntKind.wrap_i64]; omega
          obtain ⟨x8, hx8⟩ : ∃ x, x = d[q]! := ⟨_, rfl⟩
          obtain ⟨y8, hy8⟩ : ∃ x, x = d[c]! := ⟨_, rfl⟩
          have l8a := S1.out.cl R (by omega) (q) (by omega)
          have l8b := S1.out.cl R (by omega) (c) (by omega)
          rw [← hx8, ← hiN8] at l8a
          rw [← hy8, ← hjN8] at l8b
          have hc8 := S1.out.cmp HC.out (by omega) x8 y8
          have hv8 : ¬ cf x8 y8 < 0 := by rw [hx8, hy8]; exact of_decide_eq_false hlv
          have hd8 : decide (cf x8 y8 < 0) = false := decide_eq_false hv8
          clear hx8 hy8 hiN8 hjN8
          (try go_wp2_with fail)
          go_quiet_grown (first | (go_at_fn g; refine Calls.grown_of (hc8 _ _)))
          have S2 : Aside (SW enc w0 blk off d (grow (wr.drewN nq) osq)) := S1.out.grown nq osq
          clear l8a l8b hc8 S1
          generalize grow (wr.drewN nq) osq = w2 at S2 ⊢
          clear nq osq
          clear ea8 ec8
          go_wp2
          go_roundg (r - (c + 1))
          case measure => omega
          case rel => exact ⟨c + 1, r, by first | rfl | go_num | (congr 1; omega), rfl, by omega, by omega, by omega, Nat.le_refl _, S2, (show Hid _ from by
            obtain ⟨kk, hk, hy⟩ := hbs.out
            obtain ⟨k', rfl⟩ : ∃ k', kk = k' + 1 := ⟨kk - 1, by omega⟩
            rw [syS, if_pos hlt, ← HH.out, ← HQ.out, if_neg (by rw [hlv]; decide)] at hy
            exact ⟨k', by omega, hy⟩)⟩
      · have hltz : ¬ (s : Int) < (r : Int) := by omega
        have hI : syS (ltOf cf) d p b s0 r0 = s := by
          obtain ⟨kk, _, hy⟩ := hbs.out
          rw [← hy]
          cases kk with
          | zero => rfl
          | succ k' => rw [syS, if_neg hlt]
        clear hbs
        obtain ⟨e, he⟩ : ∃ e, e = n - s := ⟨_, rfl⟩
        have ze : (n : Int) - (s : Int) = (e : Int) := by omega
        have fe1 : e + s ≤ n := by omega
        have fe2 : n ≤ e + s := by omega
        have hI2 : n - s = e := he.symm
        clear he
        by_cases q0 : s < m
        · have qz0 : (s : Int) < (m : Int) := by omega
          by_cases k0 : m < e
          · have kz0 : (m : Int) < (e : Int) := by omega
            have H1 : s < m ∧ m < e := ⟨q0, k0⟩
            go_wp2_with fail
            refine (HROT.out s m e q0 k0 (by omega) _ S1.out).mono ?_
            rintro e0 w0x ⟨rfl, hS0⟩
            have T0 : Aside (SW enc w0 blk off (rotR m (e - s) (m - s) (e - m) d) w0x) := hS0
            have Z0 : Aside ((rotR m (e - s) (m - s) (e - m) d).size = d.size) := rotR_size _ _ _ _ _
            clear hS0 S1
            by_cases q1 : a < s
            · have qz1 : (a : Int) < (s : Int) := by omega
              by_cases k1 : s < mid
              · have kz1 : (s : Int) < (mid : Int) := by omega
                have H2 : a < s ∧ s < mid := ⟨q1, k1⟩
                go_wp2_with fail
                refine (HI.out a s mid (rotR m (e - s) (m - s) (e - m) d) _ Z0.out T0.out (by omega) q1 k1 (by omega)).mono ?_
                rintro e1 w1x ⟨rfl, hS1⟩
                have T1 : Aside (SW enc w0 blk off (rec a s mid (rotR m (e - s) (m - s) (e - m) d)) w1x) := hS1
                have Z1 : Aside ((rec a s mid (rotR m (e - s) (m - s) (e - m) d)).size = d.size) := (HRS.out _ _ _ _).trans Z0.out
                clear hS1 T0
                by_cases q2 : mid < e
                · have qz2 : (mid : Int) < (e : Int) := by omega
                  by_cases k2 : e < b
                  · have kz2 : (e : Int) < (b : Int) := by omega
                    have H3 : mid < e ∧ e < b := ⟨q2, k2⟩
                    go_wp2_with fail
                    refine (HI.out mid e b (rec a s mid (rotR m (e - s) (m - s) (e - m) d)) _ Z1.out T1.out (by omega) q2 k2 (by omega)).mono ?_
                    rintro e2 w2x ⟨rfl, hS2⟩
                    have T2 : Aside (SW enc w0 blk off (rec mid e b (rec a s mid (rotR m (e - s) (m - s) (e - m) d))) w2x) := hS2
                    have Z2 : Aside ((rec mid e b (rec a s mid (rotR m (e - s) (m - s) (e - m) d))).size = d.size) := (HRS.out _ _ _ _).trans Z1.out
                    clear hS2 T1
                    go_wp2
                    first | go_end0 | ((try simp only [Exit.inBlock, Exit.then]); refine bodyPost_ret (results_none rfl _ _ _) rfl ?_)
                    refine ⟨rfl, ?_⟩
                    (try rw [hI])
                    (try rw [hI2])
                    unfold symT
                    simp only [if_pos H1, if_pos H2, if_pos H3]
                    exact T2.out
                  · have kz2 : ¬ (e : Int) < (b : Int) := by omega
                    have H3 : ¬ (mid < e ∧ e < b) := by omega
                    have Z2 : Aside ((rec a s mid (rotR m (e - s) (m - s) (e - m) d)).size = d.size) := Z1
                    go_wp2
                    first | go_end0 | ((try simp only [Exit.inBlock, Exit.then]); refine bodyPost_ret (results_none rfl _ _ _) rfl ?_)
                    refine ⟨rfl, ?_⟩
                    (try rw [hI])
                    (try rw [hI2])
                    unfold symT
                    simp only [if_pos H1, if_pos H2, if_neg H3]
                    exact T1.out
                · have qz2 : ¬ (mid : Int) < (e : Int) := by omega
                  have H3 : ¬ (mid < e ∧ e < b) := by omega
                  have Z2 : Aside ((rec a s mid (rotR m (e - s) (m - s) (e - m) d)).size = d.size) := Z1
                  go_wp2
                  first | go_end0 | ((try simp only [Exit.inBlock, Exit.then]); refine bodyPost_ret (results_none rfl _ _ _) rfl ?_)
                  refine ⟨rfl, ?_⟩
                  (try rw [hI])
                  (try rw [hI2])
                  unfold symT
                  simp only [if_pos H1, if_pos H2, if_neg H3]
                  exact T1.out
              · have kz1 : ¬ (s : Int) < (mid : Int) := by omega
                have H2 : ¬ (a < s ∧ s < mid) := by omega
                have Z1 : Aside ((rotR m (e - s) (m - s) (e - m) d).size = d.size) := Z0
                by_cases q2 : mid < e
                · have qz2 : (mid : Int) < (e : Int) := by omega
                  by_cases k2 : e < b
                  · have kz2 : (e : Int) < (b : Int) := by omega
                    have H3 : mid < e ∧ e < b := ⟨q2, k2⟩
                    go_wp2_with fail
                    refine (HI.out mid e b (rotR m (e - s) (m - s) (e - m) d) _ Z1.out T0.out (by omega) q2 k2 (by omega)).mono ?_
                    rintro e2 w2x ⟨rfl, hS2⟩
                    have T2 : Aside (SW enc w0 blk off (rec mid e b (rotR m (e - s) (m - s) (e - m) d)) w2x) := hS2
                    have Z2 : Aside ((rec mid e b (rotR m (e - s) (m - s) (e - m) d)).size = d.size) := (HRS.out _ _ _ _).trans Z1.out
                    clear hS2 T0
                    go_wp2
                    first | go_end0 | ((try simp only [Exit.inBlock, Exit.then]); refine bodyPost_ret (results_none rfl _ _ _) rfl ?_)
                    refine ⟨rfl, ?_⟩
                    (try rw [hI])
                    (try rw [hI2])
                    unfold symT
                    simp only [if_pos H1, if_neg H2, if_pos H3]
                    exact T2.out
                  · have kz2 : ¬ (e : Int) < (b : Int) := by omega
                    have H3 : ¬ (mid < e ∧ e < b) := by omega
                    have Z2 : Aside ((rotR m (e - s) (m - s) (e - m) d).size = d.size) := Z1
                    go_wp2
                    first | go_end0 | ((try simp only [Exit.inBlock, Exit.then]); refine bodyPost_ret (results_none rfl _ _ _) rfl ?_)
                    refine ⟨rfl, ?_⟩
                    (try rw [hI])
                    (try rw [hI2])
                    unfold symT
                    simp only [if_pos H1, if_neg H2, if_neg H3]
                    exact T0.out
                · have qz2 : ¬ (mid : Int) < (e : Int) := by omega
                  have H3 : ¬ (mid < e ∧ e < b) := by omega
                  have Z2 : Aside ((rotR m (e - s) (m - s) (e - m) d).size = d.size) := Z1
                  go_wp2
                  first | go_end0 | ((try simp only [Exit.inBlock, Exit.then]); refine bodyPost_ret (results_none rfl _ _ _) rfl ?_)
                  refine ⟨rfl, ?_⟩
                  (try rw [hI])
                  (try rw [hI2])
                  unfold symT
                  simp only [if_pos H1, if_neg H2, if_neg H3]
                  exact T0.out
            · have qz1 : ¬ (a : Int) < (s : Int) := by omega
              have H2 : ¬ (a < s ∧ s < mid) := by omega
              have Z1 : Aside ((rotR m (e - s) (m - s) (e - m) d).size = d.size) := Z0
              by_cases q2 : mid < e
              · have qz2 : (mid : Int) < (e : Int) := by omega
                by_cases k2 : e < b
                · have kz2 : (e : Int) < (b : Int) := by omega
                  have H3 : mid < e ∧ e < b := ⟨q2, k2⟩
                  go_wp2_with fail
                  refine (HI.out mid e b (rotR m (e - s) (m - s) (e - m) d) _ Z1.out T0.out (by omega) q2 k2 (by omega)).mono ?_
                  rintro e2 w2x ⟨rfl, hS2⟩
                  have T2 : Aside (SW enc w0 blk off (rec mid e b (rotR m (e - s) (m - s) (e - m) d)) w2x) := hS2
                  have Z2 : Aside ((rec mid e b (rotR m (e - s) (m - s) (e - m) d)).size = d.size) := (HRS.out _ _ _ _).trans Z1.out
                  clear hS2 T0
                  go_wp2
                  first | go_end0 | ((try simp only [Exit.inBlock, Exit.then]); refine bodyPost_ret (results_none rfl _ _ _) rfl ?_)
                  refine ⟨rfl, ?_⟩
                  (try rw [hI])
                  (try rw [hI2])
                  unfold symT
                  simp only [if_pos H1, if_neg H2, if_pos H3]
                  exact T2.out
                · have kz2 : ¬ (e : Int) < (b : Int) := by omega
                  have H3 : ¬ (mid < e ∧ e < b) := by omega
                  have Z2 : Aside ((rotR m (e - s) (m - s) (e - m) d).size = d.size) := Z1
                  go_wp2
                  first | go_end0 | ((try simp only [Exit.inBlock, Exit.then]); refine bodyPost_ret (results_none rfl _ _ _) rfl ?_)
                  refine ⟨rfl, ?_⟩
                  (try rw [hI])
                  (try rw [hI2])
                  unfold symT
                  simp only [if_pos H1, if_neg H2, if_neg H3]
                  exact T0.out
              · have qz2 : ¬ (mid : Int) < (e : Int) := by omega
                have H3 : ¬ (mid < e ∧ e < b) := by omega
                have Z2 : Aside ((rotR m (e - s) (m - s) (e - m) d).size = d.size) := Z1
                go_wp2
                first | go_end0 | ((try simp only [Exit.inBlock, Exit.then]); refine bodyPost_ret (results_none rfl _ _ _) rfl ?_)
                refine ⟨rfl, ?_⟩
                (try rw [hI])
                (try rw [hI2])
                unfold symT
                simp only [if_pos H1, if_neg H2, if_neg H3]
                exact T0.out
          · have kz0 : ¬ (m : Int) < (e : Int) := by omega
            have H1 : ¬ (s < m ∧ m < e) := by omega
            by_cases q1 : a < s
            · have qz1 : (a : Int) < (s : Int) := by omega
              by_cases k1 : s < mid
              · have kz1 : (s : Int) < (mid : Int) := by omega
                have H2 : a < s ∧ s < mid := ⟨q1, k1⟩
                go_wp2_with fail
                refine (HI.out a s mid d _ rfl S1.out (by omega) q1 k1 (by omega)).mono ?_
                rintro e1 w1x ⟨rfl, hS1⟩
                have T1 : Aside (SW enc w0 blk off (rec a s mid d) w1x) := hS1
                have Z1 : Aside ((rec a s mid d).size = d.size) := (HRS.out _ _ _ _).trans rfl
                clear hS1 S1
                by_cases q2 : mid < e
                · have qz2 : (mid : Int) < (e : Int) := by omega
                  by_cases k2 : e < b
                  · have kz2 : (e : Int) < (b : Int) := by omega
                    have H3 : mid < e ∧ e < b := ⟨q2, k2⟩
                    go_wp2_with fail
                    refine (HI.out mid e b (rec a s mid d) _ Z1.out T1.out (by omega) q2 k2 (by omega)).mono ?_
                    rintro e2 w2x ⟨rfl, hS2⟩
                    have T2 : Aside (SW enc w0 blk off (rec mid e b (rec a s mid d)) w2x) := hS2
                    have Z2 : Aside ((rec mid e b (rec a s mid d)).size = d.size) := (HRS.out _ _ _ _).trans Z1.out
                    clear hS2 T1
                    go_wp2
                    first | go_end0 | ((try simp only [Exit.inBlock, Exit.then]); refine bodyPost_ret (results_none rfl _ _ _) rfl ?_)
                    refine ⟨rfl, ?_⟩
                    (try rw [hI])
                    (try rw [hI2])
                    unfold symT
                    simp only [if_neg H1, if_pos H2, if_pos H3]
                    exact T2.out
                  · have kz2 : ¬ (e : Int) < (b : Int) := by omega
                    have H3 : ¬ (mid < e ∧ e < b) := by omega
                    have Z2 : Aside ((rec a s mid d).size = d.size) := Z1
                    go_wp2
                    first | go_end0 | ((try simp only [Exit.inBlock, Exit.then]); refine bodyPost_ret (results_none rfl _ _ _) rfl ?_)
                    refine ⟨rfl, ?_⟩
                    (try rw [hI])
                    (try rw [hI2])
                    unfold symT
                    simp only [if_neg H1, if_pos H2, if_neg H3]
                    exact T1.out
                · have qz2 : ¬ (mid : Int) < (e : Int) := by omega
                  have H3 : ¬ (mid < e ∧ e < b) := by omega
                  have Z2 : Aside ((rec a s mid d).size = d.size) := Z1
                  go_wp2
                  first | go_end0 | ((try simp only [Exit.inBlock, Exit.then]); refine bodyPost_ret (results_none rfl _ _ _) rfl ?_)
                  refine ⟨rfl, ?_⟩
                  (try rw [hI])
                  (try rw [hI2])
                  unfold symT
                  simp only [if_neg H1, if_pos H2, if_neg H3]
                  exact T1.out
              · have kz1 : ¬ (s : Int) < (mid : Int) := by omega
                have H2 : ¬ (a < s ∧ s < mid) := by omega
                by_cases q2 : mid < e
                · have qz2 : (mid : Int) < (e : Int) := by omega
                  by_cases k2 : e < b
                  · have kz2 : (e : Int) < (b : Int) := by omega
                    have H3 : mid < e ∧ e < b := ⟨q2, k2⟩
                    go_wp2_with fail
                    refine (HI.out mid e b d _ rfl S1.out (by omega) q2 k2 (by omega)).mono ?_
                    rintro e2 w2x ⟨rfl, hS2⟩
                    have T2 : Aside (SW enc w0 blk off (rec mid e b d) w2x) := hS2
                    have Z2 : Aside ((rec mid e b d).size = d.size) := (HRS.out _ _ _ _).trans rfl
                    clear hS2 S1
                    go_wp2
                    first | go_end0 | ((try simp only [Exit.inBlock, Exit.then]); refine bodyPost_ret (results_none rfl _ _ _) rfl ?_)
                    refine ⟨rfl, ?_⟩
                    (try rw [hI])
                    (try rw [hI2])
                    unfold symT
                    simp only [if_neg H1, if_neg H2, if_pos H3]
                    exact T2.out
                  · have kz2 : ¬ (e : Int) < (b : Int) := by omega
                    have H3 : ¬ (mid < e ∧ e < b) := by omega
                    go_wp2
                    first | go_end0 | ((try simp only [Exit.inBlock, Exit.then]); refine bodyPost_ret (results_none rfl _ _ _) rfl ?_)
                    refine ⟨rfl, ?_⟩
                    (try rw [hI])
                    (try rw [hI2])
                    unfold symT
                    simp only [if_neg H1, if_neg H2, if_neg H3]
                    exact S1.out
                · have qz2 : ¬ (mid : Int) < (e : Int) := by omega
                  have H3 : ¬ (mid < e ∧ e < b) := by omega
                  go_wp2
                  first | go_end0 | ((try simp only [Exit.inBlock, Exit.then]); refine bodyPost_ret (results_none rfl _ _ _) rfl ?_)
                  refine ⟨rfl, ?_⟩
                  (try rw [hI])
                  (try rw [hI2])
                  unfold symT
                  simp only [if_neg H1, if_neg H2, if_neg H3]
                  exact S1.out
            · have qz1 : ¬ (a : Int) < (s : Int) := by omega
              have H2 : ¬ (a < s ∧ s < mid) := by omega
              by_cases q2 : mid < e
              · have qz2 : (mid : Int) < (e : Int) := by omega
                by_cases k2 : e < b
                · have kz2 : (e : Int) < (b : Int) := by omega
                  have H3 : mid < e ∧ e < b := ⟨q2, k2⟩
                  go_wp2_with fail
                  refine (HI.out mid e b d _ rfl S1.out (by omega) q2 k2 (by omega)).mono ?_
                  rintro e2 w2x ⟨rfl, hS2⟩
                  have T2 : Aside (SW enc w0 blk off (rec mid e b d) w2x) := hS2
                  have Z2 : Aside ((rec mid e b d).size = d.size) := (HRS.out _ _ _ _).trans rfl
                  clear hS2 S1
                  go_wp2
                  first | go_end0 | ((try simp only [Exit.inBlock, Exit.then]); refine bodyPost_ret (results_none rfl _ _ _) rfl ?_)
                  refine ⟨rfl, ?_⟩
                  (try rw [hI])
                  (try rw [hI2])
                  unfold symT
                  simp only [if_neg H1, if_neg H2, if_pos H3]
                  exact T2.out
                · have kz2 : ¬ (e : Int) < (b : Int) := by omega
                  have H3 : ¬ (mid < e ∧ e < b) := by omega
                  go_wp2
                  first | go_end0 | ((try simp only [Exit.inBlock, Exit.then]); refine bodyPost_ret (results_none rfl _ _ _) rfl ?_)
                  refine ⟨rfl, ?_⟩
                  (try rw [hI])
                  (try rw [hI2])
                  unfold symT
                  simp only [if_neg H1, if_neg H2, if_neg H3]
                  exact S1.out
              · have qz2 : ¬ (mid : Int) < (e : Int) := by omega
                have H3 : ¬ (mid < e ∧ e < b) := by omega
                go_wp2
                first | go_end0 | ((try simp only [Exit.inBlock, Exit.then]); refine bodyPost_ret (results_none rfl _ _ _) rfl ?_)
                refine ⟨rfl, ?_⟩
                (try rw [hI])
                (try rw [hI2])
                unfold symT
                simp only [if_neg H1, if_neg H2, if_neg H3]
                exact S1.out
        · have qz0 : ¬ (s : Int) < (m : Int) := by omega
          have H1 : ¬ (s < m ∧ m < e) := by omega
          by_cases q1 : a < s
          · have qz1 : (a : Int) < (s : Int) := by omega
            by_cases k1 : s < mid
            · have kz1 : (s : Int) < (mid : Int) := by omega
              have H2 : a < s ∧ s < mid := ⟨q1, k1⟩
              go_wp2_with fail
              refine (HI.out a s mid d _ rfl S1.out (by omega) q1 k1 (by omega)).mono ?_
              rintro e1 w1x ⟨rfl, hS1⟩
              have T1 : Aside (SW enc w0 blk off (rec a s mid d) w1x) := hS1
              have Z1 : Aside ((rec a s mid d).size = d.size) := (HRS.out _ _ _ _).trans rfl
              clear hS1 S1
              by_cases q2 : mid < e
              · have qz2 : (mid : Int) < (e : Int) := by omega
                by_cases k2 : e < b
                · have kz2 : (e : Int) < (b : Int) := by omega
                  have H3 : mid < e ∧ e < b := ⟨q2, k2⟩
                  go_wp2_with fail
                  refine (HI.out mid e b (rec a s mid d) _ Z1.out T1.out (by omega) q2 k2 (by omega)).mono ?_
                  rintro e2 w2x ⟨rfl, hS2⟩
                  have T2 : Aside (SW enc w0 blk off (rec mid e b (rec a s mid d)) w2x) := hS2
                  have Z2 : Aside ((rec mid e b (rec a s mid d)).size = d.size) := (HRS.out _ _ _ _).trans Z1.out
                  clear hS2 T1
                  go_wp2
                  first | go_end0 | ((try simp only [Exit.inBlock, Exit.then]); refine bodyPost_ret (results_none rfl _ _ _) rfl ?_)
                  refine ⟨rfl, ?_⟩
                  (try rw [hI])
                  (try rw [hI2])
                  unfold symT
                  simp only [if_neg H1, if_pos H2, if_pos H3]
                  exact T2.out
                · have kz2 : ¬ (e : Int) < (b : Int) := by omega
                  have H3 : ¬ (mid < e ∧ e < b) := by omega
                  have Z2 : Aside ((rec a s mid d).size = d.size) := Z1
                  go_wp2
                  first | go_end0 | ((try simp only [Exit.inBlock, Exit.then]); refine bodyPost_ret (results_none rfl _ _ _) rfl ?_)
                  refine ⟨rfl, ?_⟩
                  (try rw [hI])
                  (try rw [hI2])
                  unfold symT
                  simp only [if_neg H1, if_pos H2, if_neg H3]
                  exact T1.out
              · have qz2 : ¬ (mid : Int) < (e : Int) := by omega
                have H3 : ¬ (mid < e ∧ e < b) := by omega
                have Z2 : Aside ((rec a s mid d).size = d.size) := Z1
                go_wp2
                first | go_end0 | ((try simp only [Exit.inBlock, Exit.then]); refine bodyPost_ret (results_none rfl _ _ _) rfl ?_)
                refine ⟨rfl, ?_⟩
                (try rw [hI])
                (try rw [hI2])
                unfold symT
                simp only [if_neg H1, if_pos H2, if_neg H3]
                exact T1.out
            · have kz1 : ¬ (s : Int) < (mid : Int) := by omega
              have H2 : ¬ (a < s ∧ s < mid) := by omega
              by_cases q2 : mid < e
              · have qz2 : (mid : Int) < (e : Int) := by omega
                by_cases k2 : e < b
                · have kz2 : (e : Int) < (b : Int) := by omega
                  have H3 : mid < e ∧ e < b := ⟨q2, k2⟩
                  go_wp2_with fail
                  refine (HI.out mid e b d _ rfl S1.out (by omega) q2 k2 (by omega)).mono ?_
                  rintro e2 w2x ⟨rfl, hS2⟩
                  have T2 : Aside (SW enc w0 blk off (rec mid e b d) w2x) := hS2
                  have Z2 : Aside ((rec mid e b d).size = d.size) := (HRS.out _ _ _ _).trans rfl
                  clear hS2 S1
                  go_wp2
                  first | go_end0 | ((try simp only [Exit.inBlock, Exit.then]); refine bodyPost_ret (results_none rfl _ _ _) rfl ?_)
                  refine ⟨rfl, ?_⟩
                  (try rw [hI])
                  (try rw [hI2])
                  unfold symT
                  simp only [if_neg H1, if_neg H2, if_pos H3]
                  exact T2.out
                · have kz2 : ¬ (e : Int) < (b : Int) := by omega
                  have H3 : ¬ (mid < e ∧ e < b) := by omega
                  go_wp2
                  first | go_end0 | ((try simp only [Exit.inBlock, Exit.then]); refine bodyPost_ret (results_none rfl _ _ _) rfl ?_)
                  refine ⟨rfl, ?_⟩
                  (try rw [hI])
                  (try rw [hI2])
                  unfold symT
                  simp only [if_neg H1, if_neg H2, if_neg H3]
                  exact S1.out
              · have qz2 : ¬ (mid : Int) < (e : Int) := by omega
                have H3 : ¬ (mid < e ∧ e < b) := by omega
                go_wp2
                first | go_end0 | ((try simp only [Exit.inBlock, Exit.then]); refine bodyPost_ret (results_none rfl _ _ _) rfl ?_)
                refine ⟨rfl, ?_⟩
                (try rw [hI])
                (try rw [hI2])
                unfold symT
                simp only [if_neg H1, if_neg H2, if_neg H3]
                exact S1.out
          · have qz1 : ¬ (a : Int) < (s : Int) := by omega
            have H2 : ¬ (a < s ∧ s < mid) := by omega
            by_cases q2 : mid < e
            · have qz2 : (mid : Int) < (e : Int) := by omega
              by_cases k2 : e < b
              · have kz2 : (e : Int) < (b : Int) := by omega
                have H3 : mid < e ∧ e < b := ⟨q2, k2⟩
                go_wp2_with fail
                refine (HI.out mid e b d _ rfl S1.out (by omega) q2 k2 (by omega)).mono ?_
                rintro e2 w2x ⟨rfl, hS2⟩
                have T2 : Aside (SW enc w0 blk off (rec mid e b d) w2x) := hS2
                have Z2 : Aside ((rec mid e b d).size = d.size) := (HRS.out _ _ _ _).trans rfl
                clear hS2 S1
                go_wp2
                first | go_end0 | ((try simp only [Exit.inBlock, Exit.then]); refine bodyPost_ret (results_none rfl _ _ _) rfl ?_)
                refine ⟨rfl, ?_⟩
                (try rw [hI])
                (try rw [hI2])
                unfold symT
                simp only [if_neg H1, if_neg H2, if_pos H3]
                exact T2.out
              · have kz2 : ¬ (e : Int) < (b : Int) := by omega
                have H3 : ¬ (mid < e ∧ e < b) := by omega
                go_wp2
                first | go_end0 | ((try simp only [Exit.inBlock, Exit.then]); refine bodyPost_ret (results_none rfl _ _ _) rfl ?_)
                refine ⟨rfl, ?_⟩
                (try rw [hI])
                (try rw [hI2])
                unfold symT
                simp only [if_neg H1, if_neg H2, if_neg H3]
                exact S1.out
            · have qz2 : ¬ (mid : Int) < (e : Int) := by omega
              have H3 : ¬ (mid < e ∧ e < b) := by omega
              go_wp2
              first | go_end0 | ((try simp only [Exit.inBlock, Exit.then]); refine bodyPost_ret (results_none rfl _ _ _) rfl ?_)
              refine ⟨rfl, ?_⟩
              (try rw [hI])
              (try rw [hI2])
              unfold symT
              simp only [if_neg H1, if_neg H2, if_neg H3]
              exact S1.out
  · rw [if_neg hmm] at start
    obtain ⟨st1, st2⟩ := start
    have hmmz : ¬ (m : Int) > (mid : Int) := by omega
    have st1a : a ≤ s0 ∧ s0 ≤ a := by omega
    have st2a : m ≤ r0 ∧ r0 ≤ m := by omega
    clear st1 st2
    go_wp2
    go_loopg [20, 21, 23] (r0 - s0) (fun kx v20 v21 v23 wr => ∃ (s r : Nat), v20 = .int .i64 (s : Int) ∧ v21 = .int .i64 (r : Int) ∧ s0 ≤ s ∧ s ≤ r ∧ r ≤ r0 ∧ r - s ≤ kx ∧ Aside (SW enc w0 blk off d wr) ∧ Hid (∃ kk, r - s ≤ kk ∧ syS (ltOf cf) d p kk s r = syS (ltOf cf) d p b s0 r0))
    case atStart => exact ⟨s0, r0, by first | rfl | (congr 1; omega), by first | rfl | (congr 1; omega), by omega, by omega, by omega, Nat.le_refl _, S0, ⟨b, by omega, rfl⟩⟩
    case round =>
      clear S0
      obtain ⟨s, r, rfl, rfl, hai, hij, hjb, hkx, S1, hbs⟩ := hrel
      by_cases hlt : s < r
      · have hltz : (s : Int) < (r : Int) := by omega
        obtain ⟨c, hh⟩ : ∃ c, c = (s + r) / 2 := ⟨_, rfl⟩
        have hib : s ≤ c := by omega
        have hjb2 : c < r := by omega
        obtain ⟨f9, f10⟩ := F8.out c (by omega) (by omega)
        obtain ⟨q, hq⟩ : ∃ q, q = p - c := ⟨_, rfl⟩
        have hqb : q < d.size := by omega
        go_wp2_with fail
        have HH : Aside (c = (s + r) / 2) := hh
        have HQ : Aside (q = p - c) := hq
        have hc1 : 2 * c ≤ s + r := by omega
        have hc2 : s + r ≤ 2 * c + 1 := by omega
        have hq1 : q + c ≤ p := by omega
        have hq2 : p ≤ q + c := by omega
        clear hh hq
        generalize hcz : ((s : Int) + (r : Int)) / 2 = cz
        obtain rfl : cz = (c : Int) := by omega
        clear hcz
        have zq : (p : Int) - (c : Int) = (q : Int) := by omega
        cases hlv : ltOf cf d[q]! d[c]! with
        | true =>
          obtain ⟨iN7, hiN7⟩ : ∃ q_, q_ = q := ⟨_, rfl⟩
          obtain ⟨jN7, hjN7⟩ : ∃ q_, q_ = c := ⟨_, rfl⟩
          have ea7 : ((q : Int)).toNat = iN7 := by omega
          have pa7 : (0 : Int) ≤ (q : Int) := by omega
          have ba7 : (q : Int) < (d.size : Int) := by omega
          have ra7 : IntKind.i64.wrap ((q : Int)) = (q : Int) := by rw [IntKind.wrap_i64]; omega
          have ec7 : ((c : Int)).toNat = jN7 := by omega
          have pc7 : (0 : Int) ≤ (c : Int) := by omega
          have bc7 : (c : Int) < (d.size : Int) := by omega
          have rc7 : IntKind.i64.wrap ((c : Int)) = (c : Int) := by rw [IntKind.wrap_i64]; omega
          obtain ⟨x7, hx7⟩ : ∃ x, x = d[q]! := ⟨_, rfl⟩
          obtain ⟨y7, hy7⟩ : ∃ x, x = d[c]! := ⟨_, rfl⟩
          have l7a := S1.out.cl R (by omega) (q) (by omega)
          have l7b := S1.out.cl R (by omega) (c) (by omega)
          rw [← hx7, ← hiN7] at l7a
          rw [← hy7, ← hjN7] at l7b
          have hc7 := S1.out.cmp HC.out (by omega) x7 y7
          have hv7 : cf x7 y7 < 0 := by rw [hx7, hy7]; exact of_decide_eq_true hlv
          have hd7 : decide (cf x7 y7 < 0) = true := decide_eq_true hv7
          clear hx7 hy7 hiN7 hjN7
          (try go_wp2_with fail)
          go_quiet_grown (first | (go_at_fn g; refine Calls.grown_of (hc7 _ _)))
          have S2 : Aside (SW enc w0 blk off d (grow (wr.drewN nq) osq)) := S1.out.grown nq osq
          clear l7a l7b hc7 S1
          generalize grow (wr.drewN nq) osq = w2 at S2 ⊢
          clear nq osq
          clear ea7 ec7
          go_wp2
          go_roundg (c - s)
          case measure => omega
          case rel => exact ⟨s, c, rfl, by first | rfl | (congr 1; omega), by omega, by omega, by omega, Nat.le_refl _, S2, (show Hid _ from by
            obtain ⟨kk, hk, hy⟩ := hbs.out
            obtain ⟨k', rfl⟩ : ∃ k', kk = k' + 1 := ⟨kk - 1, by omega⟩
            rw [syS, if_pos hlt, ← HH.out, ← HQ.out, if_pos hlv] at hy
            exact ⟨k', by omega, hy⟩)⟩
        | false =>
          obtain ⟨iN8, hiN8⟩ : ∃ q_, q_ = q := ⟨_, rfl⟩
          obtain ⟨jN8, hjN8⟩ : ∃ q_, q_ = c := ⟨_, rfl⟩
          have ea8 : ((q : Int)).toNat = iN8 := by omega
          have pa8 : (0 : Int) ≤ (q : Int) := by omega
          have ba8 : (q : Int) < (d.size : Int) := by omega
          have ra8 : IntKind.i64.wrap ((q : Int)) = (q : Int) := by rw [IntKind.wrap_i64]; omega
          have ec8 : ((c : Int)).toNat = jN8 := by omega
          have pc8 : (0 : Int) ≤ (c : Int) := by omega
          have bc8 : (c : Int) < (d.size : Int) := by omega
          have rc8 : IntKind.i64.wrap ((c : Int)) = (c : Int) := by rw [IntKind.wrap_i64]; omega
          obtain ⟨x8, hx8⟩ : ∃ x, x = d[q]! := ⟨_, rfl⟩
          obtain ⟨y8, hy8⟩ : ∃ x, x = d[c]! := ⟨_, rfl⟩
          have l8a := S1.out.cl R (by omega) (q) (by omega)
          have l8b := S1.out.cl R (by omega) (c) (by omega)
          rw [← hx8, ← hiN8] at l8a
          rw [← hy8, ← hjN8] at l8b
          have hc8 := S1.out.cmp HC.out (by omega) x8 y8
          have hv8 : ¬ cf x8 y8 < 0 := by rw [hx8, hy8]; exact of_decide_eq_false hlv
          have hd8 : decide (cf x8 y8 < 0) = false := decide_eq_false hv8
          clear hx8 hy8 hiN8 hjN8
          (try go_wp2_with fail)
          go_quiet_grown (first | (go_at_fn g; refine Calls.grown_of (hc8 _ _)))
          have S2 : Aside (SW enc w0 blk off d (grow (wr.drewN nq) osq)) := S1.out.grown nq osq
          clear l8a l8b hc8 S1
          generalize grow (wr.drewN nq) osq = w2 at S2 ⊢
          clear nq osq
          clear ea8 ec8
          go_wp2
          go_roundg (r - (c + 1))
          case measure => omega
          case rel => exact ⟨c + 1, r, by first | rfl | go_num | (congr 1; omega), rfl, by omega, by omega, by omega, Nat.le_refl _, S2, (show Hid _ from by
            obtain ⟨kk, hk, hy⟩ := hbs.out
            obtain ⟨k', rfl⟩ : ∃ k', kk = k' + 1 := ⟨kk - 1, by omega⟩
            rw [syS, if_pos hlt, ← HH.out, ← HQ.out, if_neg (by rw [hlv]; decide)] at hy
            exact ⟨k', by omega, hy⟩)⟩
      · have hltz : ¬ (s : Int) < (r : Int) := by omega
        have hI : syS (ltOf cf) d p b s0 r0 = s := by
          obtain ⟨kk, _, hy⟩ := hbs.out
          rw [← hy]
          cases kk with
          | zero => rfl
          | succ k' => rw [syS, if_neg hlt]
        clear hbs
        obtain ⟨e, he⟩ : ∃ e, e = n - s := ⟨_, rfl⟩
        have ze : (n : Int) - (s : Int) = (e : Int) := by omega
        have fe1 : e + s ≤ n := by omega
        have fe2 : n ≤ e + s := by omega
        have hI2 : n - s = e := he.symm
        clear he
        by_cases q0 : s < m
        · have qz0 : (s : Int) < (m : Int) := by omega
          by_cases k0 : m < e
          · have kz0 : (m : Int) < (e : Int) := by omega
            have H1 : s < m ∧ m < e := ⟨q0, k0⟩
            go_wp2_with fail
            refine (HROT.out s m e q0 k0 (by omega) _ S1.out).mono ?_
            rintro e0 w0x ⟨rfl, hS0⟩
            have T0 : Aside (SW enc w0 blk off (rotR m (e - s) (m - s) (e - m) d) w0x) := hS0
            have Z0 : Aside ((rotR m (e - s) (m - s) (e - m) d).size = d.size) := rotR_size _ _ _ _ _
            clear hS0 S1
            by_cases q1 : a < s
            · have qz1 : (a : Int) < (s : Int) := by omega
              by_cases k1 : s < mid
              · have kz1 : (s : Int) < (mid : Int) := by omega
                have H2 : a < s ∧ s < mid := ⟨q1, k1⟩
                go_wp2_with fail
                refine (HI.out a s mid (rotR m (e - s) (m - s) (e - m) d) _ Z0.out T0.out (by omega) q1 k1 (by omega)).mono ?_
                rintro e1 w1x ⟨rfl, hS1⟩
                have T1 : Aside (SW enc w0 blk off (rec a s mid (rotR m (e - s) (m - s) (e - m) d)) w1x) := hS1
                have Z1 : Aside ((rec a s mid (rotR m (e - s) (m - s) (e - m) d)).size = d.size) := (HRS.out _ _ _ _).trans Z0.out
                clear hS1 T0
                by_cases q2 : mid < e
                · have qz2 : (mid : Int) < (e : Int) := by omega
                  by_cases k2 : e < b
                  · have kz2 : (e : Int) < (b : Int) := by omega
                    have H3 : mid < e ∧ e < b := ⟨q2, k2⟩
                    go_wp2_with fail
                    refine (HI.out mid e b (rec a s mid (rotR m (e - s) (m - s) (e - m) d)) _ Z1.out T1.out (by omega) q2 k2 (by omega)).mono ?_
                    rintro e2 w2x ⟨rfl, hS2⟩
                    have T2 : Aside (SW enc w0 blk off (rec mid e b (rec a s mid (rotR m (e - s) (m - s) (e - m) d))) w2x) := hS2
                    have Z2 : Aside ((rec mid e b (rec a s mid (rotR m (e - s) (m - s) (e - m) d))).size = d.size) := (HRS.out _ _ _ _).trans Z1.out
                    clear hS2 T1
                    go_wp2
                    first | go_end0 | ((try simp only [Exit.inBlock, Exit.then]); refine bodyPost_ret (results_none rfl _ _ _) rfl ?_)
                    refine ⟨rfl, ?_⟩
                    (try rw [hI])
                    (try rw [hI2])
                    unfold symT
                    simp only [if_pos H1, if_pos H2, if_pos H3]
                    exact T2.out
                  · have kz2 : ¬ (e : Int) < (b : Int) := by omega
                    have H3 : ¬ (mid < e ∧ e < b) := by omega
                    have Z2 : Aside ((rec a s mid (rotR m (e - s) (m - s) (e - m) d)).size = d.size) := Z1
                    go_wp2
                    first | go_end0 | ((try simp only [Exit.inBlock, Exit.then]); refine bodyPost_ret (results_none rfl _ _ _) rfl ?_)
                    refine ⟨rfl, ?_⟩
                    (try rw [hI])
                    (try rw [hI2])
                    unfold symT
                    simp only [if_pos H1, if_pos H2, if_neg H3]
                    exact T1.out
                · have qz2 : ¬ (mid : Int) < (e : Int) := by omega
                  have H3 : ¬ (mid < e ∧ e < b) := by omega
                  have Z2 : Aside ((rec a s mid (rotR m (e - s) (m - s) (e - m) d)).size = d.size) := Z1
                  go_wp2
                  first | go_end0 | ((try simp only [Exit.inBlock, Exit.then]); refine bodyPost_ret (results_none rfl _ _ _) rfl ?_)
                  refine ⟨rfl, ?_⟩
                  (try rw [hI])
                  (try rw [hI2])
                  unfold symT
                  simp only [if_pos H1, if_pos H2, if_neg H3]
                  exact T1.out
              · have kz1 : ¬ (s : Int) < (mid : Int) := by omega
                have H2 : ¬ (a < s ∧ s < mid) := by omega
                have Z1 : Aside ((rotR m (e - s) (m - s) (e - m) d).size = d.size) := Z0
                by_cases q2 : mid < e
                · have qz2 : (mid : Int) < (e : Int) := by omega
                  by_cases k2 : e < b
                  · have kz2 : (e : Int) < (b : Int) := by omega
                    have H3 : mid < e ∧ e < b := ⟨q2, k2⟩
                    go_wp2_with fail
                    refine (HI.out mid e b (rotR m (e - s) (m - s) (e - m) d) _ Z1.out T0.out (by omega) q2 k2 (by omega)).mono ?_
                    rintro e2 w2x ⟨rfl, hS2⟩
                    have T2 : Aside (SW enc w0 blk off (rec mid e b (rotR m (e - s) (m - s) (e - m) d)) w2x) := hS2
                    have Z2 : Aside ((rec mid e b (rotR m (e - s) (m - s) (e - m) d)).size = d.size) := (HRS.out _ _ _ _).trans Z1.out
                    clear hS2 T0
                    go_wp2
                    first | go_end0 | ((try simp only [Exit.inBlock, Exit.then]); refine bodyPost_ret (results_none rfl _ _ _) rfl ?_)
                    refine ⟨rfl, ?_⟩
                    (try rw [hI])
                    (try rw [hI2])
                    unfold symT
                    simp only [if_pos H1, if_neg H2, if_pos H3]
                    exact T2.out
                  · have kz2 : ¬ (e : Int) < (b : Int) := by omega
                    have H3 : ¬ (mid < e ∧ e < b) := by omega
                    have Z2 : Aside ((rotR m (e - s) (m - s) (e - m) d).size = d.size) := Z1
                    go_wp2
                    first | go_end0 | ((try simp only [Exit.inBlock, Exit.then]); refine bodyPost_ret (results_none rfl _ _ _) rfl ?_)
                    refine ⟨rfl, ?_⟩
                    (try rw [hI])
                    (try rw [hI2])
                    unfold symT
                    simp only [if_pos H1, if_neg H2, if_neg H3]
                    exact T0.out
                · have qz2 : ¬ (mid : Int) < (e : Int) := by omega
                  have H3 : ¬ (mid < e ∧ e < b) := by omega
                  have Z2 : Aside ((rotR m (e - s) (m - s) (e - m) d).size = d.size) := Z1
                  go_wp2
                  first | go_end0 | ((try simp only [Exit.inBlock, Exit.then]); refine bodyPost_ret (results_none rfl _ _ _) rfl ?_)
                  refine ⟨rfl, ?_⟩
                  (try rw [hI])
                  (try rw [hI2])
                  unfold symT
                  simp only [if_pos H1, if_neg H2, if_neg H3]
                  exact T0.out
            · have qz1 : ¬ (a : Int) < (s : Int) := by omega
              have H2 : ¬ (a < s ∧ s < mid) := by omega
              have Z1 : Aside ((rotR m (e - s) (m - s) (e - m) d).size = d.size) := Z0
              by_cases q2 : mid < e
              · have qz2 : (mid : Int) < (e : Int) := by omega
                by_cases k2 : e < b
                · have kz2 : (e : Int) < (b : Int) := by omega
                  have H3 : mid < e ∧ e < b := ⟨q2, k2⟩
                  go_wp2_with fail
                  refine (HI.out mid e b (rotR m (e - s) (m - s) (e - m) d) _ Z1.out T0.out (by omega) q2 k2 (by omega)).mono ?_
                  rintro e2 w2x ⟨rfl, hS2⟩
                  have T2 : Aside (SW enc w0 blk off (rec mid e b (rotR m (e - s) (m - s) (e - m) d)) w2x) := hS2
                  have Z2 : Aside ((rec mid e b (rotR m (e - s) (m - s) (e - m) d)).size = d.size) := (HRS.out _ _ _ _).trans Z1.out
                  clear hS2 T0
                  go_wp2
                  first | go_end0 | ((try simp only [Exit.inBlock, Exit.then]); refine bodyPost_ret (results_none rfl _ _ _) rfl ?_)
                  refine ⟨rfl, ?_⟩
                  (try rw [hI])
                  (try rw [hI2])
                  unfold symT
                  simp only [if_pos H1, if_neg H2, if_pos H3]
                  exact T2.out
                · have kz2 : ¬ (e : Int) < (b : Int) := by omega
                  have H3 : ¬ (mid < e ∧ e < b) := by omega
                  have Z2 : Aside ((rotR m (e - s) (m - s) (e - m) d).size = d.size) := Z1
                  go_wp2
                  first | go_end0 | ((try simp only [Exit.inBlock, Exit.then]); refine bodyPost_ret (results_none rfl _ _ _) rfl ?_)
                  refine ⟨rfl, ?_⟩
                  (try rw [hI])
                  (try rw [hI2])
                  unfold symT
                  simp only [if_pos H1, if_neg H2, if_neg H3]
                  exact T0.out
              · have qz2 : ¬ (mid : Int) < (e : Int) := by omega
                have H3 : ¬ (mid < e ∧ e < b) := by omega
                have Z2 : Aside ((rotR m (e - s) (m - s) (e - m) d).size = d.size) := Z1
                go_wp2
                first | go_end0 | ((try simp only [Exit.inBlock, Exit.then]); refine bodyPost_ret (results_none rfl _ _ _) rfl ?_)
                refine ⟨rfl, ?_⟩
                (try rw [hI])
                (try rw [hI2])
                unfold symT
                simp only [if_pos H1, if_neg H2, if_neg H3]
                exact T0.out
          · have kz0 : ¬ (m : Int) < (e : Int) := by omega
            have H1 : ¬ (s < m ∧ m < e) := by omega
            by_cases q1 : a < s
            · have qz1 : (a : Int) < (s : Int) := by omega
              by_cases k1 : s < mid
              · have kz1 : (s : Int) < (mid : Int) := by omega
                have H2 : a < s ∧ s < mid := ⟨q1, k1⟩
                go_wp2_with fail
                refine (HI.out a s mid d _ rfl S1.out (by omega) q1 k1 (by omega)).mono ?_
                rintro e1 w1x ⟨rfl, hS1⟩
                have T1 : Aside (SW enc w0 blk off (rec a s mid d) w1x) := hS1
                have Z1 : Aside ((rec a s mid d).size = d.size) := (HRS.out _ _ _ _).trans rfl
                clear hS1 S1
                by_cases q2 : mid < e
                · have qz2 : (mid : Int) < (e : Int) := by omega
                  by_cases k2 : e < b
                  · have kz2 : (e : Int) < (b : Int) := by omega
                    have H3 : mid < e ∧ e < b := ⟨q2, k2⟩
                    go_wp2_with fail
                    refine (HI.out mid e b (rec a s mid d) _ Z1.out T1.out (by omega) q2 k2 (by omega)).mono ?_
                    rintro e2 w2x ⟨rfl, hS2⟩
                    have T2 : Aside (SW enc w0 blk off (rec mid e b (rec a s mid d)) w2x) := hS2
                    have Z2 : Aside ((rec mid e b (rec a s mid d)).size = d.size) := (HRS.out _ _ _ _).trans Z1.out
                    clear hS2 T1
                    go_wp2
                    first | go_end0 | ((try simp only [Exit.inBlock, Exit.then]); refine bodyPost_ret (results_none rfl _ _ _) rfl ?_)
                    refine ⟨rfl, ?_⟩
                    (try rw [hI])
                    (try rw [hI2])
                    unfold symT
                    simp only [if_neg H1, if_pos H2, if_pos H3]
                    exact T2.out
                  · have kz2 : ¬ (e : Int) < (b : Int) := by omega
                    have H3 : ¬ (mid < e ∧ e < b) := by omega
                    have Z2 : Aside ((rec a s mid d).size = d.size) := Z1
                    go_wp2
                    first | go_end0 | ((try simp only [Exit.inBlock, Exit.then]); refine bodyPost_ret (results_none rfl _ _ _) rfl ?_)
                    refine ⟨rfl, ?_⟩
                    (try rw [hI])
                    (try rw [hI2])
                    unfold symT
                    simp only [if_neg H1, if_pos H2, if_neg H3]
                    exact T1.out
                · have qz2 : ¬ (mid : Int) < (e : Int) := by omega
                  have H3 : ¬ (mid < e ∧ e < b) := by omega
                  have Z2 : Aside ((rec a s mid d).size = d.size) := Z1
                  go_wp2
                  first | go_end0 | ((try simp only [Exit.inBlock, Exit.then]); refine bodyPost_ret (results_none rfl _ _ _) rfl ?_)
                  refine ⟨rfl, ?_⟩
                  (try rw [hI])
                  (try rw [hI2])
                  unfold symT
                  simp only [if_neg H1, if_pos H2, if_neg H3]
                  exact T1.out
              · have kz1 : ¬ (s : Int) < (mid : Int) := by omega
                have H2 : ¬ (a < s ∧ s < mid) := by omega
                by_cases q2 : mid < e
                · have qz2 : (mid : Int) < (e : Int) := by omega
                  by_cases k2 : e < b
                  · have kz2 : (e : Int) < (b : Int) := by omega
                    have H3 : mid < e ∧ e < b := ⟨q2, k2⟩
                    go_wp2_with fail
                    refine (HI.out mid e b d _ rfl S1.out (by omega) q2 k2 (by omega)).mono ?_
                    rintro e2 w2x ⟨rfl, hS2⟩
                    have T2 : Aside (SW enc w0 blk off (rec mid e b d) w2x) := hS2
                    have Z2 : Aside ((rec mid e b d).size = d.size) := (HRS.out _ _ _ _).trans rfl
                    clear hS2 S1
                    go_wp2
                    first | go_end0 | ((try simp only [Exit.inBlock, Exit.then]); refine bodyPost_ret (results_none rfl _ _ _) rfl ?_)
                    refine ⟨rfl, ?_⟩
                    (try rw [hI])
                    (try rw [hI2])
                    unfold symT
                    simp only [if_neg H1, if_neg H2, if_pos H3]
                    exact T2.out
                  · have kz2 : ¬ (e : Int) < (b : Int) := by omega
                    have H3 : ¬ (mid < e ∧ e < b) := by omega
                    go_wp2
                    first | go_end0 | ((try simp only [Exit.inBlock, Exit.then]); refine bodyPost_ret (results_none rfl _ _ _) rfl ?_)
                    refine ⟨rfl, ?_⟩
                    (try rw [hI])
                    (try rw [hI2])
                    unfold symT
                    simp only [if_neg H1, if_neg H2, if_neg H3]
                    exact S1.out
                · have qz2 : ¬ (mid : Int) < (e : Int) := by omega
                  have H3 : ¬ (mid < e ∧ e < b) := by omega
                  go_wp2
                  first | go_end0 | ((try simp only [Exit.inBlock, Exit.then]); refine bodyPost_ret (results_none rfl _ _ _) rfl ?_)
                  refine ⟨rfl, ?_⟩
                  (try rw [hI])
                  (try rw [hI2])
                  unfold symT
                  simp only [if_neg H1, if_neg H2, if_neg H3]
                  exact S1.out
            · have qz1 : ¬ (a : Int) < (s : Int) := by omega
              have H2 : ¬ (a < s ∧ s < mid) := by omega
              by_cases q2 : mid < e
              · have qz2 : (mid : Int) < (e : Int) := by omega
                by_cases k2 : e < b
                · have kz2 : (e : Int) < (b : Int) := by omega
                  have H3 : mid < e ∧ e < b := ⟨q2, k2⟩
                  go_wp2_with fail
                  refine (HI.out mid e b d _ rfl S1.out (by omega) q2 k2 (by omega)).mono ?_
                  rintro e2 w2x ⟨rfl, hS2⟩
                  have T2 : Aside (SW enc w0 blk off (rec mid e b d) w2x) := hS2
                  have Z2 : Aside ((rec mid e b d).size = d.size) := (HRS.out _ _ _ _).trans rfl
                  clear hS2 S1
                  go_wp2
                  first | go_end0 | ((try simp only [Exit.inBlock, Exit.then]); refine bodyPost_ret (results_none rfl _ _ _) rfl ?_)
                  refine ⟨rfl, ?_⟩
                  (try rw [hI])
                  (try rw [hI2])
                  unfold symT
                  simp only [if_neg H1, if_neg H2, if_pos H3]
                  exact T2.out
                · have kz2 : ¬ (e : Int) < (b : Int) := by omega
                  have H3 : ¬ (mid < e ∧ e < b) := by omega
                  go_wp2
                  first | go_end0 | ((try simp only [Exit.inBlock, Exit.then]); refine bodyPost_ret (results_none rfl _ _ _) rfl ?_)
                  refine ⟨rfl, ?_⟩
                  (try rw [hI])
                  (try rw [hI2])
                  unfold symT
                  simp only [if_neg H1, if_neg H2, if_neg H3]
                  exact S1.out
              · have qz2 : ¬ (mid : Int) < (e : Int) := by omega
                have H3 : ¬ (mid < e ∧ e < b) := by omega
                go_wp2
                first | go_end0 | ((try simp only [Exit.inBlock, Exit.then]); refine bodyPost_ret (results_none rfl _ _ _) rfl ?_)
                refine ⟨rfl, ?_⟩
                (try rw [hI])
                (try rw [hI2])
                unfold symT
                simp only [if_neg H1, if_neg H2, if_neg H3]
                exact S1.out
        · have qz0 : ¬ (s : Int) < (m : Int) := by omega
          have H1 : ¬ (s < m ∧ m < e) := by omega
          by_cases q1 : a < s
          · have qz1 : (a : Int) < (s : Int) := by omega
            by_cases k1 : s < mid
            · have kz1 : (s : Int) < (mid : Int) := by omega
              have H2 : a < s ∧ s < mid := ⟨q1, k1⟩
              go_wp2_with fail
              refine (HI.out a s mid d _ rfl S1.out (by omega) q1 k1 (by omega)).mono ?_
              rintro e1 w1x ⟨rfl, hS1⟩
              have T1 : Aside (SW enc w0 blk off (rec a s mid d) w1x) := hS1
              have Z1 : Aside ((rec a s mid d).size = d.size) := (HRS.out _ _ _ _).trans rfl
              clear hS1 S1
              by_cases q2 : mid < e
              · have qz2 : (mid : Int) < (e : Int) := by omega
                by_cases k2 : e < b
                · have kz2 : (e : Int) < (b : Int) := by omega
                  have H3 : mid < e ∧ e < b := ⟨q2, k2⟩
                  go_wp2_with fail
                  refine (HI.out mid e b (rec a s mid d) _ Z1.out T1.out (by omega) q2 k2 (by omega)).mono ?_
                  rintro e2 w2x ⟨rfl, hS2⟩
                  have T2 : Aside (SW enc w0 blk off (rec mid e b (rec a s mid d)) w2x) := hS2
                  have Z2 : Aside ((rec mid e b (rec a s mid d)).size = d.size) := (HRS.out _ _ _ _).trans Z1.out
                  clear hS2 T1
                  go_wp2
                  first | go_end0 | ((try simp only [Exit.inBlock, Exit.then]); refine bodyPost_ret (results_none rfl _ _ _) rfl ?_)
                  refine ⟨rfl, ?_⟩
                  (try rw [hI])
                  (try rw [hI2])
                  unfold symT
                  simp only [if_neg H1, if_pos H2, if_pos H3]
                  exact T2.out
                · have kz2 : ¬ (e : Int) < (b : Int) := by omega
                  have H3 : ¬ (mid < e ∧ e < b) := by omega
                  have Z2 : Aside ((rec a s mid d).size = d.size) := Z1
                  go_wp2
                  first | go_end0 | ((try simp only [Exit.inBlock, Exit.then]); refine bodyPost_ret (results_none rfl _ _ _) rfl ?_)
                  refine ⟨rfl, ?_⟩
                  (try rw [hI])
                  (try rw [hI2])
                  unfold symT
                  simp only [if_neg H1, if_pos H2, if_neg H3]
                  exact T1.out
              · have qz2 : ¬ (mid : Int) < (e : Int) := by omega
                have H3 : ¬ (mid < e ∧ e < b) := by omega
                have Z2 : Aside ((rec a s mid d).size = d.size) := Z1
                go_wp2
                first | go_end0 | ((try simp only [Exit.inBlock, Exit.then]); refine bodyPost_ret (results_none rfl _ _ _) rfl ?_)
                refine ⟨rfl, ?_⟩
                (try rw [hI])
                (try rw [hI2])
                unfold symT
                simp only [if_neg H1, if_pos H2, if_neg H3]
                exact T1.out
            · have kz1 : ¬ (s : Int) < (mid : Int) := by omega
              have H2 : ¬ (a < s ∧ s < mid) := by omega
              by_cases q2 : mid < e
              · have qz2 : (mid : Int) < (e : Int) := by omega
                by_cases k2 : e < b
                · have kz2 : (e : Int) < (b : Int) := by omega
                  have H3 : mid < e ∧ e < b := ⟨q2, k2⟩
                  go_wp2_with fail
                  refine (HI.out mid e b d _ rfl S1.out (by omega) q2 k2 (by omega)).mono ?_
                  rintro e2 w2x ⟨rfl, hS2⟩
                  have T2 : Aside (SW enc w0 blk off (rec mid e b d) w2x) := hS2
                  have Z2 : Aside ((rec mid e b d).size = d.size) := (HRS.out _ _ _ _).trans rfl
                  clear hS2 S1
                  go_wp2
                  first | go_end0 | ((try simp only [Exit.inBlock, Exit.then]); refine bodyPost_ret (results_none rfl _ _ _) rfl ?_)
                  refine ⟨rfl, ?_⟩
                  (try rw [hI])
                  (try rw [hI2])
                  unfold symT
                  simp only [if_neg H1, if_neg H2, if_pos H3]
                  exact T2.out
                · have kz2 : ¬ (e : Int) < (b : Int) := by omega
                  have H3 : ¬ (mid < e ∧ e < b) := by omega
                  go_wp2
                  first | go_end0 | ((try simp only [Exit.inBlock, Exit.then]); refine bodyPost_ret (results_none rfl _ _ _) rfl ?_)
                  refine ⟨rfl, ?_⟩
                  (try rw [hI])
                  (try rw [hI2])
                  unfold symT
                  simp only [if_neg H1, if_neg H2, if_neg H3]
                  exact S1.out
              · have qz2 : ¬ (mid : Int) < (e : Int) := by omega
                have H3 : ¬ (mid < e ∧ e < b) := by omega
                go_wp2
                first | go_end0 | ((try simp only [Exit.inBlock, Exit.then]); refine bodyPost_ret (results_none rfl _ _ _) rfl ?_)
                refine ⟨rfl, ?_⟩
                (try rw [hI])
                (try rw [hI2])
                unfold symT
                simp only [if_neg H1, if_neg H2, if_neg H3]
                exact S1.out
          · have qz1 : ¬ (a : Int) < (s : Int) := by omega
            have H2 : ¬ (a < s ∧ s < mid) := by omega
            by_cases q2 : mid < e
            · have qz2 : (mid : Int) < (e : Int) := by omega
              by_cases k2 : e < b
              · have kz2 : (e : Int) < (b : Int) := by omega
                have H3 : mid < e ∧ e < b := ⟨q2, k2⟩
                go_wp2_with fail
                refine (HI.out mid e b d _ rfl S1.out (by omega) q2 k2 (by omega)).mono ?_
                rintro e2 w2x ⟨rfl, hS2⟩
                have T2 : Aside (SW enc w0 blk off (rec mid e b d) w2x) := hS2
                have Z2 : Aside ((rec mid e b d).size = d.size) := (HRS.out _ _ _ _).trans rfl
                clear hS2 S1
                go_wp2
                first | go_end0 | ((try simp only [Exit.inBlock, Exit.then]); refine bodyPost_ret (results_none rfl _ _ _) rfl ?_)
                refine ⟨rfl, ?_⟩
                (try rw [hI])
                (try rw [hI2])
                unfold symT
                simp only [if_neg H1, if_neg H2, if_pos H3]
                exact T2.out
              · have kz2 : ¬ (e : Int) < (b : Int) := by omega
                have H3 : ¬ (mid < e ∧ e < b) := by omega
                go_wp2
                first | go_end0 | ((try simp only [Exit.inBlock, Exit.then]); refine bodyPost_ret (results_none rfl _ _ _) rfl ?_)
                refine ⟨rfl, ?_⟩
                (try rw [hI])
                (try rw [hI2])
                unfold symT
                simp only [if_neg H1, if_neg H2, if_neg H3]
                exact S1.out
            · have qz2 : ¬ (mid : Int) < (e : Int) := by omega
              have H3 : ¬ (mid < e ∧ e < b) := by omega
              go_wp2
              first | go_end0 | ((try simp only [Exit.inBlock, Exit.then]); refine bodyPost_ret (results_none rfl _ _ _) rfl ?_)
              refine ⟨rfl, ?_⟩
              (try rw [hI])
              (try rw [hI2])
              unfold symT
              simp only [if_neg H1, if_neg H2, if_neg H3]
              exact S1.out
end Go.Proofs.YtbflblmkdnhboaaGreatDoor.Pr
namespace Go.Proofs.YtbflblmkdnhboaaGreatDoor.Pr
open Go.RowKit Go.Proofs.YtbflblmkdnhboaaGreatDoorW.PrintWords Go.Proofs.YtbflblmkdnhboaaGreatDoorW.PrintLast Go.Proofs.YtbflblmkdnhboaaGreatDoorW.PrintMore
set_option linter.unusedVariables false
set_option linter.unusedSimpArgs false
def ruleMap (fv : Int → Int) (l : List Int) : List S41 := l.map fun s => ⟨s, fv s⟩
def ruleLoop (fv : Int → Int) : Nat → List (S41) → List Int → Int → Int → Option ((List (S41)))
  | 0, _, _, _, _ => none
  | k + 1, x5, x9, x10, x11 => if x11 < x10 then (if 0 ≤ x11 then (if x11 < (x9.length : Int) then (if x5.length < 8796093022208 then (ruleLoop fv k (x5 ++ [(⟨rd x9 x11, fv (rd x9 x11)⟩ : S41)]) x9 x10 (wrap64 (x11 + 1))) else (none)) else (none)) else (none)) else (some x5)
theorem ruleLoop_val (fv : Int → Int) (l : List Int) (hl : l.length ≤ 1048576) : ∀ (d i : Nat) (out : List S41), i + d = l.length → out.length ≤ i → ruleLoop fv (d + 1) out l (l.length : Int) (i : Int) = some (out ++ ruleMap fv (l.drop i)) := by
  intro d
  induction d with
  | zero =>
    intro i out hi ho
    unfold ruleLoop
    rw [if_neg (by omega), List.drop_of_length_le (by omega)]
    unfold ruleMap
    simp
  | succ d ih =>
    intro i out hi ho
    unfold ruleLoop
    have hlt : i < l.length := by omega
    have hrd : rd l (i : Int) = l[i] := by
      unfold rd
      rw [Int.toNat_natCast, List.getD_eq_getElem?_getD, List.getElem?_eq_getElem hlt]
      rfl
    rw [if_pos (by omega), if_pos (by omega), if_pos (by omega), if_pos (by omega), show wrap64 ((i : Int) + 1) = ((i + 1 : Nat) : Int) from by unfold wrap64; omega, ih (i + 1) _ (by omega) (by rw [List.length_append, List.length_singleton]; omega), hrd, List.append_assoc, List.drop_eq_getElem_cons hlt]
    rfl
theorem rd_memR {l : List Int} {x : Int} (h0 : 0 ≤ x) (h1 : x < (l.length : Int)) : rd l x ∈ l := by
  unfold rd
  rw [List.getD_eq_getElem?_getD, List.getElem?_eq_getElem (by omega)]
  exact List.getElem_mem _
set_option maxHeartbeats 8000000 in
set_option maxRecDepth 100000 in
theorem rulesTo_at (g : Nat) (cb : Array Value) (eg : ∀ args w, (callFunc g args).run Tryz.prog w = .ok (.enter g args) w) (fv : Int → Int) (A0 : Option Addr) (c0 : Nat) (l0 : List Int) (w : World) (hr0 : Kd.C (Kd.int .i64) w A0 l0.length l0) (hl : l0.length ≤ 1048576)
    (hp : ∀ (W : World) (x : Int), x ∈ l0 → Below w.heap.size w W → Calls Tryz.prog g (#[.int .i64 x] ++ cb) W fun e w' => e = .returned (.int .i64 (fv x)) ∧ Below W.heap.size W w') :
    Calls Tryz.prog 49 #[.slice A0 l0.length c0, .func (.func g) #[] cb] w fun e w' => ∃ v0_ : Value, e = .returned (v0_) ∧ Kd.R k41 41 w' w.heap.size (fun _ => True) v0_ (ruleMap fv l0) ∧ Below w.heap.size w w' := by
  have hu41 := Tryz.underlying41
  have HR0 := Aside0.mk hr0
  have HP := Aside0.mk hp
  have H : ruleLoop fv (l0.length + 1) ([] : List (S41)) l0 (l0.length : Int) 0 = some (ruleMap fv l0) := ruleLoop_val fv l0 hl l0.length 0 [] (by omega) (Nat.le_refl _)
  clear hr0 hp hl
  have HB := Aside0.mk (Below.refl w.heap.size w)
  generalize ruleMap fv l0 = r at *
  generalize l0.length + 1 = k at *
  have H' := Aside0.mk H
  clear H
  go_enter Tryz.func49, Tryz.ntmps49
  go_wp2_with (first | ((with_reducible refine gate_dst (N := 8) rfl ?_); refine Kd.R_lit k41 _ 41 ?hg (N := 8) ?hd (xs := ([] : List (S41))) (inner := []) (ok := fun _ => True) (okp := fun _ => True) ?hr ?hp (fun _ hk => hk) trivial (Below.refl _ _) (Nat.le_refl _) (by simp) ?_; (case hd => rfl); (case hg => rfl); (case hr => first | (go_simp; done) | (go_simp; rfl)); (case hp => exact (Reps.none _ _)); intro v320 w2 ho3 hb hg_ hnew_; clear hg_ hnew_; have n0_ := Aside0.mk (Kd.R_lower ho3 (below_size (by repeat (first | (with_reducible first | exact HB.out | apply below_alloc | apply pw_below_drewN | apply below_drew1) | exact HB.out)))); have n1_ := Aside0.mk (below_step (by repeat (first | (with_reducible first | exact HB.out | apply below_alloc | apply pw_below_drewN | apply below_drew1) | exact HB.out)) hb); clear HB; have HO321 := n0_; have HB := n1_; clear n0_ n1_; clear hb ho3))
  go_loopg [5, 11] k (fun kq v5 v11 w' => ∃ (x5_1 : List (S41)) (x11_1 : Int), v11 = .int .i64 x11_1 ∧ Aside0 (ruleLoop fv kq x5_1 l0 (l0.length : Int) x11_1 = some r) ∧ Aside0 (kq ≤ k) ∧ Aside0 (Kd.R k41 41 w' w.heap.size (fun _ => True) v5 x5_1) ∧ Aside0 (Below w.heap.size w w'))
  case atStart => exact ⟨([] : List (S41)), (0), (by first | rfl | (simp; done) | (simp [*]; done) | (simp [i64_w, i32_w]; done)), H', ⟨Nat.le_refl _⟩, ⟨by (with_reducible repeat (first | apply Kd.R_alloc | apply Kd.R_drewN | apply Kd.R_drew)); exact HO321.out⟩, ⟨by repeat (first | (with_reducible first | exact HB.out | apply below_alloc | apply pw_below_drewN | apply below_drew1) | exact HB.out)⟩⟩
  case round =>
    clear H'
    obtain ⟨x5_1, x11_1, rfl, HA, HK1, HO_5, HB⟩ := hrel
    cases gk with
    | zero => exact absurd HA.out (by simp [ruleLoop])
    | succ k1 =>
      have H := HA.out
      clear HA
      simp only [ruleLoop] at H
      by_cases c4 : x11_1 < (l0.length : Int)
      · rw [if_pos c4] at H
        have c4b0 : decide (x11_1 < (l0.length : Int)) = true := decide_eq_true c4
        by_cases c5 : 0 ≤ x11_1
        · rw [if_pos c5, if_pos c4] at H
          have HM := Aside0.mk (rd_memR c5 c4)
          clear c4
          have c5b0 : decide (0 ≤ x11_1) = true := decide_eq_true c5
          clear c5
          by_cases c8 : x5_1.length < 8796093022208
          · rw [if_pos c8] at H
            have LMc8 := Aside0.mk c8
            clear c8
            have H' := Aside0.mk H
            clear H
            have p322 : 0 ≤ (x11_1 : Int) := of_decide_eq_true (by first | (with_reducible assumption) | assumption)
            have q322 : x11_1 < (l0.length : Int) := of_decide_eq_true (by first | (with_reducible assumption) | assumption)
            obtain ⟨ad322, e322, hx322_0⟩ := Kd.at_int HR0.out x11_1 p322 q322
            cases e322
            replace hx322_0 := (HB.out.cell (World.block_lt_of_cell? w _ hx322_0)).trans hx322_0
            replace p322 := eq_true p322
            replace q322 := eq_true q322
            go_wp2_with fail
            refine (HP.out _ (rd l0 x11_1) HM.out (by repeat (first | (with_reducible first | exact HB.out | apply below_alloc | apply pw_below_drewN | apply below_drew1) | exact HB.out))).mono ?_
            rintro e w8 ⟨rfl, hb⟩
            have n0_ := Aside0.mk (Kd.R_below (by (with_reducible repeat (first | apply Kd.R_alloc | apply Kd.R_drewN | apply Kd.R_drew)); exact HO_5.out) hb)
            have n1_ := Aside0.mk (below_step (by repeat (first | (with_reducible first | exact HB.out | apply below_alloc | apply pw_below_drewN | apply below_drew1) | exact HB.out)) hb)
            clear HB HO_5
            have HO_5 := n0_
            have HB := n1_
            clear n0_ n1_ hb
            go_wp2_with (first | ((with_reducible refine gate_builtin (b := .append) (xs := #[.tmp 15, .tmp 21]) rfl ?_); at_builtin; refine Kd.R_append k41 (w0 := w) w.heap.size rfl (.tmp 15) (.tmp 21) 31 41 (.agg #[(.int .i64 0), (.int .i64 0)]) 16 rfl Tryz.underlying31 info41 rfl (by decide) (by omega) u5 x5_1 (⟨rd l0 x11_1, fv (rd l0 x11_1)⟩ : S41) [.int .i64 (rd l0 x11_1), .int .i64 (fv (rd l0 x11_1))] (fun _ => True) (fun _ => False) rfl rfl ?aP (fun _ hk => hk.elim) ?aF ?aO ?aB ?aS ?aL ?_; (case aP => exact k41_mkM _ _ _ (⟨rd l0 x11_1, fv (rd l0 x11_1)⟩ : S41)); (case aB => exact (by repeat (first | (with_reducible first | exact HB.out | apply below_alloc | apply pw_below_drewN | apply below_drew1) | exact HB.out))); (case aF => exact (fun _ _ => trivial)); (case aO => exact (by (with_reducible repeat (first | apply Kd.R_alloc | apply Kd.R_drewN | apply Kd.R_drew)); exact HO_5.out)); (case aS => exact (below_size (by repeat (first | (with_reducible first | exact HB.out | apply below_alloc | apply pw_below_drewN | apply below_drew1) | exact HB.out)))); (case aL => have := LMc8.out; omega); intro v325 w9 ho hb hg hat; have n0_ := Aside0.mk (hb); have n1_ := Aside0.mk (ho); clear HB; clear HO_5; have HB := n0_; have HO326 := n1_; clear n0_ n1_; clear ho hb hg hat))
            go_roundg k1
            case measure => have := HK1.out; omega
            case rel => exact ⟨(x5_1 ++ [(⟨rd l0 x11_1, fv (rd l0 x11_1)⟩ : S41)]), (wrap64 (x11_1 + 1)), (by first | rfl | (simp; done) | (simp [*]; done) | (simp [i64_w, i32_w]; done)), H', ⟨by have := HK1.out; omega⟩, ⟨by (with_reducible repeat (first | apply Kd.R_alloc | apply Kd.R_drewN | apply Kd.R_drew)); exact HO326.out⟩, ⟨by repeat (first | (with_reducible first | exact HB.out | apply below_alloc | apply pw_below_drewN | apply below_drew1) | exact HB.out)⟩⟩
          · rw [if_neg c8] at H
            exact absurd H (by simp)
        · rw [if_neg c5] at H
          exact absurd H (by simp)
      · rw [if_neg c4] at H
        have c4b0 : decide (x11_1 < (l0.length : Int)) = false := decide_eq_false c4
        clear c4
        obtain rfl := Option.some.inj H
        go_wp2
        go_ret
        exact ⟨_, by first | rfl | (simp [errW_none, errW_some] <;> rfl) | (simp [*, errW_none, errW_some] <;> rfl), by (with_reducible repeat (first | apply Kd.R_alloc | apply Kd.R_drewN | apply Kd.R_drew)); exact HO_5.out, by repeat (first | (with_reducible first | exact HB.out | apply below_alloc | apply pw_below_drewN | apply below_drew1) | exact HB.out)⟩
end Go.Proofs.YtbflblmkdnhboaaGreatDoor.Pr
namespace Go.Proofs.YtbflblmkdnhboaaGreatDoor.Pr
open Go.RowKit Go.Proofs.YtbflblmkdnhboaaGreatDoorW.PrintWords Go.Proofs.YtbflblmkdnhboaaGreatDoorW.PrintLast Go.Proofs.YtbflblmkdnhboaaGreatDoorW.PrintMore
set_option linter.unusedVariables false
set_option linter.unusedSimpArgs false
def FnRb (g : Nat) (lb : Array Value) (p : S41 → Bool) (w : World) : Prop :=
  ∀ (W : World) (x : S41), Below w.heap.size w W → Calls Tryz.prog g (#[.agg #[.int .i64 x.f0, .int .i64 x.f1]] ++ lb) W fun e w' => e = .returned (.bool (p x)) ∧ Below W.heap.size W w'
set_option maxHeartbeats 4000000 in
set_option maxRecDepth 100000 in
theorem IndexFunc_rule (g : Nat) (lb : Array Value) (eg : ∀ args w, (callFunc g args).run Tryz.prog w = .ok (.enter g args) w) (A : Option Addr) (c : Nat) (l : List S41) (p : S41 → Bool) (w : World)
    (hr : Kd.C k41 w A l.length l) (hp : FnRb g lb p w) :
    Calls Tryz.prog 43 #[.slice A l.length c, .func (.func g) #[] lb] w fun e w' => e = .returned (.int .i64 (idxF p l)) ∧ Below w.heap.size w w' := by
  have hu := Tryz.underlying41
  have HR0 := Aside0.mk hr
  have HP := Aside0.mk hp
  clear hr hp
  go_enter Tryz.func43, Tryz.ntmps43
  go_wp2
  go_loopg [5, 8] (l.length + 1) (fun kq _ v8 w' => ∃ (x : Int), v8 = .int .i64 x ∧ Aside0 (0 ≤ x ∧ x ≤ l.length ∧ (l.length : Int) - x < kq) ∧ Aside0 (∀ j : Nat, (j : Int) < x → p (l.getD j z41) = false) ∧ Aside0 (Below w.heap.size w w'))
  case atStart => exact ⟨0, rfl, ⟨by omega⟩, ⟨fun j hj => by omega⟩, ⟨Below.refl _ _⟩⟩
  case round =>
    obtain ⟨x, rfl, HX, HN, HB⟩ := hrel
    by_cases hlt : x < (l.length : Int)
    · have c0 : decide (x < (l.length : Int)) = true := decide_eq_true hlt
      have p0 : 0 ≤ x := HX.out.1
      obtain ⟨ad, e, hx0, hx1⟩ := at_T41 HR0.out x p0 hlt
      cases e
      replace hx0 := (HB.out.cell (World.block_lt_of_cell? w _ hx0)).trans hx0
      replace hx1 := (HB.out.cell (World.block_lt_of_cell? w _ hx1)).trans hx1
      have HL := Aside0.mk hlt
      replace p0 := eq_true p0
      replace hlt := eq_true hlt
      have hcall := HP.out wr (rd_T41 l x) HB.out
      cases hq : p (rd_T41 l x) with
      | true =>
        rw [hq] at hcall
        have HQ := Aside0.mk hq
        clear hq
        go_wp2_with (go_at_fn g; refine hcall.mono ?_; rintro e w' ⟨rfl, hb⟩)
        go_ret
        have hx := HX.out
        have h1 := idxF_hit p l z41 x.toNat (by have := HL.out; omega) HQ.out (fun j hj => HN.out j (by omega))
        refine ⟨?_, below_step HB.out hb⟩
        rw [h1, Int.toNat_of_nonneg hx.1]
        rfl
      | false =>
        rw [hq] at hcall
        have HQ := Aside0.mk hq
        clear hq
        go_wp2_with (go_at_fn g; refine hcall.mono ?_; rintro e w' ⟨rfl, hb⟩)
        have hw : wrap64 (x + 1) = x + 1 := by have h1 := HX.out; have h2 := HL.out; have h3 := HR0.out.2.1; unfold wrap64; omega
        have HW := Aside0.mk hw
        clear hw
        go_roundg (gk - 1)
        case measure => have h1 := HX.out; have h2 := HL.out; omega
        case rel =>
          refine ⟨x + 1, by rw [HW.out], ⟨?_⟩, ⟨fun j hj => ?_⟩, ⟨below_step HB.out hb⟩⟩
          · have h1 := HX.out; have h2 := HL.out; omega
          · by_cases e : (j : Int) = x
            · have : j = x.toNat := by omega
              subst this
              exact HQ.out
            · exact HN.out j (by omega)
    · have c0 : decide (x < (l.length : Int)) = false := decide_eq_false hlt
      have HL := Aside0.mk hlt
      clear hlt
      go_wp2
      go_ret
      have h1 := HX.out
      have h2 := HL.out
      rw [(idxF_miss p l z41 (fun j hj => HN.out j (by omega))).1]
      exact ⟨rfl, HB.out⟩
set_option maxHeartbeats 4000000 in
set_option maxRecDepth 100000 in
theorem ContainsFunc_rule (g : Nat) (lb : Array Value) (eg : ∀ args w, (callFunc g args).run Tryz.prog w = .ok (.enter g args) w) (A : Option Addr) (c : Nat) (l : List S41) (p : S41 → Bool) (w : World)
    (hr : Kd.C k41 w A l.length l) (hp : FnRb g lb p w) :
    Calls Tryz.prog 25 #[.slice A l.length c, .func (.func g) #[] lb] w fun e w' => e = .returned (.bool (l.any p)) ∧ Below w.heap.size w w' := by
  have h0 := IndexFunc_rule g lb eg A c l p w hr hp
  have h1 := Aside0.mk (idxF_nonneg p l)
  clear hr hp
  go_enter Tryz.func25, Tryz.ntmps25
  go_wp2_with (go_at_call 43; refine h0.mono ?_; rintro e w' ⟨rfl, hb⟩)
  go_ret
  exact ⟨by rw [← h1.out]; rfl, hb⟩
end Go.Proofs.YtbflblmkdnhboaaGreatDoor.Pr
namespace Go.Proofs.YtbflblmkdnhboaaGreatDoor.Pr
open Go.RowKit Go.Proofs.YtbflblmkdnhboaaGreatDoorW.PrintWords
set_option linter.unusedVariables false
def tabLaid : List (String × DataW Unit) := [("math/bits.deBruijn64tab", Lib.tabData .u8 (Lib.deBruijn64tab.map fun n : Nat => (n : Int)))]
theorem tabLaid_at : ∀ j, j < 64 → (Lib.deBruijn64tab.map fun n : Nat => (n : Int)).getD j 0 = ((Lib.deBruijn64tab.getD j 0 : Nat) : Int) := by decide
theorem Tab64.of_laid {W : World} (h : laidMet Tryz.prog tabLaid W) : Tab64 W := by
  have ht := Lib.tabIs_of_head (g := 1) (t := 95) (e := 5) (n := 64) (by kernel_rfl) (by kernel_rfl) Tryz.underlying95 Tryz.underlying5 (by kernel_rfl) (by kernel_rfl) h
  intro j hj
  have := ht.cell (g := 1) (by kernel_rfl) j (by rw [List.length_map]; exact hj)
  rw [tabLaid_at j hj] at this
  exact this
end Go.Proofs.YtbflblmkdnhboaaGreatDoor.Pr
