/- What the law needs of the program's functions as plain functions, of the proofs that their calls answer so, and of plain laws: gathered by a program of this place (pack.py) out of its printed texts. No condition beyond what each statement says. -/
import Derived.Test.YtbflblmkdnhboaaGreatDoorZXIsBase9
namespace Go.Proofs.YtbflblmkdnhboaaGreatDoor.Pr
open Go.RowKit Go.Proofs.YtbflblmkdnhboaaGreatDoorW.PrintWords Go.Proofs.YtbflblmkdnhboaaGreatDoorW.PrintLast Go.Proofs.YtbflblmkdnhboaaGreatDoorW.PrintMore
open Go.Sort Go.Shelf Go.Lib
set_option linter.unusedVariables false
set_option linter.unusedSimpArgs false
variable {α : Type} [Inhabited α]
/-- the lowest place from i on whose element isn't less than the one at a -/
def bsL (lt : α → α → Bool) (d : Array α) (a : Nat) : Nat → Nat → Nat → Nat
  | 0, i, _ => i
  | k + 1, i, j => if i < j then (if lt d[(i + j) / 2]! d[a]! then bsL lt d a k ((i + j) / 2 + 1) j else bsL lt d a k i ((i + j) / 2)) else i
/-- the lowest place from i on whose element is greater than the one at m -/
def bsR (lt : α → α → Bool) (d : Array α) (m : Nat) : Nat → Nat → Nat → Nat
  | 0, i, _ => i
  | k + 1, i, j => if i < j then (if lt d[m]! d[(i + j) / 2]! then bsR lt d m k i ((i + j) / 2) else bsR lt d m k ((i + j) / 2 + 1) j) else i
def shU : Nat → Nat → Array α → Array α
  | _, 0, d => d
  | k, r + 1, d => shU (k + 1) r (swp d k (k + 1))
def shD : Nat → Nat → Array α → Array α
  | _, 0, d => d
  | k, r + 1, d => shD (k - 1) r (swp d k (k - 1))
theorem shU_size : ∀ (r k : Nat) (d : Array α), (shU k r d).size = d.size
  | 0, _, _ => rfl
  | r + 1, k, d => by rw [shU, shU_size r, size_swp]
theorem shD_size : ∀ (r k : Nat) (d : Array α), (shD k r d).size = d.size
  | 0, _, _ => rfl
  | r + 1, k, d => by rw [shD, shD_size r, size_swp]
theorem half_u (i j : Nat) (h : i + j < 9223372036854775808) : IntKind.u64.wrap ((i : Int) + (j : Int)) = ((i + j : Nat) : Int) := by
  rw [IntKind.wrap_u64]; omega
set_option maxHeartbeats 8000000 in
set_option maxRecDepth 1000000 in
theorem symL_s (enc : α → Value) (cf : α → α → Int) (g : Nat) (cb : Array Value) (blk off cap a m b : Nat) (hm : m = a + 1) (d0 d : Array α) (w0 w : World)
    (eg : ∀ args w, (callFunc g args).run Tryz.prog w = .ok (.enter g args) w) (hcmp : CmpLays1 Tryz.prog g cb enc cf blk off d0.size w0) (R : Row1 enc w0 blk off d0) (hs : d0.size = d.size) (S : SW enc w0 blk off d w) (hab : m < b) (hb : b ≤ d.size) (hsz : d.size < 4611686018427387904) :
    Calls Tryz.prog 92 #[.slice (some ⟨blk, off, none⟩) d.size cap, .int .i64 (a : Int), .int .i64 (m : Int), .int .i64 (b : Int), .func (.func g) #[] cb] w fun e w' => e = .returned (.tuple #[]) ∧ SW enc w0 blk off (shU a (bsL (ltOf cf) d a (b - m) m b - 1 - a) d) w' := by
  have mixed : Tryz.prog.follows .mixedOrders = true := by kernel_rfl
  have hcl0 := R.hO.cells
  simp only [Value.cells] at hcl0
  have hst := R.hO.store Tryz.prog
  have HC : Aside _ := hcmp
  have S0 : Aside (SW enc w0 blk off d w) := S
  clear S hcmp
  have z1 : (m : Int) - (a : Int) = 1 := by omega
  have hm1 : a < m := by omega
  have hm2 : m ≤ a + 1 := by omega
  clear hm
  go_enter Tryz.func92, Tryz.ntmps92
  go_wp2
  go_loopg [10, 11, 12] (b - m) (fun kx s10 s11 s12 wr => ∃ (i j : Nat), s10 = .int .i64 (i : Int) ∧ s11 = .int .i64 (j : Int) ∧ a < i ∧ i ≤ j ∧ j ≤ b ∧ j - i ≤ kx ∧ Aside (SW enc w0 blk off d wr) ∧ Hid (∃ kk, j - i ≤ kk ∧ bsL (ltOf cf) d a kk i j = bsL (ltOf cf) d a (b - m) m b))
  case atStart => exact ⟨m, b, rfl, rfl, by omega, by omega, Nat.le_refl _, Nat.le_refl _, S0, ⟨b - m, Nat.le_refl _, rfl⟩⟩
  case round =>
    clear S0
    obtain ⟨i, j, rfl, rfl, hai, hij, hjb, hkx, S1, hbs⟩ := hrel
    by_cases hlt : i < j
    · have hltz : (i : Int) < (j : Int) := by omega
      have hu := half_u i j (by omega)
      obtain ⟨h, hh⟩ : ∃ h, h = (i + j) / 2 := ⟨_, rfl⟩
      have hh2 : ((i + j : Nat) : Int) / 2 = (h : Int) := by omega
      have hiw : IntKind.i64.wrap (h : Int) = (h : Int) := by rw [IntKind.wrap_i64]; omega
      have hib : i ≤ h := by omega
      have hjb2 : h < j := by omega
      cases hlv : ltOf cf d[h]! d[a]! with
      | true =>
        obtain ⟨iN1, hiN1⟩ : ∃ q, q = h := ⟨_, rfl⟩
        obtain ⟨jN1, hjN1⟩ : ∃ q, q = a := ⟨_, rfl⟩
        have ea1 : (((i : Int) + (j : Int)) / 2).toNat = iN1 := by omega
        have pa1 : (0 : Int) ≤ ((i : Int) + (j : Int)) / 2 := by omega
        have ba1 : ((i : Int) + (j : Int)) / 2 < (d.size : Int) := by omega
        have ra1 : IntKind.i64.wrap (((i : Int) + (j : Int)) / 2) = ((i : Int) + (j : Int)) / 2 := by rw [IntKind.wrap_i64]; omega
        have ec1 : ((a : Int)).toNat = jN1 := by omega
        have pc1 : (0 : Int) ≤ (a : Int) := by omega
        have bc1 : (a : Int) < (d.size : Int) := by omega
        have rc1 : IntKind.i64.wrap ((a : Int)) = (a : Int) := by rw [IntKind.wrap_i64]; omega
        obtain ⟨x1, hx1⟩ : ∃ x, x = d[h]! := ⟨_, rfl⟩
        obtain ⟨y1, hy1⟩ : ∃ x, x = d[a]! := ⟨_, rfl⟩
        have l1a := S1.out.cl R (by omega) (h) (by omega)
        have l1b := S1.out.cl R (by omega) (a) (by omega)
        rw [← hx1, ← hiN1] at l1a
        rw [← hy1, ← hjN1] at l1b
        have hc1 := S1.out.cmp HC.out (by omega) x1 y1
        have hv1 : cf x1 y1 < 0 := by rw [hx1, hy1]; exact of_decide_eq_true hlv
        have hd1 : decide (cf x1 y1 < 0) = true := decide_eq_true hv1
        clear hx1 hy1 hiN1 hjN1
        go_wp2_with fail
        go_quiet_grown (first | (go_at_fn g; refine Calls.grown_of (hc1 _ _)))
        have S2 : Aside (SW enc w0 blk off d (grow (wr.drewN nq) osq)) := S1.out.grown nq osq
        clear l1a l1b hc1 S1
        generalize grow (wr.drewN nq) osq = w2 at S2 ⊢
        clear nq osq
        clear ea1 ec1
        go_wp2
        go_roundg (j - (h + 1))
        case measure => omega
        case rel => exact ⟨h + 1, j, by first | rfl | go_num | (congr 1; omega), rfl, by omega, by omega, by omega, Nat.le_refl _, S2, (show Hid _ from by
          obtain ⟨kk, hk, hq⟩ := hbs.out
          obtain ⟨k', rfl⟩ : ∃ k', kk = k' + 1 := ⟨kk - 1, by omega⟩
          rw [bsL, if_pos hlt, ← hh, if_pos hlv] at hq
          exact ⟨k', by omega, hq⟩)⟩
      | false =>
        obtain ⟨iN2, hiN2⟩ : ∃ q, q = h := ⟨_, rfl⟩
        obtain ⟨jN2, hjN2⟩ : ∃ q, q = a := ⟨_, rfl⟩
        have ea2 : (((i : Int) + (j : Int)) / 2).toNat = iN2 := by omega
        have pa2 : (0 : Int) ≤ ((i : Int) + (j : Int)) / 2 := by omega
        have ba2 : ((i : Int) + (j : Int)) / 2 < (d.size : Int) := by omega
        have ra2 : IntKind.i64.wrap (((i : Int) + (j : Int)) / 2) = ((i : Int) + (j : Int)) / 2 := by rw [IntKind.wrap_i64]; omega
        have ec2 : ((a : Int)).toNat = jN2 := by omega
        have pc2 : (0 : Int) ≤ (a : Int) := by omega
        have bc2 : (a : Int) < (d.size : Int) := by omega
        have rc2 : IntKind.i64.wrap ((a : Int)) = (a : Int) := by rw [IntKind.wrap_i64]; omega
        obtain ⟨x2, hx2⟩ : ∃ x, x = d[h]! := ⟨_, rfl⟩
        obtain ⟨y2, hy2⟩ : ∃ x, x = d[a]! := ⟨_, rfl⟩
        have l2a := S1.out.cl R (by omega) (h) (by omega)
        have l2b := S1.out.cl R (by omega) (a) (by omega)
        rw [← hx2, ← hiN2] at l2a
        rw [← hy2, ← hjN2] at l2b
        have hc2 := S1.out.cmp HC.out (by omega) x2 y2
        have hv2 : ¬ cf x2 y2 < 0 := by rw [hx2, hy2]; exact of_decide_eq_false hlv
        have hd2 : decide (cf x2 y2 < 0) = false := decide_eq_false hv2
        clear hx2 hy2 hiN2 hjN2
        go_wp2_with fail
        go_quiet_grown (first | (go_at_fn g; refine Calls.grown_of (hc2 _ _)))
        have S2 : Aside (SW enc w0 blk off d (grow (wr.drewN nq) osq)) := S1.out.grown nq osq
        clear l2a l2b hc2 S1
        generalize grow (wr.drewN nq) osq = w2 at S2 ⊢
        clear nq osq
        clear ea2 ec2
        go_wp2
        go_roundg (h - i)
        case measure => omega
        case rel => exact ⟨i, h, rfl, by first | rfl | go_num | (congr 1; omega), by omega, by omega, by omega, Nat.le_refl _, S2, (show Hid _ from by
          obtain ⟨kk, hk, hq⟩ := hbs.out
          obtain ⟨k', rfl⟩ : ∃ k', kk = k' + 1 := ⟨kk - 1, by omega⟩
          rw [bsL, if_pos hlt, ← hh, if_neg (by rw [hlv]; decide)] at hq
          exact ⟨k', by omega, hq⟩)⟩
    · have hltz : ¬ (i : Int) < (j : Int) := by omega
      have hI : bsL (ltOf cf) d a (b - m) m b = i := by
        obtain ⟨kk, _, hq⟩ := hbs.out
        rw [← hq]
        cases kk with
        | zero => rfl
        | succ k' => rw [bsL, if_neg hlt]
      clear hbs
      have hi1 : (i : Int) - 1 = ((i - 1 : Nat) : Int) := by omega
      go_wp2
      go_loopg [13] (i - 1 - a) (fun kx s13 wr => ∃ (k : Nat) (dk : Array α), s13 = .int .i64 (k : Int) ∧ a ≤ k ∧ k ≤ i - 1 ∧ i - 1 - k ≤ kx ∧ dk.size = d.size ∧ Aside (SW enc w0 blk off dk wr) ∧ Hid (shU k (i - 1 - k) dk = shU a (i - 1 - a) d))
      case atStart => exact ⟨a, d, rfl, Nat.le_refl _, by omega, Nat.le_refl _, rfl, S1, rfl⟩
      case round =>
        clear S1
        obtain ⟨k, dk, rfl, hak, hki, hkx2, hds, S1, heq⟩ := hrel
        by_cases hlt2 : k < i - 1
        · have hltz2 : (k : Int) < ((i - 1 : Nat) : Int) := by omega
          go_wp2_with fail
          obtain ⟨iN3, hiN3⟩ : ∃ q, q = k := ⟨_, rfl⟩
          obtain ⟨jN3, hjN3⟩ : ∃ q, q = k + 1 := ⟨_, rfl⟩
          have ea3 : ((k : Int)).toNat = iN3 := by omega
          have pa3 : (0 : Int) ≤ (k : Int) := by omega
          have ba3 : (k : Int) < (d.size : Int) := by omega
          have ra3 : IntKind.i64.wrap ((k : Int)) = (k : Int) := by rw [IntKind.wrap_i64]; omega
          have ec3 : ((k : Int) + 1).toNat = jN3 := by omega
          have pc3 : (0 : Int) ≤ (k : Int) + 1 := by omega
          have bc3 : (k : Int) + 1 < (d.size : Int) := by omega
          have rc3 : IntKind.i64.wrap ((k : Int) + 1) = (k : Int) + 1 := by rw [IntKind.wrap_i64]; omega
          obtain ⟨x3, hx3⟩ : ∃ x, x = dk[k]! := ⟨_, rfl⟩
          obtain ⟨y3, hy3⟩ : ∃ x, x = dk[k + 1]! := ⟨_, rfl⟩
          have S2 : Aside (SW enc w0 blk off (swp dk (k) (k + 1)) ((wr.setCell ⟨blk, off + iN3, none⟩ (enc y3)).setCell ⟨blk, off + jN3, none⟩ (enc x3)).drew) := by rw [hiN3, hjN3, hx3, hy3]; exact S1.out.swapped R (k) (k + 1) (by omega) (by omega)
          have c3a := S1.out.c1 R (by omega) (k) (by omega)
          have c3b := S1.out.c1 R (by omega) (k + 1) (by omega)
          have f3a := S1.out.f1 R (by omega) (k) (by omega)
          have f3b := S1.out.f1 R (by omega) (k + 1) (by omega)
          obtain ⟨u3, c3c⟩ := S1.out.c2 R (by omega) (k) (k + 1) (by omega) (by omega) (enc y3)
          rw [← hjN3, ← hiN3] at c3c
          rw [← hx3, ← hiN3] at c3a
          rw [← hy3, ← hjN3] at c3b
          rw [← hiN3] at f3a
          rw [← hjN3] at f3b
          clear S1 hx3 hy3 hiN3 hjN3
          go_wp2_with fail
          go_big_region_o
          clear c3a c3b c3c f3a f3b
          generalize ((wr.setCell ⟨blk, off + iN3, none⟩ (enc y3)).setCell ⟨blk, off + jN3, none⟩ (enc x3)).drew = w2 at S2 ⊢
          clear ea3 ec3
          go_wp2
          go_roundg (i - 1 - (k + 1))
          case measure => omega
          case rel => exact ⟨k + 1, swp dk k (k + 1), by first | rfl | go_num | (congr 1; omega), by omega, by omega, Nat.le_refl _, by rw [size_swp]; exact hds, S2, (show Hid _ from by
            have h := heq.out
            rw [show i - 1 - k = (i - 1 - (k + 1)) + 1 by omega, shU] at h
            exact h)⟩
        · have hltz2 : ¬ (k : Int) < ((i - 1 : Nat) : Int) := by omega
          obtain rfl : k = i - 1 := by omega
          go_wp2
          (try simp only [Exit.inBlock, Exit.then]); refine bodyPost_ret (results_none rfl _ _ _) rfl ?_
          refine ⟨rfl, ?_⟩
          have h := heq.out
          rw [Nat.sub_self, shU] at h
          rw [← h]
          exact S1.out
set_option maxHeartbeats 8000000 in
set_option maxRecDepth 1000000 in
theorem symR_s (enc : α → Value) (cf : α → α → Int) (g : Nat) (cb : Array Value) (blk off cap a m b : Nat) (hm : b = m + 1) (d0 d : Array α) (w0 w : World)
    (eg : ∀ args w, (callFunc g args).run Tryz.prog w = .ok (.enter g args) w) (hcmp : CmpLays1 Tryz.prog g cb enc cf blk off d0.size w0) (R : Row1 enc w0 blk off d0) (hs : d0.size = d.size) (S : SW enc w0 blk off d w) (hab : a + 1 < m) (hb : b ≤ d.size) (hsz : d.size < 4611686018427387904) :
    Calls Tryz.prog 92 #[.slice (some ⟨blk, off, none⟩) d.size cap, .int .i64 (a : Int), .int .i64 (m : Int), .int .i64 (b : Int), .func (.func g) #[] cb] w fun e w' => e = .returned (.tuple #[]) ∧ SW enc w0 blk off (shD m (m - bsR (ltOf cf) d m (m - a) a m) d) w' := by
  have mixed : Tryz.prog.follows .mixedOrders = true := by kernel_rfl
  have hcl0 := R.hO.cells
  simp only [Value.cells] at hcl0
  have hst := R.hO.store Tryz.prog
  have HC : Aside _ := hcmp
  have S0 : Aside (SW enc w0 blk off d w) := S
  clear S hcmp
  have z1 : (b : Int) - (m : Int) = 1 := by omega
  have z3 : ((m : Int) - (a : Int) == 1) = false := beq_eq_false_iff_ne.2 (by omega)
  have z4 : ((m : Int) - (a : Int) = 1) = False := eq_false (by omega)
  have hm1 : m < b := by omega
  have hm2 : b ≤ m + 1 := by omega
  clear hm
  go_enter Tryz.func92, Tryz.ntmps92
  go_wp2
  go_loopg [14, 15, 16] (m - a) (fun kx s10 s11 s12 wr => ∃ (i j : Nat), s10 = .int .i64 (i : Int) ∧ s11 = .int .i64 (j : Int) ∧ a ≤ i ∧ i ≤ j ∧ j ≤ m ∧ j - i ≤ kx ∧ Aside (SW enc w0 blk off d wr) ∧ Hid (∃ kk, j - i ≤ kk ∧ bsR (ltOf cf) d m kk i j = bsR (ltOf cf) d m (m - a) a m))
  case atStart => exact ⟨a, m, rfl, rfl, by omega, by omega, Nat.le_refl _, Nat.le_refl _, S0, ⟨m - a, Nat.le_refl _, rfl⟩⟩
  case round =>
    clear S0
    obtain ⟨i, j, rfl, rfl, hai, hij, hjb, hkx, S1, hbs⟩ := hrel
    by_cases hlt : i < j
    · have hltz : (i : Int) < (j : Int) := by omega
      have hu := half_u i j (by omega)
      obtain ⟨h, hh⟩ : ∃ h, h = (i + j) / 2 := ⟨_, rfl⟩
      have hib : i ≤ h := by omega
      have hjb2 : h < j := by omega
      cases hlv : ltOf cf d[m]! d[h]! with
      | true =>
        obtain ⟨iN4, hiN4⟩ : ∃ q, q = m := ⟨_, rfl⟩
        obtain ⟨jN4, hjN4⟩ : ∃ q, q = h := ⟨_, rfl⟩
        have ea4 : ((m : Int)).toNat = iN4 := by omega
        have pa4 : (0 : Int) ≤ (m : Int) := by omega
        have ba4 : (m : Int) < (d.size : Int) := by omega
        have ra4 : IntKind.i64.wrap ((m : Int)) = (m : Int) := by rw [IntKind.wrap_i64]; omega
        have ec4 : (((i : Int) + (j : Int)) / 2).toNat = jN4 := by omega
        have pc4 : (0 : Int) ≤ ((i : Int) + (j : Int)) / 2 := by omega
        have bc4 : ((i : Int) + (j : Int)) / 2 < (d.size : Int) := by omega
        have rc4 : IntKind.i64.wrap (((i : Int) + (j : Int)) / 2) = ((i : Int) + (j : Int)) / 2 := by rw [IntKind.wrap_i64]; omega
        obtain ⟨x4, hx4⟩ : ∃ x, x = d[m]! := ⟨_, rfl⟩
        obtain ⟨y4, hy4⟩ : ∃ x, x = d[h]! := ⟨_, rfl⟩
        have l4a := S1.out.cl R (by omega) (m) (by omega)
        have l4b := S1.out.cl R (by omega) (h) (by omega)
        rw [← hx4, ← hiN4] at l4a
        rw [← hy4, ← hjN4] at l4b
        have hc4 := S1.out.cmp HC.out (by omega) x4 y4
        have hv4 : cf x4 y4 < 0 := by rw [hx4, hy4]; exact of_decide_eq_true hlv
        have hd4 : decide (cf x4 y4 < 0) = true := decide_eq_true hv4
        clear hx4 hy4 hiN4 hjN4
        go_wp2_with fail
        go_quiet_grown (first | (go_at_fn g; refine Calls.grown_of (hc4 _ _)))
        have S2 : Aside (SW enc w0 blk off d (grow (wr.drewN nq) osq)) := S1.out.grown nq osq
        clear l4a l4b hc4 S1
        generalize grow (wr.drewN nq) osq = w2 at S2 ⊢
        clear nq osq
        clear ea4 ec4
        go_wp2
        go_roundg (h - i)
        case measure => omega
        case rel => exact ⟨i, h, rfl, by first | rfl | go_num | (congr 1; omega), by omega, by omega, by omega, Nat.le_refl _, S2, (show Hid _ from by
          obtain ⟨kk, hk, hq⟩ := hbs.out
          obtain ⟨k', rfl⟩ : ∃ k', kk = k' + 1 := ⟨kk - 1, by omega⟩
          rw [bsR, if_pos hlt, ← hh, if_pos hlv] at hq
          exact ⟨k', by omega, hq⟩)⟩
      | false =>
        obtain ⟨iN5, hiN5⟩ : ∃ q, q = m := ⟨_, rfl⟩
        obtain ⟨jN5, hjN5⟩ : ∃ q, q = h := ⟨_, rfl⟩
        have ea5 : ((m : Int)).toNat = iN5 := by omega
        have pa5 : (0 : Int) ≤ (m : Int) := by omega
        have ba5 : (m : Int) < (d.size : Int) := by omega
        have ra5 : IntKind.i64.wrap ((m : Int)) = (m : Int) := by rw [IntKind.wrap_i64]; omega
        have ec5 : (((i : Int) + (j : Int)) / 2).toNat = jN5 := by omega
        have pc5 : (0 : Int) ≤ ((i : Int) + (j : Int)) / 2 := by omega
        have bc5 : ((i : Int) + (j : Int)) / 2 < (d.size : Int) := by omega
        have rc5 : IntKind.i64.wrap (((i : Int) + (j : Int)) / 2) = ((i : Int) + (j : Int)) / 2 := by rw [IntKind.wrap_i64]; omega
        obtain ⟨x5, hx5⟩ : ∃ x, x = d[m]! := ⟨_, rfl⟩
        obtain ⟨y5, hy5⟩ : ∃ x, x = d[h]! := ⟨_, rfl⟩
        have l5a := S1.out.cl R (by omega) (m) (by omega)
        have l5b := S1.out.cl R (by omega) (h) (by omega)
        rw [← hx5, ← hiN5] at l5a
        rw [← hy5, ← hjN5] at l5b
        have hc5 := S1.out.cmp HC.out (by omega) x5 y5
        have hv5 : ¬ cf x5 y5 < 0 := by rw [hx5, hy5]; exact of_decide_eq_false hlv
        have hd5 : decide (cf x5 y5 < 0) = false := decide_eq_false hv5
        clear hx5 hy5 hiN5 hjN5
        go_wp2_with fail
        go_quiet_grown (first | (go_at_fn g; refine Calls.grown_of (hc5 _ _)))
        have S2 : Aside (SW enc w0 blk off d (grow (wr.drewN nq) osq)) := S1.out.grown nq osq
        clear l5a l5b hc5 S1
        generalize grow (wr.drewN nq) osq = w2 at S2 ⊢
        clear nq osq
        clear ea5 ec5
        go_wp2
        go_roundg (j - (h + 1))
        case measure => omega
        case rel => exact ⟨h + 1, j, by first | rfl | go_num | (congr 1; omega), rfl, by omega, by omega, by omega, Nat.le_refl _, S2, (show Hid _ from by
          obtain ⟨kk, hk, hq⟩ := hbs.out
          obtain ⟨k', rfl⟩ : ∃ k', kk = k' + 1 := ⟨kk - 1, by omega⟩
          rw [bsR, if_pos hlt, ← hh, if_neg (by rw [hlv]; decide)] at hq
          exact ⟨k', by omega, hq⟩)⟩
    · have hltz : ¬ (i : Int) < (j : Int) := by omega
      have hI : bsR (ltOf cf) d m (m - a) a m = i := by
        obtain ⟨kk, _, hq⟩ := hbs.out
        rw [← hq]
        cases kk with
        | zero => rfl
        | succ k' => rw [bsR, if_neg hlt]
      clear hbs
      go_wp2
      go_loopg [17] (m - i) (fun kx s13 wr => ∃ (k : Nat) (dk : Array α), s13 = .int .i64 (k : Int) ∧ i ≤ k ∧ k ≤ m ∧ k - i ≤ kx ∧ dk.size = d.size ∧ Aside (SW enc w0 blk off dk wr) ∧ Hid (shD k (k - i) dk = shD m (m - i) d))
      case atStart => exact ⟨m, d, rfl, by omega, Nat.le_refl _, Nat.le_refl _, rfl, S1, rfl⟩
      case round =>
        clear S1
        obtain ⟨k, dk, rfl, hik, hkm, hkx2, hds, S1, heq⟩ := hrel
        by_cases hlt2 : i < k
        · have hltz2 : (k : Int) > (i : Int) := by omega
          go_wp2_with fail
          obtain ⟨iN6, hiN6⟩ : ∃ q, q = k := ⟨_, rfl⟩
          obtain ⟨jN6, hjN6⟩ : ∃ q, q = k - 1 := ⟨_, rfl⟩
          have ea6 : ((k : Int)).toNat = iN6 := by omega
          have pa6 : (0 : Int) ≤ (k : Int) := by omega
          have ba6 : (k : Int) < (d.size : Int) := by omega
          have ra6 : IntKind.i64.wrap ((k : Int)) = (k : Int) := by rw [IntKind.wrap_i64]; omega
          have ec6 : ((k : Int) - 1).toNat = jN6 := by omega
          have pc6 : (0 : Int) ≤ (k : Int) - 1 := by omega
          have bc6 : (k : Int) - 1 < (d.size : Int) := by omega
          have rc6 : IntKind.i64.wrap ((k : Int) - 1) = (k : Int) - 1 := by rw [IntKind.wrap_i64]; omega
          obtain ⟨x6, hx6⟩ : ∃ x, x = dk[k]! := ⟨_, rfl⟩
          obtain ⟨y6, hy6⟩ : ∃ x, x = dk[k - 1]! := ⟨_, rfl⟩
          have S2 : Aside (SW enc w0 blk off (swp dk (k) (k - 1)) ((wr.setCell ⟨blk, off + iN6, none⟩ (enc y6)).setCell ⟨blk, off + jN6, none⟩ (enc x6)).drew) := by rw [hiN6, hjN6, hx6, hy6]; exact S1.out.swapped R (k) (k - 1) (by omega) (by omega)
          have c6a := S1.out.c1 R (by omega) (k) (by omega)
          have c6b := S1.out.c1 R (by omega) (k - 1) (by omega)
          have f6a := S1.out.f1 R (by omega) (k) (by omega)
          have f6b := S1.out.f1 R (by omega) (k - 1) (by omega)
          obtain ⟨u6, c6c⟩ := S1.out.c2 R (by omega) (k) (k - 1) (by omega) (by omega) (enc y6)
          rw [← hjN6, ← hiN6] at c6c
          rw [← hx6, ← hiN6] at c6a
          rw [← hy6, ← hjN6] at c6b
          rw [← hiN6] at f6a
          rw [← hjN6] at f6b
          clear S1 hx6 hy6 hiN6 hjN6
          go_wp2_with fail
          go_big_region_o
          clear c6a c6b c6c f6a f6b
          generalize ((wr.setCell ⟨blk, off + iN6, none⟩ (enc y6)).setCell ⟨blk, off + jN6, none⟩ (enc x6)).drew = w2 at S2 ⊢
          clear ea6 ec6
          go_wp2
          go_roundg (k - 1 - i)
          case measure => omega
          case rel => exact ⟨k - 1, swp dk k (k - 1), by first | rfl | go_num | (congr 1; omega), by omega, by omega, Nat.le_refl _, by rw [size_swp]; exact hds, S2, (show Hid _ from by
            have h := heq.out
            rw [show k - i = (k - 1 - i) + 1 by omega, shD] at h
            exact h)⟩
        · have hltz2 : ¬ (k : Int) > (i : Int) := by omega
          obtain rfl : k = i := by omega
          go_wp2
          (try simp only [Exit.inBlock, Exit.then]); refine bodyPost_ret (results_none rfl _ _ _) rfl ?_
          refine ⟨rfl, ?_⟩
          have h := heq.out
          rw [Nat.sub_self, shD] at h
          rw [← h]
          exact S1.out
end Go.Proofs.YtbflblmkdnhboaaGreatDoor.Pr
