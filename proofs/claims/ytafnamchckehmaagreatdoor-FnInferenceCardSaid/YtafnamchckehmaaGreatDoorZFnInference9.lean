/- Functions of the program as plain functions, proofs that their calls answer so, and plain laws: what the law needs. No condition beyond what each statement says. -/
import Derived.Test.YtafnamchckehmaaGreatDoorZFnInference8
import Derived.Test.YtafnamchckehmaaGreatDoorRows
import Derived.Lib.LaidTab
import Derived.LaidSub
import Derived.MakeChecks
namespace Go.Proofs.YtafnamchckehmaaGreatDoor.Pr
open Go.RowKit Go.Proofs.YtafnamchckehmaaGreatDoorW.PrintWords Go.Proofs.YtafnamchckehmaaGreatDoorW.PrintLast Go.Proofs.YtafnamchckehmaaGreatDoorW.PrintMore
open Go.Sort Go.Shelf Go.Lib
set_option linter.unusedVariables false
set_option linter.unusedSimpArgs false
variable {α : Type} [Inhabited α]
def syS (lt : α → α → Bool) (d : Array α) (p : Nat) : Nat → Nat → Nat → Nat
  | 0, s, _ => s
  | k + 1, s, r => if s < r then (if lt d[p - (s + r) / 2]! d[(s + r) / 2]! then syS lt d p k s ((s + r) / 2) else syS lt d p k ((s + r) / 2 + 1) r) else s
def symT (rec : Nat → Nat → Nat → Array α → Array α) (a m b mid s e : Nat) (d : Array α) : Array α :=
  if mid < e ∧ e < b then rec mid e b (if a < s ∧ s < mid then rec a s mid (if s < m ∧ m < e then rotR m (e - s) (m - s) (e - m) d else d) else (if s < m ∧ m < e then rotR m (e - s) (m - s) (e - m) d else d))
  else (if a < s ∧ s < mid then rec a s mid (if s < m ∧ m < e then rotR m (e - s) (m - s) (e - m) d else d) else (if s < m ∧ m < e then rotR m (e - s) (m - s) (e - m) d else d))
def symM (lt : α → α → Bool) : Nat → Nat → Nat → Nat → Array α → Array α
  | 0, _, _, _, d => d
  | k + 1, a, m, b, d =>
    if m = a + 1 then shU a (bsL lt d a (b - m) m b - 1 - a) d
    else if b = m + 1 then shD m (m - bsR lt d m (m - a) a m) d
    else symT (symM lt k) a m b ((a + b) / 2) (syS lt d ((a + b) / 2 + m - 1) b (if (a + b) / 2 < m then (a + b) / 2 + m - b else a) (if (a + b) / 2 < m then (a + b) / 2 else m))
      ((a + b) / 2 + m - syS lt d ((a + b) / 2 + m - 1) b (if (a + b) / 2 < m then (a + b) / 2 + m - b else a) (if (a + b) / 2 < m then (a + b) / 2 else m)) d
theorem symM_size (lt : α → α → Bool) : ∀ (k a m b : Nat) (d : Array α), (symM lt k a m b d).size = d.size
  | 0, _, _, _, _ => rfl
  | k + 1, a, m, b, d => by
    rw [symM]
    split
    · exact shU_size _ _ _
    · split
      · exact shD_size _ _ _
      · unfold symT
        (repeat' split) <;> simp [symM_size lt k, rotR_size]
set_option maxHeartbeats 16000000 in
set_option maxRecDepth 1000000 in
theorem symG_s (enc : α → Value) (cf : α → α → Int) (g : Nat) (cb : Array Value) (blk off cap a m b mid n p s0 r0 : Nat) (rec : Nat → Nat → Nat → Array α → Array α) (hrec : ∀ a m b D, (rec a m b D).size = D.size) (d0 d : Array α) (w0 w : World)
    (eg : ∀ args w, (callFunc g args).run Tryz.prog w = .ok (.enter g args) w) (hcmp : CmpLays1 Tryz.prog g cb enc cf blk off d0.size w0) (R : Row1 enc w0 blk off d0) (hs : d0.size = d.size) (S : SW enc w0 blk off d w)
    (HI : Aside (∀ (a' m' b' : Nat) (D : Array α) (W : World), D.size = d.size → SW enc w0 blk off D W → b' - a' < b - a → a' < m' → m' < b' → b' ≤ d.size → Calls Tryz.prog 271 #[.slice (some ⟨blk, off, none⟩) d.size cap, .int .i64 (a' : Int), .int .i64 (m' : Int), .int .i64 (b' : Int), .func (.func g) #[] cb] W fun e w' => e = .returned (.tuple #[]) ∧ SW enc w0 blk off (rec a' m' b' D) w'))
    (ham : a + 1 < m) (hmb : m + 1 < b) (hb : b ≤ d.size) (hsz : d.size < 4611686018427387904)
    (hmid : mid = (a + b) / 2) (hn : n = mid + m) (hp : p = n - 1) (hs0 : s0 = if mid < m then n - b else a) (hr0 : r0 = if mid < m then mid else m) :
    Calls Tryz.prog 271 #[.slice (some ⟨blk, off, none⟩) d.size cap, .int .i64 (a : Int), .int .i64 (m : Int), .int .i64 (b : Int), .func (.func g) #[] cb] w fun e w' => e = .returned (.tuple #[]) ∧ SW enc w0 blk off (symT rec a m b mid (syS (ltOf cf) d p b s0 r0) (n - syS (ltOf cf) d p b s0 r0) d) w' := by
  have mixed : Tryz.prog.follows .mixedOrders = true := by kernel_rfl
  have hcl0 := R.hO.cells
  simp only [Value.cells] at hcl0
  have hst := R.hO.store Tryz.prog
  have HC : Aside _ := hcmp
  have S0 : Aside (SW enc w0 blk off d w) := S
  have HROT : Aside (∀ (x y z : Nat), x < y → y < z → z ≤ d.size → ∀ W, SW enc w0 blk off d W → Calls Tryz.prog 290 #[.slice (some ⟨blk, off, none⟩) d.size cap, .int .i64 (x : Int), .int .i64 (y : Int), .int .i64 (z : Int), .func (.func g) #[] cb] W fun e w' => e = .returned (.tuple #[]) ∧ SW enc w0 blk off (rotR y (z - x) (y - x) (z - y) d) w') :=
    fun x y z h1 h2 h3 W hS => rotate_s enc g cb blk off cap x y z d0 d w0 W R hs hS h1 h2 h3 hsz
  have HRS : Aside (∀ a m b D, (rec a m b D).size = D.size) := hrec
  clear S hcmp hrec
  have z3 : ((m : Int) - (a : Int) == 1) = false := beq_eq_false_iff_ne.2 (by omega)
  have z4 : ((m : Int) - (a : Int) = 1) = False := eq_false (by omega)
  have z5 : ((b : Int) - (m : Int) == 1) = false := beq_eq_false_iff_ne.2 (by omega)
  have z6 : ((b : Int) - (m : Int) = 1) = False := eq_false (by omega)
  have zmid : ((a : Int) + (b : Int)) / 2 = (mid : Int) := by omega
  have zn : (mid : Int) + (m : Int) = (n : Int) := by omega
  have zp : (n : Int) - 1 = (p : Int) := by omega
  have f1 : a < mid ∧ mid + 1 < b := by omega
  have f2 : s0 ≤ r0 ∧ r0 ≤ m ∧ r0 ≤ mid ∧ a ≤ s0 ∧ n ≤ b + s0 ∧ (∀ c, s0 ≤ c → c < r0 → c ≤ p ∧ p - c < d.size) := by
    subst hs0 hr0
    by_cases h : mid < m
    · rw [if_pos h, if_pos h]
      refine ⟨by omega, by omega, by omega, by omega, by omega, fun c h1 h2 => ⟨by omega, by omega⟩⟩
    · rw [if_neg h, if_neg h]
      refine ⟨by omega, by omega, by omega, by omega, by omega, fun c h1 h2 => ⟨by omega, by omega⟩⟩
  obtain ⟨f3, f4, f5, f6, f7, f8⟩ := f2
  have fn1 : n ≤ mid + m := by omega
  have fn2 : mid + m ≤ n := by omega
  have fp1 : p + 1 ≤ n := by omega
  have fp2 : n ≤ p + 1 := by omega
  have F8 : Aside (∀ c, s0 ≤ c → c < r0 → c ≤ p ∧ p - c < d.size) := f8
  clear f8
  have start : ∀ (zs zr : Int), zs = (s0 : Int) → zr = (r0 : Int) → (if mid < m then zs = (n : Int) - (b : Int) ∧ zr = (mid : Int) else zs = (a : Int) ∧ zr = (m : Int)) := by
    intro zs zr h1 h2
    subst hs0 hr0
    by_cases h : mid < m
    · rw [if_pos h] at h1 h2 ⊢
      exact ⟨by omega, h2⟩
    · rw [if_neg h] at h1 h2 ⊢
      exact ⟨h1, h2⟩
  have start := start _ _ rfl rfl
  clear hmid hn hp hs0 hr0
  by_cases hmm : mid < m
  · rw [if_pos hmm] at start
    obtain ⟨st1, st2⟩ := start
    have hmmz : (m : Int) > (mid : Int) := by omega
    have st1' : (n : Int) - (b : Int) = (s0 : Int) := st1.symm
    have st2a : r0 ≤ mid := by omega
    have st2b : mid ≤ r0 := by omega
    clear st1 st2
    go_wp2
    go_loopg [20, 21, 23] (r0 - s0) (fun kx v20 v21 v23 wr => ∃ (s r : Nat), v20 = .int .i64 (s : Int) ∧ v21 = .int .i64 (r : Int) ∧ s0 ≤ s ∧ s ≤ r ∧ r ≤ r0 ∧ r - s ≤ kx ∧ Aside (SW enc w0 blk off d wr) ∧ Hid (∃ kk, r - s ≤ kk ∧ syS (ltOf cf) d p kk s r = syS (ltOf cf) d p b s0 r0))
    case atStart => exact ⟨s0, r0, by first | rfl | (congr 1; omega), by first | rfl | (congr 1; omega), by omega, by omega, by omega, Nat.le_refl _, S0, ⟨b, by omega, rfl⟩⟩
    case round =>
      clear S0
      obtain ⟨s, r, rfl, rfl, hai, hij, hjb, hkx, S1, hbs⟩ := hrel
      by_cases hlt : s < r
      · have hltz : (s : Int) < (r : Int) := by omega
        obtain ⟨c, hh⟩ : ∃ c, c = (s + r) / 2 := ⟨_, rfl⟩
        have hib : s ≤ c := by omega
        have hjb2 : c < r := by omega
        obtain ⟨f9, f10⟩ := F8.out c (by omega) (by omega)
        obtain ⟨q, hq⟩ : ∃ q, q = p - c := ⟨_, rfl⟩
        have hqb : q < d.size := by omega
        go_wp2_with fail
        have HH : Aside (c = (s + r) / 2) := hh
        have HQ : Aside (q = p - c) := hq
        have hc1 : 2 * c ≤ s + r := by omega
        have hc2 : s + r ≤ 2 * c + 1 := by omega
        have hq1 : q + c ≤ p := by omega
        have hq2 : p ≤ q + c := by omega
        clear hh hq
        generalize hcz : ((s : Int) + (r : Int)) / 2 = cz
        obtain rfl : cz = (c : Int) := by omega
        clear hcz
        have zq : (p : Int) - (c : Int) = (q : Int) := by omega
        cases hlv : ltOf cf d[q]! d[c]! with
        | true =>
          obtain ⟨iN7, hiN7⟩ : ∃ q_, q_ = q := ⟨_, rfl⟩
          obtain ⟨jN7, hjN7⟩ : ∃ q_, q_ = c := ⟨_, rfl⟩
          have ea7 : ((q : Int)).toNat = iN7 := by omega
          have pa7 : (0 : Int) ≤ (q : Int) := by omega
          have ba7 : (q : Int) < (d.size : Int) := by omega
          have ra7 : IntKind.i64.wrap ((q : Int)) = (q : Int) := by rw [IntKind.wrap_i64]; omega
          have ec7 : ((c : Int)).toNat = jN7 := by omega
          have pc7 : (0 : Int) ≤ (c : Int) := by omega
          have bc7 : (c : Int) < (d.size : Int) := by omega
          have rc7 : IntKind.i64.wrap ((c : Int)) = (c : Int) := by rw [IntKind.wrap_i64]; omega
          obtain ⟨x7, hx7⟩ : ∃ x, x = d[q]! := ⟨_, rfl⟩
          obtain ⟨y7, hy7⟩ : ∃ x, x = d[c]! := ⟨_, rfl⟩
          have l7a := S1.out.cl R (by omega) (q) (by omega)
          have l7b := S1.out.cl R (by omega) (c) (by omega)
          rw [← hx7, ← hiN7] at l7a
          rw [← hy7, ← hjN7] at l7b
          have hc7 := S1.out.cmp HC.out (by omega) x7 y7
          have hv7 : cf x7 y7 < 0 := by rw [hx7, hy7]; exact of_decide_eq_true hlv
          have hd7 : decide (cf x7 y7 < 0) = true := decide_eq_true hv7
          clear hx7 hy7 hiN7 hjN7
          (try go_wp2_with fail)
          go_quiet_grown (first | (go_at_fn g; refine Calls.grown_of (hc7 _ _)))
          have S2 : Aside (SW enc w0 blk off d (grow (wr.drewN nq) osq)) := S1.out.grown nq osq
          clear l7a l7b hc7 S1
          generalize grow (wr.drewN nq) osq = w2 at S2 ⊢
          clear nq osq
          clear ea7 ec7
          go_wp2
          go_roundg (c - s)
          case measure => omega
          case rel => exact ⟨s, c, rfl, by first | rfl | (congr 1; omega), by omega, by omega, by omega, Nat.le_refl _, S2, (show Hid _ from by
            obtain ⟨kk, hk, hy⟩ := hbs.out
            obtain ⟨k', rfl⟩ : ∃ k', kk = k' + 1 := ⟨kk - 1, by omega⟩
            rw [syS, if_pos hlt, ← HH.out, ← HQ.out, if_pos hlv] at hy
            exact ⟨k', by omega, hy⟩)⟩
        | false =>
          obtain ⟨iN8, hiN8⟩ : ∃ q_, q_ = q := ⟨_, rfl⟩
          obtain ⟨jN8, hjN8⟩ : ∃ q_, q_ = c := ⟨_, rfl⟩
          have ea8 : ((q : Int)).toNat = iN8 := by omega
          have pa8 : (0 : Int) ≤ (q : Int) := by omega
          have ba8 : (q : Int) < (d.size : Int) := by omega
          have ra8 : IntKind.i64.wrap ((q : Int)) = (q : Int) := by rw [IntKind.wrap_i64]; omega
          have ec8 : ((c : Int)).toNat = jN8 := by omega
          have pc8 : (0 : Int) ≤ (c : Int) := by omega
          have bc8 : (c : Int) < (d.size : Int) := by omega
          have rc8 : IntKind.i64.wrap ((c : Int)) = (c : Int) := by rw [IntKind.wrap_i64]; omega
          obtain ⟨x8, hx8⟩ : ∃ x, x = d[q]! := ⟨_, rfl⟩
          obtain ⟨y8, hy8⟩ : ∃ x, x = d[c]! := ⟨_, rfl⟩
          have l8a := S1.out.cl R (by omega) (q) (by omega)
          have l8b := S1.out.cl R (by omega) (c) (by omega)
          rw [← hx8, ← hiN8] at l8a
          rw [← hy8, ← hjN8] at l8b
          have hc8 := S1.out.cmp HC.out (by omega) x8 y8
          have hv8 : ¬ cf x8 y8 < 0 := by rw [hx8, hy8]; exact of_decide_eq_false hlv
          have hd8 : decide (cf x8 y8 < 0) = false := decide_eq_false hv8
          clear hx8 hy8 hiN8 hjN8
          (try go_wp2_with fail)
          go_quiet_grown (first | (go_at_fn g; refine Calls.grown_of (hc8 _ _)))
          have S2 : Aside (SW enc w0 blk off d (grow (wr.drewN nq) osq)) := S1.out.grown nq osq
          clear l8a l8b hc8 S1
          generalize grow (wr.drewN nq) osq = w2 at S2 ⊢
          clear nq osq
          clear ea8 ec8
          go_wp2
          go_roundg (r - (c + 1))
          case measure => omega
          case rel => exact ⟨c + 1, r, by first | rfl | go_num | (congr 1; omega), rfl, by omega, by omega, by omega, Nat.le_refl _, S2, (show Hid _ from by
            obtain ⟨kk, hk, hy⟩ := hbs.out
            obtain ⟨k', rfl⟩ : ∃ k', kk = k' + 1 := ⟨kk - 1, by omega⟩
            rw [syS, if_pos hlt, ← HH.out, ← HQ.out, if_neg (by rw [hlv]; decide)] at hy
            exact ⟨k', by omega, hy⟩)⟩
      · have hltz : ¬ (s : Int) < (r : Int) := by omega
        have hI : syS (ltOf cf) d p b s0 r0 = s := by
          obtain ⟨kk, _, hy⟩ := hbs.out
          rw [← hy]
          cases kk with
          | zero => rfl
          | succ k' => rw [syS, if_neg hlt]
        clear hbs
        obtain ⟨e, he⟩ : ∃ e, e = n - s := ⟨_, rfl⟩
        have ze : (n : Int) - (s : Int) = (e : Int) := by omega
        have fe1 : e + s ≤ n := by omega
        have fe2 : n ≤ e + s := by omega
        have hI2 : n - s = e := he.symm
        clear he
        by_cases q0 : s < m
        · have qz0 : (s : Int) < (m : Int) := by omega
          by_cases k0 : m < e
          · have kz0 : (m : Int) < (e : Int) := by omega
            have H1 : s < m ∧ m < e := ⟨q0, k0⟩
            go_wp2_with fail
            refine (HROT.out s m e q0 k0 (by omega) _ S1.out).mono ?_
            rintro e0 w0x ⟨rfl, hS0⟩
            have T0 : Aside (SW enc w0 blk off (rotR m (e - s) (m - s) (e - m) d) w0x) := hS0
            have Z0 : Aside ((rotR m (e - s) (m - s) (e - m) d).size = d.size) := rotR_size _ _ _ _ _
            clear hS0 S1
            by_cases q1 : a < s
            · have qz1 : (a : Int) < (s : Int) := by omega
              by_cases k1 : s < mid
              · have kz1 : (s : Int) < (mid : Int) := by omega
                have H2 : a < s ∧ s < mid := ⟨q1, k1⟩
                go_wp2_with fail
                refine (HI.out a s mid (rotR m (e - s) (m - s) (e - m) d) _ Z0.out T0.out (by omega) q1 k1 (by omega)).mono ?_
                rintro e1 w1x ⟨rfl, hS1⟩
                have T1 : Aside (SW enc w0 blk off (rec a s mid (rotR m (e - s) (m - s) (e - m) d)) w1x) := hS1
                have Z1 : Aside ((rec a s mid (rotR m (e - s) (m - s) (e - m) d)).size = d.size) := (HRS.out _ _ _ _).trans Z0.out
                clear hS1 T0
                by_cases q2 : mid < e
                · have qz2 : (mid : Int) < (e : Int) := by omega
                  by_cases k2 : e < b
                  · have kz2 : (e : Int) < (b : Int) := by omega
                    have H3 : mid < e ∧ e < b := ⟨q2, k2⟩
                    go_wp2_with fail
                    refine (HI.out mid e b (rec a s mid (rotR m (e - s) (m - s) (e - m) d)) _ Z1.out T1.out (by omega) q2 k2 (by omega)).mono ?_
                    rintro e2 w2x ⟨rfl, hS2⟩
                    have T2 : Aside (SW enc w0 blk off (rec mid e b (rec a s mid (rotR m (e - s) (m - s) (e - m) d))) w2x) := hS2
                    have Z2 : Aside ((rec mid e b (rec a s mid (rotR m (e - s) (m - s) (e - m) d))).size = d.size) := (HRS.out _ _ _ _).trans Z1.out
                    clear hS2 T1
                    go_wp2
                    first | go_end0 | ((try simp only [Exit.inBlock, Exit.then]); refine bodyPost_ret (results_none rfl _ _ _) rfl ?_)
                    refine ⟨rfl, ?_⟩
                    (try rw [hI])
                    (try rw [hI2])
                    unfold symT
                    simp only [if_pos H1, if_pos H2, if_pos H3]
                    exact T2.out
                  · have kz2 : ¬ (e : Int) < (b : Int) := by omega
                    have H3 : ¬ (mid < e ∧ e < b) := by omega
                    have Z2 : Aside ((rec a s mid (rotR m (e - s) (m - s) (e - m) d)).size = d.size) := Z1
                    go_wp2
                    first | go_end0 | ((try simp only [Exit.inBlock, Exit.then]); refine bodyPost_ret (results_none rfl _ _ _) rfl ?_)
                    refine ⟨rfl, ?_⟩
                    (try rw [hI])
                    (try rw [hI2])
                    unfold symT
                    simp only [if_pos H1, if_pos H2, if_neg H3]
                    exact T1.out
                · have qz2 : ¬ (mid : Int) < (e : Int) := by omega
                  have H3 : ¬ (mid < e ∧ e < b) := by omega
                  have Z2 : Aside ((rec a s mid (rotR m (e - s) (m - s) (e - m) d)).size = d.size) := Z1
                  go_wp2
                  first | go_end0 | ((try simp only [Exit.inBlock, Exit.then]); refine bodyPost_ret (results_none rfl _ _ _) rfl ?_)
                  refine ⟨rfl, ?_⟩
                  (try rw [hI])
                  (try rw [hI2])
                  unfold symT
                  simp only [if_pos H1, if_pos H2, if_neg H3]
                  exact T1.out
              · have kz1 : ¬ (s : Int) < (mid : Int) := by omega
                have H2 : ¬ (a < s ∧ s < mid) := by omega
                have Z1 : Aside ((rotR m (e - s) (m - s) (e - m) d).size = d.size) := Z0
                by_cases q2 : mid < e
                · have qz2 : (mid : Int) < (e : Int) := by omega
                  by_cases k2 : e < b
                  · have kz2 : (e : Int) < (b : Int) := by omega
                    have H3 : mid < e ∧ e < b := ⟨q2, k2⟩
                    go_wp2_with fail
                    refine (HI.out mid e b (rotR m (e - s) (m - s) (e - m) d) _ Z1.out T0.out (by omega) q2 k2 (by omega)).mono ?_
                    rintro e2 w2x ⟨rfl, hS2⟩
                    have T2 : Aside (SW enc w0 blk off (rec mid e b (rotR m (e - s) (m - s) (e - m) d)) w2x) := hS2
                    have Z2 : Aside ((rec mid e b (rotR m (e - s) (m - s) (e - m) d)).size = d.size) := (HRS.out _ _ _ _).trans Z1.out
                    clear hS2 T0
                    go_wp2
                    first | go_end0 | ((try simp only [Exit.inBlock, Exit.then]); refine bodyPost_ret (results_none rfl _ _ _) rfl ?_)
                    refine ⟨rfl, ?_⟩
                    (try rw [hI])
                    (try rw [hI2])
                    unfold symT
                    simp only [if_pos H1, if_neg H2, if_pos H3]
                    exact T2.out
                  · have kz2 : ¬ (e : Int) < (b : Int) := by omega
                    have H3 : ¬ (mid < e ∧ e < b) := by omega
                    have Z2 : Aside ((rotR m (e - s) (m - s) (e - m) d).size = d.size) := Z1
                    go_wp2
                    first | go_end0 | ((try simp only [Exit.inBlock, Exit.then]); refine bodyPost_ret (results_none rfl _ _ _) rfl ?_)
                    refine ⟨rfl, ?_⟩
                    (try rw [hI])
                    (try rw [hI2])
                    unfold symT
                    simp only [if_pos H1, if_neg H2, if_neg H3]
                    exact T0.out
                · have qz2 : ¬ (mid : Int) < (e : Int) := by omega
                  have H3 : ¬ (mid < e ∧ e < b) := by omega
                  have Z2 : Aside ((rotR m (e - s) (m - s) (e - m) d).size = d.size) := Z1
                  go_wp2
                  first | go_end0 | ((try simp only [Exit.inBlock, Exit.then]); refine bodyPost_ret (results_none rfl _ _ _) rfl ?_)
                  refine ⟨rfl, ?_⟩
                  (try rw [hI])
                  (try rw [hI2])
                  unfold symT
                  simp only [if_pos H1, if_neg H2, if_neg H3]
                  exact T0.out
            · have qz1 : ¬ (a : Int) < (s : Int) := by omega
              have H2 : ¬ (a < s ∧ s < mid) := by omega
              have Z1 : Aside ((rotR m (e - s) (m - s) (e - m) d).size = d.size) := Z0
              by_cases q2 : mid < e
              · have qz2 : (mid : Int) < (e : Int) := by omega
                by_cases k2 : e < b
                · have kz2 : (e : Int) < (b : Int) := by omega
                  have H3 : mid < e ∧ e < b := ⟨q2, k2⟩
                  go_wp2_with fail
                  refine (HI.out mid e b (rotR m (e - s) (m - s) (e - m) d) _ Z1.out T0.out (by omega) q2 k2 (by omega)).mono ?_
                  rintro e2 w2x ⟨rfl, hS2⟩
                  have T2 : Aside (SW enc w0 blk off (rec mid e b (rotR m (e - s) (m - s) (e - m) d)) w2x) := hS2
                  have Z2 : Aside ((rec mid e b (rotR m (e - s) (m - s) (e - m) d)).size = d.size) := (HRS.out _ _ _ _).trans Z1.out
                  clear hS2 T0
                  go_wp2
                  first | go_end0 | ((try simp only [Exit.inBlock, Exit.then]); refine bodyPost_ret (results_none rfl _ _ _) rfl ?_)
                  refine ⟨rfl, ?_⟩
                  (try rw [hI])
                  (try rw [hI2])
                  unfold symT
                  simp only [if_pos H1, if_neg H2, if_pos H3]
                  exact T2.out
                · have kz2 : ¬ (e : Int) < (b : Int) := by omega
                  have H3 : ¬ (mid < e ∧ e < b) := by omega
                  have Z2 : Aside ((rotR m (e - s) (m - s) (e - m) d).size = d.size) := Z1
                  go_wp2
                  first | go_end0 | ((try simp only [Exit.inBlock, Exit.then]); refine bodyPost_ret (results_none rfl _ _ _) rfl ?_)
                  refine ⟨rfl, ?_⟩
                  (try rw [hI])
                  (try rw [hI2])
                  unfold symT
                  simp only [if_pos H1, if_neg H2, if_neg H3]
                  exact T0.out
              · have qz2 : ¬ (mid : Int) < (e : Int) := by omega
                have H3 : ¬ (mid < e ∧ e < b) := by omega
                have Z2 : Aside ((rotR m (e - s) (m - s) (e - m) d).size = d.size) := Z1
                go_wp2
                first | go_end0 | ((try simp only [Exit.inBlock, Exit.then]); refine bodyPost_ret (results_none rfl _ _ _) rfl ?_)
                refine ⟨rfl, ?_⟩
                (try rw [hI])
                (try rw [hI2])
                unfold symT
                simp only [if_pos H1, if_neg H2, if_neg H3]
                exact T0.out
          · have kz0 : ¬ (m : Int) < (e : Int) := by omega
            have H1 : ¬ (s < m ∧ m < e) := by omega
            by_cases q1 : a < s
            · have qz1 : (a : Int) < (s : Int) := by omega
              by_cases k1 : s < mid
              · have kz1 : (s : Int) < (mid : Int) := by omega
                have H2 : a < s ∧ s < mid := ⟨q1, k1⟩
                go_wp2_with fail
                refine (HI.out a s mid d _ rfl S1.out (by omega) q1 k1 (by omega)).mono ?_
                rintro e1 w1x ⟨rfl, hS1⟩
                have T1 : Aside (SW enc w0 blk off (rec a s mid d) w1x) := hS1
                have Z1 : Aside ((rec a s mid d).size = d.size) := (HRS.out _ _ _ _).trans rfl
                clear hS1 S1
                by_cases q2 : mid < e
                · have qz2 : (mid : Int) < (e : Int) := by omega
                  by_cases k2 : e < b
                  · have kz2 : (e : Int) < (b : Int) := by omega
                    have H3 : mid < e ∧ e < b := ⟨q2, k2⟩
                    go_wp2_with fail
                    refine (HI.out mid e b (rec a s mid d) _ Z1.out T1.out (by omega) q2 k2 (by omega)).mono ?_
                    rintro e2 w2x ⟨rfl, hS2⟩
                    have T2 : Aside (SW enc w0 blk off (rec mid e b (rec a s mid d)) w2x) := hS2
                    have Z2 : Aside ((rec mid e b (rec a s mid d)).size = d.size) := (HRS.out _ _ _ _).trans Z1.out
                    clear hS2 T1
                    go_wp2
                    first | go_end0 | ((try simp only [Exit.inBlock, Exit.then]); refine bodyPost_ret (results_none rfl _ _ _) rfl ?_)
                    refine ⟨rfl, ?_⟩
                    (try rw [hI])
                    (try rw [hI2])
                    unfold symT
                    simp only [if_neg H1, if_pos H2, if_pos H3]
                    exact T2.out
                  · have kz2 : ¬ (e : Int) < (b : Int) := by omega
                    have H3 : ¬ (mid < e ∧ e < b) := by omega
                    have Z2 : Aside ((rec a s mid d).size = d.size) := Z1
                    go_wp2
                    first | go_end0 | ((try simp only [Exit.inBlock, Exit.then]); refine bodyPost_ret (results_none rfl _ _ _) rfl ?_)
                    refine ⟨rfl, ?_⟩
                    (try rw [hI])
                    (try rw [hI2])
                    unfold symT
                    simp only [if_neg H1, if_pos H2, if_neg H3]
                    exact T1.out
                · have qz2 : ¬ (mid : Int) < (e : Int) := by omega
                  have H3 : ¬ (mid < e ∧ e < b) := by omega
                  have Z2 : Aside ((rec a s mid d).size = d.size) := Z1
                  go_wp2
                  first | go_end0 | ((try simp only [Exit.inBlock, Exit.then]); refine bodyPost_ret (results_none rfl _ _ _) rfl ?_)
                  refine ⟨rfl, ?_⟩
                  (try rw [hI])
                  (try rw [hI2])
                  unfold symT
                  simp only [if_neg H1, if_pos H2, if_neg H3]
                  exact T1.out
              · have kz1 : ¬ (s : Int) < (mid : Int) := by omega
                have H2 : ¬ (a < s ∧ s < mid) := by omega
                by_cases q2 : mid < e
                · have qz2 : (mid : Int) < (e : Int) := by omega
                  by_cases k2 : e < b
                  · have kz2 : (e : Int) < (b : Int) := by omega
                    have H3 : mid < e ∧ e < b := ⟨q2, k2⟩
                    go_wp2_with fail
                    refine (HI.out mid e b d _ rfl S1.out (by omega) q2 k2 (by omega)).mono ?_
                    rintro e2 w2x ⟨rfl, hS2⟩
                    have T2 : Aside (SW enc w0 blk off (rec mid e b d) w2x) := hS2
                    have Z2 : Aside ((rec mid e b d).size = d.size) := (HRS.out _ _ _ _).trans rfl
                    clear hS2 S1
                    go_wp2
                    first | go_end0 | ((try simp only [Exit.inBlock, Exit.then]); refine bodyPost_ret (results_none rfl _ _ _) rfl ?_)
                    refine ⟨rfl, ?_⟩
                    (try rw [hI])
                    (try rw [hI2])
                    unfold symT
                    simp only [if_neg H1, if_neg H2, if_pos H3]
                    exact T2.out
                  · have kz2 : ¬ (e : Int) < (b : Int) := by omega
                    have H3 : ¬ (mid < e ∧ e < b) := by omega
                    go_wp2
                    first | go_end0 | ((try simp only [Exit.inBlock, Exit.then]); refine bodyPost_ret (results_none rfl _ _ _) rfl ?_)
                    refine ⟨rfl, ?_⟩
                    (try rw [hI])
                    (try rw [hI2])
                    unfold symT
                    simp only [if_neg H1, if_neg H2, if_neg H3]
                    exact S1.out
                · have qz2 : ¬ (mid : Int) < (e : Int) := by omega
                  have H3 : ¬ (mid < e ∧ e < b) := by omega
                  go_wp2
                  first | go_end0 | ((try simp only [Exit.inBlock, Exit.then]); refine bodyPost_ret (results_none rfl _ _ _) rfl ?_)
                  refine ⟨rfl, ?_⟩
                  (try rw [hI])
                  (try rw [hI2])
                  unfold symT
                  simp only [if_neg H1, if_neg H2, if_neg H3]
                  exact S1.out
            · have qz1 : ¬ (a : Int) < (s : Int) := by omega
              have H2 : ¬ (a < s ∧ s < mid) := by omega
              by_cases q2 : mid < e
              · have qz2 : (mid : Int) < (e : Int) := by omega
                by_cases k2 : e < b
                · have kz2 : (e : Int) < (b : Int) := by omega
                  have H3 : mid < e ∧ e < b := ⟨q2, k2⟩
                  go_wp2_with fail
                  refine (HI.out mid e b d _ rfl S1.out (by omega) q2 k2 (by omega)).mono ?_
                  rintro e2 w2x ⟨rfl, hS2⟩
                  have T2 : Aside (SW enc w0 blk off (rec mid e b d) w2x) := hS2
                  have Z2 : Aside ((rec mid e b d).size = d.size) := (HRS.out _ _ _ _).trans rfl
                  clear hS2 S1
                  go_wp2
                  first | go_end0 | ((try simp only [Exit.inBlock, Exit.then]); refine bodyPost_ret (results_none rfl _ _ _) rfl ?_)
                  refine ⟨rfl, ?_⟩
                  (try rw [hI])
                  (try rw [hI2])
                  unfold symT
                  simp only [if_neg H1, if_neg H2, if_pos H3]
                  exact T2.out
                · have kz2 : ¬ (e : Int) < (b : Int) := by omega
                  have H3 : ¬ (mid < e ∧ e < b) := by omega
                  go_wp2
                  first | go_end0 | ((try simp only [Exit.inBlock, Exit.then]); refine bodyPost_ret (results_none rfl _ _ _) rfl ?_)
                  refine ⟨rfl, ?_⟩
                  (try rw [hI])
                  (try rw [hI2])
                  unfold symT
                  simp only [if_neg H1, if_neg H2, if_neg H3]
                  exact S1.out
              · have qz2 : ¬ (mid : Int) < (e : Int) := by omega
                have H3 : ¬ (mid < e ∧ e < b) := by omega
                go_wp2
                first | go_end0 | ((try simp only [Exit.inBlock, Exit.then]); refine bodyPost_ret (results_none rfl _ _ _) rfl ?_)
                refine ⟨rfl, ?_⟩
                (try rw [hI])
                (try rw [hI2])
                unfold symT
                simp only [if_neg H1, if_neg H2, if_neg H3]
                exact S1.out
        · have qz0 : ¬ (s : Int) < (m : Int) := by omega
          have H1 : ¬ (s < m ∧ m < e) := by omega
          by_cases q1 : a < s
          · have qz1 : (a : Int) < (s : Int) := by omega
            by_cases k1 : s < mid
            · have kz1 : (s : Int) < (mid : Int) := by omega
              have H2 : a < s ∧ s < mid := ⟨q1, k1⟩
              go_wp2_with fail
              refine (HI.out a s mid d _ rfl S1.out (by omega) q1 k1 (by omega)).mono ?_
              rintro e1 w1x ⟨rfl, hS1⟩
              have T1 : Aside (SW enc w0 blk off (rec a s mid d) w1x) := hS1
              have Z1 : Aside ((rec a s mid d).size = d.size) := (HRS.out _ _ _ _).trans rfl
              clear hS1 S1
              by_cases q2 : mid < e
              · have qz2 : (mid : Int) < (e : Int) := by omega
                by_cases k2 : e < b
                · have kz2 : (e : Int) < (b : Int) := by omega
                  have H3 : mid < e ∧ e < b := ⟨q2, k2⟩
                  go_wp2_with fail
                  refine (HI.out mid e b (rec a s mid d) _ Z1.out T1.out (by omega) q2 k2 (by omega)).mono ?_
                  rintro e2 w2x ⟨rfl, hS2⟩
                  have T2 : Aside (SW enc w0 blk off (rec mid e b (rec a s mid d)) w2x) := hS2
                  have Z2 : Aside ((rec mid e b (rec a s mid d)).size = d.size) := (HRS.out _ _ _ _).trans Z1.out
                  clear hS2 T1
                  go_wp2
                  first | go_end0 | ((try simp only [Exit.inBlock, Exit.then]); refine bodyPost_ret (results_none rfl _ _ _) rfl ?_)
                  refine ⟨rfl, ?_⟩
                  (try rw [hI])
                  (try rw [hI2])
                  unfold symT
                  simp only [if_neg H1, if_pos H2, if_pos H3]
                  exact T2.out
                · have kz2 : ¬ (e : Int) < (b : Int) := by omega
                  have H3 : ¬ (mid < e ∧ e < b) := by omega
                  have Z2 : Aside ((rec a s mid d).size = d.size) := Z1
                  go_wp2
                  first | go_end0 | ((try simp only [Exit.inBlock, Exit.then]); refine bodyPost_ret (results_none rfl _ _ _) rfl ?_)
                  refine ⟨rfl, ?_⟩
                  (try rw [hI])
                  (try rw [hI2])
                  unfold symT
                  simp only [if_neg H1, if_pos H2, if_neg H3]
                  exact T1.out
              · have qz2 : ¬ (mid : Int) < (e : Int) := by omega
                have H3 : ¬ (mid < e ∧ e < b) := by omega
                have Z2 : Aside ((rec a s mid d).size = d.size) := Z1
                go_wp2
                first | go_end0 | ((try simp only [Exit.inBlock, Exit.then]); refine bodyPost_ret (results_none rfl _ _ _) rfl ?_)
                refine ⟨rfl, ?_⟩
                (try rw [hI])
                (try rw [hI2])
                unfold symT
                simp only [if_neg H1, if_pos H2, if_neg H3]
                exact T1.out
            · have kz1 : ¬ (s : Int) < (mid : Int) := by omega
              have H2 : ¬ (a < s ∧ s < mid) := by omega
              by_cases q2 : mid < e
              · have qz2 : (mid : Int) < (e : Int) := by omega
                by_cases k2 : e < b
                · have kz2 : (e : Int) < (b : Int) := by omega
                  have H3 : mid < e ∧ e < b := ⟨q2, k2⟩
                  go_wp2_with fail
                  refine (HI.out mid e b d _ rfl S1.out (by omega) q2 k2 (by omega)).mono ?_
                  rintro e2 w2x ⟨rfl, hS2⟩
                  have T2 : Aside (SW enc w0 blk off (rec mid e b d) w2x) := hS2
                  have Z2 : Aside ((rec mid e b d).size = d.size) := (HRS.out _ _ _ _).trans rfl
                  clear hS2 S1
                  go_wp2
                  first | go_end0 | ((try simp only [Exit.inBlock, Exit.then]); refine bodyPost_ret (results_none rfl _ _ _) rfl ?_)
                  refine ⟨rfl, ?_⟩
                  (try rw [hI])
                  (try rw [hI2])
                  unfold symT
                  simp only [if_neg H1, if_neg H2, if_pos H3]
                  exact T2.out
                · have kz2 : ¬ (e : Int) < (b : Int) := by omega
                  have H3 : ¬ (mid < e ∧ e < b) := by omega
                  go_wp2
                  first | go_end0 | ((try simp only [Exit.inBlock, Exit.then]); refine bodyPost_ret (results_none rfl _ _ _) rfl ?_)
                  refine ⟨rfl, ?_⟩
                  (try rw [hI])
                  (try rw [hI2])
                  unfold symT
                  simp only [if_neg H1, if_neg H2, if_neg H3]
                  exact S1.out
              · have qz2 : ¬ (mid : Int) < (e : Int) := by omega
                have H3 : ¬ (mid < e ∧ e < b) := by omega
                go_wp2
                first | go_end0 | ((try simp only [Exit.inBlock, Exit.then]); refine bodyPost_ret (results_none rfl _ _ _) rfl ?_)
                refine ⟨rfl, ?_⟩
                (try rw [hI])
                (try rw [hI2])
                unfold symT
                simp only [if_neg H1, if_neg H2, if_neg H3]
                exact S1.out
          · have qz1 : ¬ (a : Int) < (s : Int) := by omega
            have H2 : ¬ (a < s ∧ s < mid) := by omega
            by_cases q2 : mid < e
            · have qz2 : (mid : Int) < (e : Int) := by omega
              by_cases k2 : e < b
              · have kz2 : (e : Int) < (b : Int) := by omega
                have H3 : mid < e ∧ e < b := ⟨q2, k2⟩
                go_wp2_with fail
                refine (HI.out mid e b d _ rfl S1.out (by omega) q2 k2 (by omega)).mono ?_
                rintro e2 w2x ⟨rfl, hS2⟩
                have T2 : Aside (SW enc w0 blk off (rec mid e b d) w2x) := hS2
                have Z2 : Aside ((rec mid e b d).size = d.size) := (HRS.out _ _ _ _).trans rfl
                clear hS2 S1
                go_wp2
                first | go_end0 | ((try simp only [Exit.inBlock, Exit.then]); refine bodyPost_ret (results_none rfl _ _ _) rfl ?_)
                refine ⟨rfl, ?_⟩
                (try rw [hI])
                (try rw [hI2])
                unfold symT
                simp only [if_neg H1, if_neg H2, if_pos H3]
                exact T2.out
              · have kz2 : ¬ (e : Int) < (b : Int) := by omega
                have H3 : ¬ (mid < e ∧ e < b) := by omega
                go_wp2
                first | go_end0 | ((try simp only [Exit.inBlock, Exit.then]); refine bodyPost_ret (results_none rfl _ _ _) rfl ?_)
                refine ⟨rfl, ?_⟩
                (try rw [hI])
                (try rw [hI2])
                unfold symT
                simp only [if_neg H1, if_neg H2, if_neg H3]
                exact S1.out
            · have qz2 : ¬ (mid : Int) < (e : Int) := by omega
              have H3 : ¬ (mid < e ∧ e < b) := by omega
              go_wp2
              first | go_end0 | ((try simp only [Exit.inBlock, Exit.then]); refine bodyPost_ret (results_none rfl _ _ _) rfl ?_)
              refine ⟨rfl, ?_⟩
              (try rw [hI])
              (try rw [hI2])
              unfold symT
              simp only [if_neg H1, if_neg H2, if_neg H3]
              exact S1.out
  · rw [if_neg hmm] at start
    obtain ⟨st1, st2⟩ := start
    have hmmz : ¬ (m : Int) > (mid : Int) := by omega
    have st1a : a ≤ s0 ∧ s0 ≤ a := by omega
    have st2a : m ≤ r0 ∧ r0 ≤ m := by omega
    clear st1 st2
    go_wp2
    go_loopg [20, 21, 23] (r0 - s0) (fun kx v20 v21 v23 wr => ∃ (s r : Nat), v20 = .int .i64 (s : Int) ∧ v21 = .int .i64 (r : Int) ∧ s0 ≤ s ∧ s ≤ r ∧ r ≤ r0 ∧ r - s ≤ kx ∧ Aside (SW enc w0 blk off d wr) ∧ Hid (∃ kk, r - s ≤ kk ∧ syS (ltOf cf) d p kk s r = syS (ltOf cf) d p b s0 r0))
    case atStart => exact ⟨s0, r0, by first | rfl | (congr 1; omega), by first | rfl | (congr 1; omega), by omega, by omega, by omega, Nat.le_refl _, S0, ⟨b, by omega, rfl⟩⟩
    case round =>
      clear S0
      obtain ⟨s, r, rfl, rfl, hai, hij, hjb, hkx, S1, hbs⟩ := hrel
      by_cases hlt : s < r
      · have hltz : (s : Int) < (r : Int) := by omega
        obtain ⟨c, hh⟩ : ∃ c, c = (s + r) / 2 := ⟨_, rfl⟩
        have hib : s ≤ c := by omega
        have hjb2 : c < r := by omega
        obtain ⟨f9, f10⟩ := F8.out c (by omega) (by omega)
        obtain ⟨q, hq⟩ : ∃ q, q = p - c := ⟨_, rfl⟩
        have hqb : q < d.size := by omega
        go_wp2_with fail
        have HH : Aside (c = (s + r) / 2) := hh
        have HQ : Aside (q = p - c) := hq
        have hc1 : 2 * c ≤ s + r := by omega
        have hc2 : s + r ≤ 2 * c + 1 := by omega
        have hq1 : q + c ≤ p := by omega
        have hq2 : p ≤ q + c := by omega
        clear hh hq
        generalize hcz : ((s : Int) + (r : Int)) / 2 = cz
        obtain rfl : cz = (c : Int) := by omega
        clear hcz
        have zq : (p : Int) - (c : Int) = (q : Int) := by omega
        cases hlv : ltOf cf d[q]! d[c]! with
        | true =>
          obtain ⟨iN7, hiN7⟩ : ∃ q_, q_ = q := ⟨_, rfl⟩
          obtain ⟨jN7, hjN7⟩ : ∃ q_, q_ = c := ⟨_, rfl⟩
          have ea7 : ((q : Int)).toNat = iN7 := by omega
          have pa7 : (0 : Int) ≤ (q : Int) := by omega
          have ba7 : (q : Int) < (d.size : Int) := by omega
          have ra7 : IntKind.i64.wrap ((q : Int)) = (q : Int) := by rw [IntKind.wrap_i64]; omega
          have ec7 : ((c : Int)).toNat = jN7 := by omega
          have pc7 : (0 : Int) ≤ (c : Int) := by omega
          have bc7 : (c : Int) < (d.size : Int) := by omega
          have rc7 : IntKind.i64.wrap ((c : Int)) = (c : Int) := by rw [IntKind.wrap_i64]; omega
          obtain ⟨x7, hx7⟩ : ∃ x, x = d[q]! := ⟨_, rfl⟩
          obtain ⟨y7, hy7⟩ : ∃ x, x = d[c]! := ⟨_, rfl⟩
          have l7a := S1.out.cl R (by omega) (q) (by omega)
          have l7b := S1.out.cl R (by omega) (c) (by omega)
          rw [← hx7, ← hiN7] at l7a
          rw [← hy7, ← hjN7] at l7b
          have hc7 := S1.out.cmp HC.out (by omega) x7 y7
          have hv7 : cf x7 y7 < 0 := by rw [hx7, hy7]; exact of_decide_eq_true hlv
          have hd7 : decide (cf x7 y7 < 0) = true := decide_eq_true hv7
          clear hx7 hy7 hiN7 hjN7
          (try go_wp2_with fail)
          go_quiet_grown (first | (go_at_fn g; refine Calls.grown_of (hc7 _ _)))
          have S2 : Aside (SW enc w0 blk off d (grow (wr.drewN nq) osq)) := S1.out.grown nq osq
          clear l7a l7b hc7 S1
          generalize grow (wr.drewN nq) osq = w2 at S2 ⊢
          clear nq osq
          clear ea7 ec7
          go_wp2
          go_roundg (c - s)
          case measure => omega
          case rel => exact ⟨s, c, rfl, by first | rfl | (congr 1; omega), by omega, by omega, by omega, Nat.le_refl _, S2, (show Hid _ from by
            obtain ⟨kk, hk, hy⟩ := hbs.out
            obtain ⟨k', rfl⟩ : ∃ k', kk = k' + 1 := ⟨kk - 1, by omega⟩
            rw [syS, if_pos hlt, ← HH.out, ← HQ.out, if_pos hlv] at hy
            exact ⟨k', by omega, hy⟩)⟩
        | false =>
          obtain ⟨iN8, hiN8⟩ : ∃ q_, q_ = q := ⟨_, rfl⟩
          obtain ⟨jN8, hjN8⟩ : ∃ q_, q_ = c := ⟨_, rfl⟩
          have ea8 : ((q : Int)).toNat = iN8 := by omega
          have pa8 : (0 : Int) ≤ (q : Int) := by omega
          have ba8 : (q : Int) < (d.size : Int) := by omega
          have ra8 : IntKind.i64.wrap ((q : Int)) = (q : Int) := by rw [IntKind.wrap_i64]; omega
          have ec8 : ((c : Int)).toNat = jN8 := by omega
          have pc8 : (0 : Int) ≤ (c : Int) := by omega
          have bc8 : (c : Int) < (d.size : Int) := by omega
          have rc8 : IntKind.i64.wrap ((c : Int)) = (c : Int) := by rw [IntKind.wrap_i64]; omega
          obtain ⟨x8, hx8⟩ : ∃ x, x = d[q]! := ⟨_, rfl⟩
          obtain ⟨y8, hy8⟩ : ∃ x, x = d[c]! := ⟨_, rfl⟩
          have l8a := S1.out.cl R (by omega) (q) (by omega)
          have l8b := S1.out.cl R (by omega) (c) (by omega)
          rw [← hx8, ← hiN8] at l8a
          rw [← hy8, ← hjN8] at l8b
          have hc8 := S1.out.cmp HC.out (by omega) x8 y8
          have hv8 : ¬ cf x8 y8 < 0 := by rw [hx8, hy8]; exact of_decide_eq_false hlv
          have hd8 : decide (cf x8 y8 < 0) = false := decide_eq_false hv8
          clear hx8 hy8 hiN8 hjN8
          (try go_wp2_with fail)
          go_quiet_grown (first | (go_at_fn g; refine Calls.grown_of (hc8 _ _)))
          have S2 : Aside (SW enc w0 blk off d (grow (wr.drewN nq) osq)) := S1.out.grown nq osq
          clear l8a l8b hc8 S1
          generalize grow (wr.drewN nq) osq = w2 at S2 ⊢
          clear nq osq
          clear ea8 ec8
          go_wp2
          go_roundg (r - (c + 1))
          case measure => omega
          case rel => exact ⟨c + 1, r, by first | rfl | go_num | (congr 1; omega), rfl, by omega, by omega, by omega, Nat.le_refl _, S2, (show Hid _ from by
            obtain ⟨kk, hk, hy⟩ := hbs.out
            obtain ⟨k', rfl⟩ : ∃ k', kk = k' + 1 := ⟨kk - 1, by omega⟩
            rw [syS, if_pos hlt, ← HH.out, ← HQ.out, if_neg (by rw [hlv]; decide)] at hy
            exact ⟨k', by omega, hy⟩)⟩
      · have hltz : ¬ (s : Int) < (r : Int) := by omega
        have hI : syS (ltOf cf) d p b s0 r0 = s := by
          obtain ⟨kk, _, hy⟩ := hbs.out
          rw [← hy]
          cases kk with
          | zero => rfl
          | succ k' => rw [syS, if_neg hlt]
        clear hbs
        obtain ⟨e, he⟩ : ∃ e, e = n - s := ⟨_, rfl⟩
        have ze : (n : Int) - (s : Int) = (e : Int) := by omega
        have fe1 : e + s ≤ n := by omega
        have fe2 : n ≤ e + s := by omega
        have hI2 : n - s = e := he.symm
        clear he
        by_cases q0 : s < m
        · have qz0 : (s : Int) < (m : Int) := by omega
          by_cases k0 : m < e
          · have kz0 : (m : Int) < (e : Int) := by omega
            have H1 : s < m ∧ m < e := ⟨q0, k0⟩
            go_wp2_with fail
            refine (HROT.out s m e q0 k0 (by omega) _ S1.out).mono ?_
            rintro e0 w0x ⟨rfl, hS0⟩
            have T0 : Aside (SW enc w0 blk off (rotR m (e - s) (m - s) (e - m) d) w0x) := hS0
            have Z0 : Aside ((rotR m (e - s) (m - s) (e - m) d).size = d.size) := rotR_size _ _ _ _ _
            clear hS0 S1
            by_cases q1 : a < s
            · have qz1 : (a : Int) < (s : Int) := by omega
              by_cases k1 : s < mid
              · have kz1 : (s : Int) < (mid : Int) := by omega
                have H2 : a < s ∧ s < mid := ⟨q1, k1⟩
                go_wp2_with fail
                refine (HI.out a s mid (rotR m (e - s) (m - s) (e - m) d) _ Z0.out T0.out (by omega) q1 k1 (by omega)).mono ?_
                rintro e1 w1x ⟨rfl, hS1⟩
                have T1 : Aside (SW enc w0 blk off (rec a s mid (rotR m (e - s) (m - s) (e - m) d)) w1x) := hS1
                have Z1 : Aside ((rec a s mid (rotR m (e - s) (m - s) (e - m) d)).size = d.size) := (HRS.out _ _ _ _).trans Z0.out
                clear hS1 T0
                by_cases q2 : mid < e
                · have qz2 : (mid : Int) < (e : Int) := by omega
                  by_cases k2 : e < b
                  · have kz2 : (e : Int) < (b : Int) := by omega
                    have H3 : mid < e ∧ e < b := ⟨q2, k2⟩
                    go_wp2_with fail
                    refine (HI.out mid e b (rec a s mid (rotR m (e - s) (m - s) (e - m) d)) _ Z1.out T1.out (by omega) q2 k2 (by omega)).mono ?_
                    rintro e2 w2x ⟨rfl, hS2⟩
                    have T2 : Aside (SW enc w0 blk off (rec mid e b (rec a s mid (rotR m (e - s) (m - s) (e - m) d))) w2x) := hS2
                    have Z2 : Aside ((rec mid e b (rec a s mid (rotR m (e - s) (m - s) (e - m) d))).size = d.size) := (HRS.out _ _ _ _).trans Z1.out
                    clear hS2 T1
                    go_wp2
                    first | go_end0 | ((try simp only [Exit.inBlock, Exit.then]); refine bodyPost_ret (results_none rfl _ _ _) rfl ?_)
                    refine ⟨rfl, ?_⟩
                    (try rw [hI])
                    (try rw [hI2])
                    unfold symT
                    simp only [if_pos H1, if_pos H2, if_pos H3]
                    exact T2.out
                  · have kz2 : ¬ (e : Int) < (b : Int) := by omega
                    have H3 : ¬ (mid < e ∧ e < b) := by omega
                    have Z2 : Aside ((rec a s mid (rotR m (e - s) (m - s) (e - m) d)).size = d.size) := Z1
                    go_wp2
                    first | go_end0 | ((try simp only [Exit.inBlock, Exit.then]); refine bodyPost_ret (results_none rfl _ _ _) rfl ?_)
                    refine ⟨rfl, ?_⟩
                    (try rw [hI])
                    (try rw [hI2])
                    unfold symT
                    simp only [if_pos H1, if_pos H2, if_neg H3]
                    exact T1.out
                · have qz2 : ¬ (mid : Int) < (e : Int) := by omega
                  have H3 : ¬ (mid < e ∧ e < b) := by omega
                  have Z2 : Aside ((rec a s mid (rotR m (e - s) (m - s) (e - m) d)).size = d.size) := Z1
                  go_wp2
                  first | go_end0 | ((try simp only [Exit.inBlock, Exit.then]); refine bodyPost_ret (results_none rfl _ _ _) rfl ?_)
                  refine ⟨rfl, ?_⟩
                  (try rw [hI])
                  (try rw [hI2])
                  unfold symT
                  simp only [if_pos H1, if_pos H2, if_neg H3]
                  exact T1.out
              · have kz1 : ¬ (s : Int) < (mid : Int) := by omega
                have H2 : ¬ (a < s ∧ s < mid) := by omega
                have Z1 : Aside ((rotR m (e - s) (m - s) (e - m) d).size = d.size) := Z0
                by_cases q2 : mid < e
                · have qz2 : (mid : Int) < (e : Int) := by omega
                  by_cases k2 : e < b
                  · have kz2 : (e : Int) < (b : Int) := by omega
                    have H3 : mid < e ∧ e < b := ⟨q2, k2⟩
                    go_wp2_with fail
                    refine (HI.out mid e b (rotR m (e - s) (m - s) (e - m) d) _ Z1.out T0.out (by omega) q2 k2 (by omega)).mono ?_
                    rintro e2 w2x ⟨rfl, hS2⟩
                    have T2 : Aside (SW enc w0 blk off (rec mid e b (rotR m (e - s) (m - s) (e - m) d)) w2x) := hS2
                    have Z2 : Aside ((rec mid e b (rotR m (e - s) (m - s) (e - m) d)).size = d.size) := (HRS.out _ _ _ _).trans Z1.out
                    clear hS2 T0
                    go_wp2
                    first | go_end0 | ((try simp only [Exit.inBlock, Exit.then]); refine bodyPost_ret (results_none rfl _ _ _) rfl ?_)
                    refine ⟨rfl, ?_⟩
                    (try rw [hI])
                    (try rw [hI2])
                    unfold symT
                    simp only [if_pos H1, if_neg H2, if_pos H3]
                    exact T2.out
                  · have kz2 : ¬ (e : Int) < (b : Int) := by omega
                    have H3 : ¬ (mid < e ∧ e < b) := by omega
                    have Z2 : Aside ((rotR m (e - s) (m - s) (e - m) d).size = d.size) := Z1
                    go_wp2
                    first | go_end0 | ((try simp only [Exit.inBlock, Exit.then]); refine bodyPost_ret (results_none rfl _ _ _) rfl ?_)
                    refine ⟨rfl, ?_⟩
                    (try rw [hI])
                    (try rw [hI2])
                    unfold symT
                    simp only [if_pos H1, if_neg H2, if_neg H3]
                    exact T0.out
                · have qz2 : ¬ (mid : Int) < (e : Int) := by omega
                  have H3 : ¬ (mid < e ∧ e < b) := by omega
                  have Z2 : Aside ((rotR m (e - s) (m - s) (e - m) d).size = d.size) := Z1
                  go_wp2
                  first | go_end0 | ((try simp only [Exit.inBlock, Exit.then]); refine bodyPost_ret (results_none rfl _ _ _) rfl ?_)
                  refine ⟨rfl, ?_⟩
                  (try rw [hI])
                  (try rw [hI2])
                  unfold symT
                  simp only [if_pos H1, if_neg H2, if_neg H3]
                  exact T0.out
            · have qz1 : ¬ (a : Int) < (s : Int) := by omega
              have H2 : ¬ (a < s ∧ s < mid) := by omega
              have Z1 : Aside ((rotR m (e - s) (m - s) (e - m) d).size = d.size) := Z0
              by_cases q2 : mid < e
              · have qz2 : (mid : Int) < (e : Int) := by omega
                by_cases k2 : e < b
                · have kz2 : (e : Int) < (b : Int) := by omega
                  have H3 : mid < e ∧ e < b := ⟨q2, k2⟩
                  go_wp2_with fail
                  refine (HI.out mid e b (rotR m (e - s) (m - s) (e - m) d) _ Z1.out T0.out (by omega) q2 k2 (by omega)).mono ?_
                  rintro e2 w2x ⟨rfl, hS2⟩
                  have T2 : Aside (SW enc w0 blk off (rec mid e b (rotR m (e - s) (m - s) (e - m) d)) w2x) := hS2
                  have Z2 : Aside ((rec mid e b (rotR m (e - s) (m - s) (e - m) d)).size = d.size) := (HRS.out _ _ _ _).trans Z1.out
                  clear hS2 T0
                  go_wp2
                  first | go_end0 | ((try simp only [Exit.inBlock, Exit.then]); refine bodyPost_ret (results_none rfl _ _ _) rfl ?_)
                  refine ⟨rfl, ?_⟩
                  (try rw [hI])
                  (try rw [hI2])
                  unfold symT
                  simp only [if_pos H1, if_neg H2, if_pos H3]
                  exact T2.out
                · have kz2 : ¬ (e : Int) < (b : Int) := by omega
                  have H3 : ¬ (mid < e ∧ e < b) := by omega
                  have Z2 : Aside ((rotR m (e - s) (m - s) (e - m) d).size = d.size) := Z1
                  go_wp2
                  first | go_end0 | ((try simp only [Exit.inBlock, Exit.then]); refine bodyPost_ret (results_none rfl _ _ _) rfl ?_)
                  refine ⟨rfl, ?_⟩
                  (try rw [hI])
                  (try rw [hI2])
                  unfold symT
                  simp only [if_pos H1, if_neg H2, if_neg H3]
                  exact T0.out
              · have qz2 : ¬ (mid : Int) < (e : Int) := by omega
                have H3 : ¬ (mid < e ∧ e < b) := by omega
                have Z2 : Aside ((rotR m (e - s) (m - s) (e - m) d).size = d.size) := Z1
                go_wp2
                first | go_end0 | ((try simp only [Exit.inBlock, Exit.then]); refine bodyPost_ret (results_none rfl _ _ _) rfl ?_)
                refine ⟨rfl, ?_⟩
                (try rw [hI])
                (try rw [hI2])
                unfold symT
                simp only [if_pos H1, if_neg H2, if_neg H3]
                exact T0.out
          · have kz0 : ¬ (m : Int) < (e : Int) := by omega
            have H1 : ¬ (s < m ∧ m < e) := by omega
            by_cases q1 : a < s
            · have qz1 : (a : Int) < (s : Int) := by omega
              by_cases k1 : s < mid
              · have kz1 : (s : Int) < (mid : Int) := by omega
                have H2 : a < s ∧ s < mid := ⟨q1, k1⟩
                go_wp2_with fail
                refine (HI.out a s mid d _ rfl S1.out (by omega) q1 k1 (by omega)).mono ?_
                rintro e1 w1x ⟨rfl, hS1⟩
                have T1 : Aside (SW enc w0 blk off (rec a s mid d) w1x) := hS1
                have Z1 : Aside ((rec a s mid d).size = d.size) := (HRS.out _ _ _ _).trans rfl
                clear hS1 S1
                by_cases q2 : mid < e
                · have qz2 : (mid : Int) < (e : Int) := by omega
                  by_cases k2 : e < b
                  · have kz2 : (e : Int) < (b : Int) := by omega
                    have H3 : mid < e ∧ e < b := ⟨q2, k2⟩
                    go_wp2_with fail
                    refine (HI.out mid e b (rec a s mid d) _ Z1.out T1.out (by omega) q2 k2 (by omega)).mono ?_
                    rintro e2 w2x ⟨rfl, hS2⟩
                    have T2 : Aside (SW enc w0 blk off (rec mid e b (rec a s mid d)) w2x) := hS2
                    have Z2 : Aside ((rec mid e b (rec a s mid d)).size = d.size) := (HRS.out _ _ _ _).trans Z1.out
                    clear hS2 T1
                    go_wp2
                    first | go_end0 | ((try simp only [Exit.inBlock, Exit.then]); refine bodyPost_ret (results_none rfl _ _ _) rfl ?_)
                    refine ⟨rfl, ?_⟩
                    (try rw [hI])
                    (try rw [hI2])
                    unfold symT
                    simp only [if_neg H1, if_pos H2, if_pos H3]
                    exact T2.out
                  · have kz2 : ¬ (e : Int) < (b : Int) := by omega
                    have H3 : ¬ (mid < e ∧ e < b) := by omega
                    have Z2 : Aside ((rec a s mid d).size = d.size) := Z1
                    go_wp2
                    first | go_end0 | ((try simp only [Exit.inBlock, Exit.then]); refine bodyPost_ret (results_none rfl _ _ _) rfl ?_)
                    refine ⟨rfl, ?_⟩
                    (try rw [hI])
                    (try rw [hI2])
                    unfold symT
                    simp only [if_neg H1, if_pos H2, if_neg H3]
                    exact T1.out
                · have qz2 : ¬ (mid : Int) < (e : Int) := by omega
                  have H3 : ¬ (mid < e ∧ e < b) := by omega
                  have Z2 : Aside ((rec a s mid d).size = d.size) := Z1
                  go_wp2
                  first | go_end0 | ((try simp only [Exit.inBlock, Exit.then]); refine bodyPost_ret (results_none rfl _ _ _) rfl ?_)
                  refine ⟨rfl, ?_⟩
                  (try rw [hI])
                  (try rw [hI2])
                  unfold symT
                  simp only [if_neg H1, if_pos H2, if_neg H3]
                  exact T1.out
              · have kz1 : ¬ (s : Int) < (mid : Int) := by omega
                have H2 : ¬ (a < s ∧ s < mid) := by omega
                by_cases q2 : mid < e
                · have qz2 : (mid : Int) < (e : Int) := by omega
                  by_cases k2 : e < b
                  · have kz2 : (e : Int) < (b : Int) := by omega
                    have H3 : mid < e ∧ e < b := ⟨q2, k2⟩
                    go_wp2_with fail
                    refine (HI.out mid e b d _ rfl S1.out (by omega) q2 k2 (by omega)).mono ?_
                    rintro e2 w2x ⟨rfl, hS2⟩
                    have T2 : Aside (SW enc w0 blk off (rec mid e b d) w2x) := hS2
                    have Z2 : Aside ((rec mid e b d).size = d.size) := (HRS.out _ _ _ _).trans rfl
                    clear hS2 S1
                    go_wp2
                    first | go_end0 | ((try simp only [Exit.inBlock, Exit.then]); refine bodyPost_ret (results_none rfl _ _ _) rfl ?_)
                    refine ⟨rfl, ?_⟩
                    (try rw [hI])
                    (try rw [hI2])
                    unfold symT
                    simp only [if_neg H1, if_neg H2, if_pos H3]
                    exact T2.out
                  · have kz2 : ¬ (e : Int) < (b : Int) := by omega
                    have H3 : ¬ (mid < e ∧ e < b) := by omega
                    go_wp2
                    first | go_end0 | ((try simp only [Exit.inBlock, Exit.then]); refine bodyPost_ret (results_none rfl _ _ _) rfl ?_)
                    refine ⟨rfl, ?_⟩
                    (try rw [hI])
                    (try rw [hI2])
                    unfold symT
                    simp only [if_neg H1, if_neg H2, if_neg H3]
                    exact S1.out
                · have qz2 : ¬ (mid : Int) < (e : Int) := by omega
                  have H3 : ¬ (mid < e ∧ e < b) := by omega
                  go_wp2
                  first | go_end0 | ((try simp only [Exit.inBlock, Exit.then]); refine bodyPost_ret (results_none rfl _ _ _) rfl ?_)
                  refine ⟨rfl, ?_⟩
                  (try rw [hI])
                  (try rw [hI2])
                  unfold symT
                  simp only [if_neg H1, if_neg H2, if_neg H3]
                  exact S1.out
            · have qz1 : ¬ (a : Int) < (s : Int) := by omega
              have H2 : ¬ (a < s ∧ s < mid) := by omega
              by_cases q2 : mid < e
              · have qz2 : (mid : Int) < (e : Int) := by omega
                by_cases k2 : e < b
                · have kz2 : (e : Int) < (b : Int) := by omega
                  have H3 : mid < e ∧ e < b := ⟨q2, k2⟩
                  go_wp2_with fail
                  refine (HI.out mid e b d _ rfl S1.out (by omega) q2 k2 (by omega)).mono ?_
                  rintro e2 w2x ⟨rfl, hS2⟩
                  have T2 : Aside (SW enc w0 blk off (rec mid e b d) w2x) := hS2
                  have Z2 : Aside ((rec mid e b d).size = d.size) := (HRS.out _ _ _ _).trans rfl
                  clear hS2 S1
                  go_wp2
                  first | go_end0 | ((try simp only [Exit.inBlock, Exit.then]); refine bodyPost_ret (results_none rfl _ _ _) rfl ?_)
                  refine ⟨rfl, ?_⟩
                  (try rw [hI])
                  (try rw [hI2])
                  unfold symT
                  simp only [if_neg H1, if_neg H2, if_pos H3]
                  exact T2.out
                · have kz2 : ¬ (e : Int) < (b : Int) := by omega
                  have H3 : ¬ (mid < e ∧ e < b) := by omega
                  go_wp2
                  first | go_end0 | ((try simp only [Exit.inBlock, Exit.then]); refine bodyPost_ret (results_none rfl _ _ _) rfl ?_)
                  refine ⟨rfl, ?_⟩
                  (try rw [hI])
                  (try rw [hI2])
                  unfold symT
                  simp only [if_neg H1, if_neg H2, if_neg H3]
                  exact S1.out
              · have qz2 : ¬ (mid : Int) < (e : Int) := by omega
                have H3 : ¬ (mid < e ∧ e < b) := by omega
                go_wp2
                first | go_end0 | ((try simp only [Exit.inBlock, Exit.then]); refine bodyPost_ret (results_none rfl _ _ _) rfl ?_)
                refine ⟨rfl, ?_⟩
                (try rw [hI])
                (try rw [hI2])
                unfold symT
                simp only [if_neg H1, if_neg H2, if_neg H3]
                exact S1.out
        · have qz0 : ¬ (s : Int) < (m : Int) := by omega
          have H1 : ¬ (s < m ∧ m < e) := by omega
          by_cases q1 : a < s
          · have qz1 : (a : Int) < (s : Int) := by omega
            by_cases k1 : s < mid
            · have kz1 : (s : Int) < (mid : Int) := by omega
              have H2 : a < s ∧ s < mid := ⟨q1, k1⟩
              go_wp2_with fail
              refine (HI.out a s mid d _ rfl S1.out (by omega) q1 k1 (by omega)).mono ?_
              rintro e1 w1x ⟨rfl, hS1⟩
              have T1 : Aside (SW enc w0 blk off (rec a s mid d) w1x) := hS1
              have Z1 : Aside ((rec a s mid d).size = d.size) := (HRS.out _ _ _ _).trans rfl
              clear hS1 S1
              by_cases q2 : mid < e
              · have qz2 : (mid : Int) < (e : Int) := by omega
                by_cases k2 : e < b
                · have kz2 : (e : Int) < (b : Int) := by omega
                  have H3 : mid < e ∧ e < b := ⟨q2, k2⟩
                  go_wp2_with fail
                  refine (HI.out mid e b (rec a s mid d) _ Z1.out T1.out (by omega) q2 k2 (by omega)).mono ?_
                  rintro e2 w2x ⟨rfl, hS2⟩
                  have T2 : Aside (SW enc w0 blk off (rec mid e b (rec a s mid d)) w2x) := hS2
                  have Z2 : Aside ((rec mid e b (rec a s mid d)).size = d.size) := (HRS.out _ _ _ _).trans Z1.out
                  clear hS2 T1
                  go_wp2
                  first | go_end0 | ((try simp only [Exit.inBlock, Exit.then]); refine bodyPost_ret (results_none rfl _ _ _) rfl ?_)
                  refine ⟨rfl, ?_⟩
                  (try rw [hI])
                  (try rw [hI2])
                  unfold symT
                  simp only [if_neg H1, if_pos H2, if_pos H3]
                  exact T2.out
                · have kz2 : ¬ (e : Int) < (b : Int) := by omega
                  have H3 : ¬ (mid < e ∧ e < b) := by omega
                  have Z2 : Aside ((rec a s mid d).size = d.size) := Z1
                  go_wp2
                  first | go_end0 | ((try simp only [Exit.inBlock, Exit.then]); refine bodyPost_ret (results_none rfl _ _ _) rfl ?_)
                  refine ⟨rfl, ?_⟩
                  (try rw [hI])
                  (try rw [hI2])
                  unfold symT
                  simp only [if_neg H1, if_pos H2, if_neg H3]
                  exact T1.out
              · have qz2 : ¬ (mid : Int) < (e : Int) := by omega
                have H3 : ¬ (mid < e ∧ e < b) := by omega
                have Z2 : Aside ((rec a s mid d).size = d.size) := Z1
                go_wp2
                first | go_end0 | ((try simp only [Exit.inBlock, Exit.then]); refine bodyPost_ret (results_none rfl _ _ _) rfl ?_)
                refine ⟨rfl, ?_⟩
                (try rw [hI])
                (try rw [hI2])
                unfold symT
                simp only [if_neg H1, if_pos H2, if_neg H3]
                exact T1.out
            · have kz1 : ¬ (s : Int) < (mid : Int) := by omega
              have H2 : ¬ (a < s ∧ s < mid) := by omega
              by_cases q2 : mid < e
              · have qz2 : (mid : Int) < (e : Int) := by omega
                by_cases k2 : e < b
                · have kz2 : (e : Int) < (b : Int) := by omega
                  have H3 : mid < e ∧ e < b := ⟨q2, k2⟩
                  go_wp2_with fail
                  refine (HI.out mid e b d _ rfl S1.out (by omega) q2 k2 (by omega)).mono ?_
                  rintro e2 w2x ⟨rfl, hS2⟩
                  have T2 : Aside (SW enc w0 blk off (rec mid e b d) w2x) := hS2
                  have Z2 : Aside ((rec mid e b d).size = d.size) := (HRS.out _ _ _ _).trans rfl
                  clear hS2 S1
                  go_wp2
                  first | go_end0 | ((try simp only [Exit.inBlock, Exit.then]); refine bodyPost_ret (results_none rfl _ _ _) rfl ?_)
                  refine ⟨rfl, ?_⟩
                  (try rw [hI])
                  (try rw [hI2])
                  unfold symT
                  simp only [if_neg H1, if_neg H2, if_pos H3]
                  exact T2.out
                · have kz2 : ¬ (e : Int) < (b : Int) := by omega
                  have H3 : ¬ (mid < e ∧ e < b) := by omega
                  go_wp2
                  first | go_end0 | ((try simp only [Exit.inBlock, Exit.then]); refine bodyPost_ret (results_none rfl _ _ _) rfl ?_)
                  refine ⟨rfl, ?_⟩
                  (try rw [hI])
                  (try rw [hI2])
                  unfold symT
                  simp only [if_neg H1, if_neg H2, if_neg H3]
                  exact S1.out
              · have qz2 : ¬ (mid : Int) < (e : Int) := by omega
                have H3 : ¬ (mid < e ∧ e < b) := by omega
                go_wp2
                first | go_end0 | ((try simp only [Exit.inBlock, Exit.then]); refine bodyPost_ret (results_none rfl _ _ _) rfl ?_)
                refine ⟨rfl, ?_⟩
                (try rw [hI])
                (try rw [hI2])
                unfold symT
                simp only [if_neg H1, if_neg H2, if_neg H3]
                exact S1.out
          · have qz1 : ¬ (a : Int) < (s : Int) := by omega
            have H2 : ¬ (a < s ∧ s < mid) := by omega
            by_cases q2 : mid < e
            · have qz2 : (mid : Int) < (e : Int) := by omega
              by_cases k2 : e < b
              · have kz2 : (e : Int) < (b : Int) := by omega
                have H3 : mid < e ∧ e < b := ⟨q2, k2⟩
                go_wp2_with fail
                refine (HI.out mid e b d _ rfl S1.out (by omega) q2 k2 (by omega)).mono ?_
                rintro e2 w2x ⟨rfl, hS2⟩
                have T2 : Aside (SW enc w0 blk off (rec mid e b d) w2x) := hS2
                have Z2 : Aside ((rec mid e b d).size = d.size) := (HRS.out _ _ _ _).trans rfl
                clear hS2 S1
                go_wp2
                first | go_end0 | ((try simp only [Exit.inBlock, Exit.then]); refine bodyPost_ret (results_none rfl _ _ _) rfl ?_)
                refine ⟨rfl, ?_⟩
                (try rw [hI])
                (try rw [hI2])
                unfold symT
                simp only [if_neg H1, if_neg H2, if_pos H3]
                exact T2.out
              · have kz2 : ¬ (e : Int) < (b : Int) := by omega
                have H3 : ¬ (mid < e ∧ e < b) := by omega
                go_wp2
                first | go_end0 | ((try simp only [Exit.inBlock, Exit.then]); refine bodyPost_ret (results_none rfl _ _ _) rfl ?_)
                refine ⟨rfl, ?_⟩
                (try rw [hI])
                (try rw [hI2])
                unfold symT
                simp only [if_neg H1, if_neg H2, if_neg H3]
                exact S1.out
            · have qz2 : ¬ (mid : Int) < (e : Int) := by omega
              have H3 : ¬ (mid < e ∧ e < b) := by omega
              go_wp2
              first | go_end0 | ((try simp only [Exit.inBlock, Exit.then]); refine bodyPost_ret (results_none rfl _ _ _) rfl ?_)
              refine ⟨rfl, ?_⟩
              (try rw [hI])
              (try rw [hI2])
              unfold symT
              simp only [if_neg H1, if_neg H2, if_neg H3]
              exact S1.out
end Go.Proofs.YtafnamchckehmaaGreatDoor.Pr
namespace Go.Proofs.YtafnamchckehmaaGreatDoor.Pr
open Go.RowKit Go.Proofs.YtafnamchckehmaaGreatDoorW.PrintWords
set_option linter.unusedVariables false
def tabLaid : List (String × DataW Unit) := [("math/bits.deBruijn64tab", Lib.tabData .u8 (Lib.deBruijn64tab.map fun n : Nat => (n : Int)))]
theorem tabLaid_at : ∀ j, j < 64 → (Lib.deBruijn64tab.map fun n : Nat => (n : Int)).getD j 0 = ((Lib.deBruijn64tab.getD j 0 : Nat) : Int) := by decide
theorem Tab64.of_laid {W : World} (h : laidMet Tryz.prog tabLaid W) : Tab64 W := by
  have ht := Lib.tabIs_of_head (g := 1) (t := 185) (e := 5) (n := 64) (by kernel_rfl) (by kernel_rfl) Tryz.underlying185 Tryz.underlying5 (by kernel_rfl) (by kernel_rfl) h
  intro j hj
  have := ht.cell (g := 1) (by kernel_rfl) j (by rw [List.length_map]; exact hj)
  rw [tabLaid_at j hj] at this
  exact this
end Go.Proofs.YtafnamchckehmaaGreatDoor.Pr
