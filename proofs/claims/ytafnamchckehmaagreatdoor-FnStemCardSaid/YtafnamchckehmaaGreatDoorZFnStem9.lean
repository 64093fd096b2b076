/- Functions of the program as plain functions, proofs that their calls answer so, and plain laws: what the law needs. No condition beyond what each statement says. -/
import Derived.Test.YtafnamchckehmaaGreatDoorZFnStem8
import Derived.Test.YtafnamchckehmaaGreatDoorRows
import Derived.Lib.LaidTab
import Derived.LaidSub
import Derived.MakeChecks
namespace Go.Proofs.YtafnamchckehmaaGreatDoor.Pr
open Go.RowKit Go.Proofs.YtafnamchckehmaaGreatDoorW.PrintWords Go.Proofs.YtafnamchckehmaaGreatDoorW.PrintLast Go.Proofs.YtafnamchckehmaaGreatDoorW.PrintMore
open Go.Sort Go.Shelf Go.Lib
set_option linter.unusedVariables false
set_option linter.unusedSimpArgs false
variable {α : Type} [Inhabited α]
def syS (lt : α → α → Bool) (d : Array α) (p : Nat) : Nat → Nat → Nat → Nat
  | 0, s, _ => s
  | k + 1, s, r => if s < r then (if lt d[p - (s + r) / 2]! d[(s + r) / 2]! then syS lt d p k s ((s + r) / 2) else syS lt d p k ((s + r) / 2 + 1) r) else s
def symT (rec : Nat → Nat → Nat → Array α → Array α) (a m b mid s e : Nat) (d : Array α) : Array α :=
  if mid < e ∧ e < b then rec mid e b (if a < s ∧ s < mid then rec a s mid (if s < m ∧ m < e then rotR m (e - s) (m - s) (e - m) d else d) else (if s < m ∧ m < e then rotR m (e - s) (m - s) (e - m) d else d))
  else (if a < s ∧ s < mid then rec a s mid (if s < m ∧ m < e then rotR m (e - s) (m - s) (e - m) d else d) else (if s < m ∧ m < e then rotR m (e - s) (m - s) (e - m) d else d))
def symM (lt : α → α → Bool) : Nat → Nat → Nat → Nat → Array α → Array α
  | 0, _, _, _, d => d
  | k + 1, a, m, b, d =>
    if m = a + 1 then shU a (bsL lt d a (b - m) m b - 1 - a) d
    else if b = m + 1 then shD m (m - bsR lt d m (m - a) a m) d
    else symT (symM lt k) a m b ((a + b) / 2) (syS lt d ((a + b) / 2 + m - 1) b (if (a + b) / 2 < m then (a + b) / 2 + m - b else a) (if (a + b) / 2 < m then (a + b) / 2 else m))
      ((a + b) / 2 + m - syS lt d ((a + b) / 2 + m - 1) b (if (a + b) / 2 < m then (a + b) / 2 + m - b else a) (if (a + b) / 2 < m then (a + b) / 2 else m)) d
theorem symM_size (lt : α → α → Bool) : ∀ (k a m b : Nat) (d : Array α), (symM lt k a m b d).size = d.size
  | 0, _, _, _, _ => rfl
  | k + 1, a, m, b, d => by
    rw [symM]
    split
    · exact shU_size _ _ _
    · split
      · exact shD_size _ _ _
      · unfold symT
        (repeat' split) <;> simp [symM_size lt k, rotR_size]
set_option maxHeartbeats 16000000 in
set_option maxRecDepth 1000000 in
theorem symG_s (enc : α → Value) (cf : α → α → Int) (g : Nat) (cb : Array Value) (blk off cap a m b mid n p s0 r0 : Nat) (rec : Nat → Nat → Nat → Array α → Array α) (hrec : ∀ a m b D, (rec a m b D).size = D.size) (d0 d : Array α) (w0 w : World)
    (eg : ∀ args w, (callFunc g args).run Tryz.prog w = .ok (.enter g args) w) (hcmp : CmpLays1 Tryz.prog g cb enc cf blk off d0.size w0) (R : Row1 enc w0 blk off d0) (hs : d0.size = d.size) (S : SW enc w0 blk off d w)
    (HI : Aside (∀ (a' m' b' : Nat) (D : Array α) (W : World), D.size = d.size → SW enc w0 blk off D W → b' - a' < b - a → a' < m' → m' < b' → b' ≤ d.size → Calls Tryz.prog 271 #[.slice (some ⟨blk, off, none⟩) d.size cap, .int .i64 (a' : Int), .int .i64 (m' : Int), .int .i64 (b' : Int), .func (.func g) #[] cb] W fun e w' => e = .returned (.tuple #[]) ∧ SW enc w0 blk off (rec a' m' b' D) w'))
    (ham : a + 1 < m) (hmb : m + 1 < b) (hb : b ≤ d.size) (hsz : d.size < 4611686018427387904)
    (hmid : mid = (a + b) / 2) (hn : n = mid + m) (hp : p = n - 1) (hs0 : s0 = if mid < m then n - b else a) (hr0 : r0 = if mid < m then mid else m) :
    Calls Tryz.prog 271 #[.slice (some ⟨blk, off, none⟩) d.size cap, .int .i64 (a : Int), .int .i64 (m : Int), .int .i64 (b : Int), .func (.func g) #[] cb] w fun e w' => e = .returned (.tuple #[]) ∧ SW enc w0 blk off (symT rec a m b mid (syS (ltOf cf) d p b s0 r0) (n - syS (ltOf cf) d p b s0 r0) d) w' := by
  have mixed : Tryz.prog.follows .mixedOrders = true := by kernel_rfl
  have hcl0 := R.hO.cells
  simp only [Value.cells] at hcl0
  have hst := R.hO.store Tryz.prog
  have HC : Aside _ := hcmp
  have S0 : Aside (SW enc w0 blk off d w) := S
  have HROT : Aside (∀ (x y z : Nat), x < y → y < z → z ≤ d.size → ∀ W, SW enc w0 blk off d W → Calls Tryz.prog 290 #[.slice (some ⟨blk, off, none⟩) d.size cap, .int .i64 (x : Int), .int .i64 (y : Int), .int .i64 (z : Int), .func (.func g) #[] cb] W fun e w' => e = .returned (.tuple #[]) ∧ SW enc w0 blk off (rotR y (z - x) (y - x) (z - y) d) w') :=
    fun x y z h1 h2 h3 W hS => rotate_s enc g cb blk off cap x y z d0 d w0 W R hs hS h1 h2 h3 hsz
  have HRS : Aside (∀ a m b D, (rec a m b D).size = D.size) := hrec
  clear S hcmp hrec
  have z3 : ((m : Int) - (a : Int) == 1) = false := beq_eq_false_iff_ne.2 (by omega)
  have z4 : ((m : Int) - (a : Int) = 1) = False := eq_false (by omega)
  have z5 : ((b : Int) - (m : Int) == 1) = false := beq_eq_false_iff_ne.2 (by omega)
  have z6 : ((b : Int) - (m : Int) = 1) = False := eq_false (by omega)
  have zmid : ((a : Int) + (b : Int)) / 2 = (mid : Int) := by omega
  have zn : (mid : Int) + (m : Int) = (n : Int) := by omega
  have zp : (n : Int) - 1 = (p : Int) := by omega
  have f1 : a < mid ∧ mid + 1 < b := by omega
  have f2 : s0 ≤ r0 ∧ r0 ≤ m ∧ r0 ≤ mid ∧ a ≤ s0 ∧ n ≤ b + s0 ∧ (∀ c, s0 ≤ c → c < r0 → c ≤ p ∧ p - c < d.size) := by
    subst hs0 hr0
    by_cases h : mid < m
    · rw [if_pos h, if_pos h]
      refine ⟨by omega, by omega, by omega, by omega, by omega, fun c h1 h2 => ⟨by omega, by omega⟩⟩
    · rw [if_neg h, if_neg h]
      refine ⟨by omega, by omega, by omega, by omega, by omega, fun c h1 h2 => ⟨by omega, by omega⟩⟩
  obtain ⟨f3, f4, f5, f6, f7, f8⟩ := f2
  have fn1 : n ≤ mid + m := by omega
  have fn2 : mid + m ≤ n := by omega
  have fp1 : p + 1 ≤ n := by omega
  have fp2 : n ≤ p + 1 := by omega
  have F8 : Aside (∀ c, s0 ≤ c → c < r0 → c ≤ p ∧ p - c < d.size) := f8
  clear f8
  have start : ∀ (zs zr : Int), zs = (s0 : Int) → zr = (r0 : Int) → (if mid < m then zs = (n : Int) - (b : Int) ∧ zr = (mid : Int) else zs = (a : Int) ∧ zr = (m : Int)) := by
    intro zs zr h1 h2
    subst hs0 hr0
    by_cases h : mid < m
    · rw [if_pos h] at h1 h2 ⊢
      exact ⟨by omega, h2⟩
    · rw [if_neg h] at h1 h2 ⊢
      exact ⟨h1, h2⟩
  have start := start _ _ rfl rfl
  clear hmid hn hp hs0 hr0
  by_cases hmm : mid < m
  · rw [if_pos hmm] at start
    obtain ⟨st1, st2⟩ := start
    have hmmz : (m : Int) > (mid : Int) := by omega
    have st1' : (n : Int) - (b : Int) = (s0 : Int) := st1.symm
    have st2a : r0 ≤ mid := by omega
    have st2b : mid ≤ r0 := by omega
    clear st1 st2
    go_wp2
    go_loopg [20, 21, 23] (r0 - s0) (fun kx v20 v21 v23 wr => ∃ (s r : Nat), v20 = .int .i64 (s : Int) ∧ v21 = .int .i64 (r : Int) ∧ s0 ≤ s ∧ s ≤ r ∧ r ≤ r0 ∧ r - s ≤ kx ∧ Aside (SW enc w0 blk off d wr) ∧ Hid (∃ kk, r - s ≤ kk ∧ syS (ltOf cf) d p kk s r = syS (ltOf cf) d p b s0 r0))
    case atStart => exact ⟨s0, r0, by first | rfl | (congr 1; omega), by first | rfl | (congr 1; omega), by omega, by omega, by omega, Nat.le_refl _, S0, ⟨b, by omega, rfl⟩⟩
    case round =>
      clear S0
      obtain ⟨s, r, rfl, rfl, hai, hij, hjb, hkx, S1, hbs⟩ := hrel
      by_cases hlt : s < r
      · have hltz : (s : Int) < (r : Int) := by omega
        obtain ⟨c, hh⟩ : ∃ c, c = (s + r) / 2 := ⟨_, rfl⟩
        have hib : s ≤ c := by omega
        have hjb2 : c < r := by omega
        obtain ⟨f9, f10⟩ := F8.out c (by omega) (by omega)
        obtain ⟨q, hq⟩ : ∃ q, q = p - c := ⟨_, rfl⟩
        have hqb : q < d.size := by omega
        go_wp2_with fail
        have HH : Aside (c = (s + r) / 2) := hh
        have HQ : Aside (q = p - c) := hq
        have hc1 : 2 * c ≤ s + r := by omega
        have hc2 : s + r ≤ 2 * c + 1 := by omega
        have hq1 : q + c ≤ p := by omega
        have hq2 : p ≤ q + c := by omega
        clear hh hq
        generalize hcz : ((s : Int) + (r : Int)) / 2 = cz
        obtain rfl : cz = (c : Int) := by omega
        clear hcz
        have zq : (p : Int) - (c : Int) = (q : Int) := by omega
        cases hlv : ltOf cf d[q]! d[c]! with
        | true =>
          obtain ⟨iN7, hiN7⟩ : ∃ q_, q_ = q := ⟨_, rfl⟩
          obtain ⟨jN7, hjN7⟩ : ∃ q_, q_ = c := ⟨_, rfl⟩
          have ea7 : ((q : Int)).toNat = iN7 := by omega
          have pa7 : (0 : Int) ≤ (q : Int) := by omega
          have ba7 : (q : Int) < (d.size : Int) := by omega
          have ra7 : IntKind.i64.wrap ((q : Int)) = (q : Int) := by rw [IntKind.wrap_i64]; omega
          have ec7 : ((c : Int)).toNat = jN7 := by omega
          have pc7 : (0 : Int) ≤ (c : Int) := by omega
          have bc7 : (c : Int) < (d.size : Int) := by omega
          have rc7 : IntKind.i64.wrap ((c : Int)) = (c : Int) := by rw [IntKind.wrap_i64]; omega
          obtain ⟨x7, hx7⟩ : ∃ x, x = d[q]! := ⟨_, rfl⟩
          obtain ⟨y7, hy7⟩ : ∃ x, x = d[c]! := ⟨_, rfl⟩
          have l7a := S1.out.cl R (by omega) (q) (by omega)
          have l7b := S1.out.cl R (by omega) (c) (by omega)
          rw [← hx7, ← hiN7] at l7a
          rw [← hy7, ← hjN7] at l7b
          have hc7 := S1.out.cmp HC.out (by omega) x7 y7
          have hv7 : cf x7 y7 < 0 := by rw [hx7, hy7]; exact of_decide_eq_true hlv
          have hd7 : decide (cf x7 y7 < 0) = true := decide_eq_true hv7
          clear hx7 hy7 hiN7 hjN7
          (try go_wp2_with fail)
          go_quiet_grown (first | (go_at_fn g; refine Calls.grown_of (hc7 _ _)))
          have S2 : Aside (SW enc w0 blk off d (grow (wr.drewN nq) osq)) := S1.out.grown nq osq
          clear l7a l7b hc7 S1
          generalize grow (wr.drewN nq) osq = w2 at S2 ⊢
          clear nq osq
          clear ea7 ec7
          go_wp2
          go_roundg (c - s)
          case measure => omega
          case rel => exact ⟨s, c, rfl, by first | rfl | (congr 1; omega), by omega, by omega, by omega, Nat.le_refl _, S2, (show Hid _ from by
            obtain ⟨kk, hk, hy⟩ := hbs.out
            obtain ⟨k', rfl⟩ : ∃ k', kk = k' + 1 := ⟨kk - 1, by omega⟩
            rw [syS, if_pos hlt, ← HH.out, ← HQ.out, if_pos hlv] at hy
            exact ⟨k', by omega, hy⟩)⟩
        | false =>
          obtain ⟨iN8, hiN8⟩ : ∃ q_, q_ = q := ⟨_, rfl⟩
          obtain ⟨jN8, hjN8⟩ : ∃ q_, q_ = c := ⟨_, rfl⟩
          have ea8 : ((q : Int)).toNat = iN8 := by omega
          have pa8 : (0 : Int) ≤ (q : Int) := by omega
          have ba8 : (q : Int) < (d.size : Int) := by omega
          have ra8 : IntKind.i64.wrap ((q : Int)) = (q : Int) := by rw [IntKind.wrap_i64]; omega
          have ec8 : ((c : Int)).toNat = jN8 := by omega
          have pc8 : (0 : Int) ≤ (c : Int) := by omega
          have bc8 : (c : Int) < (d.size : Int) := by omega
          have rc8 : IntKind.i64.wrap ((c : Int)) = (c : Int) := by rw [IntKind.wrap_i64]; omega
          obtain ⟨x8, hx8⟩ : ∃ x, x = d[q]! := ⟨_, rfl⟩
          obtain ⟨y8, hy8⟩ : ∃ x, x = d[c]! := ⟨_, rfl⟩
          have l8a := S1.out.cl R (by omega) (q) (by omega)
          have l8b := S1.out.cl R (by omega) (c) (by omega)
          rw [← hx8, ← hiN8] at l8a
          rw [← hy8, ← hjN8] at l8b
          have hc8 := S1.out.cmp HC.out (by omega) x8 y8
          have hv8 : ¬ cf x8 y8 < 0 := by rw [hx8, hy8]; exact of_decide_eq_false hlv
          have hd8 : decide (cf x8 y8 < 0) = false := decide_eq_false hv8
          clear hx8 hy8 hiN8 hjN8
          (try go_wp2_with fail)
          go_quiet_grown (first | (go_at_fn g; refine Calls.grown_of (hc8 _ _)))
          have S2 : Aside (SW enc w0 blk off d (grow (wr.drewN nq) osq)) := S1.out.grown nq osq
          clear l8a l8b hc8 S1
          generalize grow (wr.drewN nq) osq = w2 at S2 ⊢
          clear nq osq
          clear ea8 ec8
          go_wp2
          go_roundg (r - (c + 1))
          case measure => omega
          case rel => exact ⟨c + 1, r, by first | rfl | go_num | (congr 1; omega), rfl, by omega, by omega, by omega, Nat.le_refl _, S2, (show Hid _ from by
            obtain ⟨kk, hk, hy⟩ := hbs.out
            obtain ⟨k', rfl⟩ : ∃ k', kk = k' + 1 := ⟨kk - 1, by omega⟩
            rw [syS, if_pos hlt, ← HH.out, ← HQ.out, if_neg (by rw [hlv]; decide)] at hy
            exact ⟨k', by omega, hy⟩)⟩
      · have hltz : ¬ (s : Int) < (r : Int) := by omega
        have hI : syS (ltOf cf) d p b s0 r0 = s := by
          obtain ⟨kk, _, hy⟩ := hbs.out
          rw [← hy]
          cases kk with
          | zero => rfl
          | succ k' => rw [syS, if_neg hlt]
        clear hbs
        obtain ⟨e, he⟩ : ∃ e, e = n - s := ⟨_, rfl⟩
        have ze : (n : Int) - (s : Int) = (e : Int) := by omega
        have fe1 : e + s ≤ n := by omega
        have fe2 : n ≤ e + s := by omega
        have hI2 : n - s = e := he.symm
        clear he
        by_cases q0 : s < m
        · have qz0 : (s : Int) < (m : Int) := by omega
          by_cases k0 : m < e
          · have kz0 : (m : Int) < (e : Int) := by omega
            have H1 : s < m ∧ m < e := ⟨q0, k0⟩
            go_wp2_with fail
            refine (HROT.out s m e q0 k0 (by omega) _ S1.out).mono ?_
            rintro e0 w0x ⟨rfl, hS0⟩
            have T0 : Aside (SW enc w0 blk off (rotR m (e - s) (m - s) (e - m) d) w0x) := hS0
            have Z0 : Aside ((rotR m (e - s) (m - s) (e - m) d).size = d.size) := rotR_size _ _ _ _ _
            clear hS0 S1
            by_cases q1 : a < s
            · have qz1 : (a : Int) < (s : Int) := by omega
              by_cases k1 : s < mid
              · have kz1 : (s : Int) < (mid : Int) := by omega
                have H2 : a < s ∧ s < mid := ⟨q1, k1⟩
                go_wp2_with fail
                refine (HI.out a s mid (rotR m (e - s) (m - s) (e - m) d) _ Z0.out T0.out (by omega) q1 k1 (by omega)).mono ?_
                rintro e1 w1x ⟨rfl, hS1⟩
                have T1 : Aside (SW enc w0 blk off (rec a s mid (rotR m (e - s) (m - s) (e - m) d)) w1x) := hS1
                have Z1 : Aside ((rec a s mid (rotR m (e - s) (m - s) (e - m) d)).size = d.size) := (HRS.out _ _ _ _).trans Z0.out
                clear hS1 T0
                by_cases q2 : mid < e
                · have qz2 : (mid : Int) < (e : Int) := by omega
                  by_cases k2 : e < b
                  · have kz2 : (e : Int) < (b : Int) := by omega
                    have H3 : mid < e ∧ e < b := ⟨q2, k2⟩
                    go_wp2_with fail
                    refine (HI.out mid e b (rec a s mid (rotR m (e - s) (m - s) (e - m) d)) _ Z1.out T1.out (by omega) q2 k2 (by omega)).mono ?_
                    rintro e2 w2x ⟨rfl, hS2⟩
                    have T2 : Aside (SW enc w0 blk off (rec mid e b (rec a s mid (rotR m (e - s) (m - s) (e - m) d))) w2x) := hS2
                    have Z2 : Aside ((rec mid e b (rec a s mid (rotR m (e - s) (m - s) (e - m) d))).size = d.size) := (HRS.out _ _ _ _).trans Z1.out
                    clear hS2 T1
                    go_wp2
                    first | go_end0 | ((try simp only [Exit.inBlock, Exit.then]); refine bodyPost_ret (results_none rfl _ _ _) rfl ?_)
                    refine ⟨rfl, ?_⟩
                    (try rw [hI])
                    (try rw [hI2])
                    unfold symT
                    simp only [if_pos H1, if_pos H2, if_pos H3]
                    exact T2.out
                  · have kz2 : ¬ (e : Int) < (b : Int) := by omega
                    have H3 : ¬ (mid < e ∧ e < b) := by omega
                    have Z2 : Aside ((rec a s mid (rotR m (e - s) (m - s) (e - m) d)).size = d.size) := Z1
                    go_wp2
                    first | go_end0 | ((try simp only [Exit.inBlock, Exit.then]); refine bodyPost_ret (results_none rfl _ _ _) rfl ?_)
                    refine ⟨rfl, ?_⟩
                    (try rw [hI])
                    (try rw [hI2])
                    unfold symT
                    simp only [if_pos H1, if_pos H2, if_neg H3]
                    exact T1.out
                · have qz2 : ¬ (mid : Int) < (e : Int) := by omega
                  have H3 : ¬ (mid < e ∧ e < b) := by omega
                  have Z2 : Aside ((rec a s mid (rotR m (e - s) (m - s) (e - m) d)).size = d.size) := Z1
                  go_wp2
                  first | go_end0 | ((try simp only [Exit.inBlock, Exit.then]); refine bodyPost_ret (results_none rfl _ _ _) rfl ?_)
                  refine ⟨rfl, ?_⟩
                  (try rw [hI])
                  (try rw [hI2])
                  unfold symT
                  simp only [if_pos H1, if_pos H2, if_neg H3]
                  exact T1.out
              · have kz1 : ¬ (s : Int) < (mid : Int) := by omega
                have H2 : ¬ (a < s ∧ s < mid) := by omega
                have Z1 : Aside ((rotR m (e - s) (m - s) (e - m) d).size = d.size) := Z0
                by_cases q2 : mid < e
                · have qz2 : (mid : Int) < (e : Int) := by omega
                  by_cases k2 : e < b
                  · have kz2 : (e : Int) < (b : Int) := by omega
                    have H3 : mid < e ∧ e < b := ⟨q2, k2⟩
                    go_wp2_with fail
                    refine (HI.out mid e b (rotR m (e - s) (m - s) (e - m) d) _ Z1.out T0.out (by omega) q2 k2 (by omega)).mono ?_
                    rintro e2 w2x ⟨rfl, hS2⟩
                    have T2 : Aside (SW enc w0 blk off (rec mid e b (rotR m (e - s) (m - s) (e - m) d)) w2x) := hS2
                    have Z2 : Aside ((rec mid e b (rotR m (e - s) (m - s) (e - m) d)).size = d.size) := (HRS.out _ _ _ _).trans Z1.out
                    clear hS2 T0
                    go_wp2
                    first | go_end0 | ((try simp only [Exit.inBlock, Exit.then]); refine bodyPost_ret (results_none rfl _ _ _) rfl ?_)
                    refine ⟨rfl, ?_⟩
                    (try rw [hI])
                    (try rw [hI2])
                    unfold symT
                    simp only [if_pos H1, if_neg H2, if_pos H3]
                    exact T2.out
                  · have kz2 : ¬ (e : Int) < (b : Int) := by omega
                    have H3 : ¬ (mid < e ∧ e < b) := by omega
                    have Z2 : Aside ((rotR m (e - s) (m - s) (e - m) d).size = d.size) := Z1
                    go_wp2
                    first | go_end0 | ((try simp only [Exit.inBlock, Exit.then]); refine bodyPost_ret (results_none rfl _ _ _) rfl ?_)
                    refine ⟨rfl, ?_⟩
                    (try rw [hI])
                    (try rw [hI2])
                    unfold symT
                    simp only [if_pos H1, if_neg H2, if_neg H3]
                    exact T0.out
                · have qz2 : ¬ (mid : Int) < (e : Int) := by omega
                  have H3 : ¬ (mid < e ∧ e < b) := by omega
                  have Z2 : Aside ((rotR m (e - s) (m - s) (e - m) d).size = d.size) := Z1
                  go_wp2
                  first | go_end0 | ((try simp only [Exit.inBlock, Exit.then]); refine bodyPost_ret (results_none rfl _ _ _) rfl ?_)
                  refine ⟨rfl, ?_⟩
                  (try rw [hI])
                  (try rw [hI2])
                  unfold symT
                  simp only [if_pos H1, if_neg H2, if_neg H3]
                  exact T0.out
            · have qz1 : ¬ (a : Int) < (s : Int) := by omega
              have H2 : ¬ (a < s ∧ s < mid) := by omega
              have Z1 : Aside ((rotR m (e - s) (m - s) (e - m) d).size = d.size) := Z0
              by_cases q2 : mid < e
              · have qz2 : (mid : Int) < (e : Int) := by omega
                by_cases k2 : e < b
                · have kz2 : (e : Int) < (b : Int) := by omega
                  have H3 : mid < e ∧ e < b := ⟨q2, k2⟩
                  go_wp2_with fail
                  refine (HI.out mid e b (rotR m (e - s) (m - s) (e - m) d) _ Z1.out T0.out (by omega) q2 k2 (by omega)).mono ?_
                  rintro e2 w2x ⟨rfl, hS2⟩
                  have T2 : Aside (SW enc w0 blk off (rec mid e b (rotR m (e - s) (m - s) (e - m) d)) w2x) := hS2
                  have Z2 : Aside ((rec mid e b (rotR m (e - s) (m - s) (e - m) d)).size = d.size) := (HRS.out _ _ _ _).trans Z1.out
                  clear hS2 T0
                  go_wp2
                  first | go_end0 | ((try simp only [Exit.inBlock, Exit.then]); refine bodyPost_ret (results_none rfl _ _ _) rfl ?_)
                  refine ⟨rfl, ?_⟩
                  (try rw [hI])
                  (try rw [hI2])
                  unfold symT
                  simp only [if_pos H1, if_neg H2, if_pos H3]
                  exact T2.out
                · have kz2 : ¬ (e : Int) < (b : Int) := by omega
                  have H3 : ¬ (mid < e ∧ e < b) := by omega
                  have Z2 : Aside ((rotR m (e - s) (m - s) (e - m) d).size = d.size) := Z1
                  go_wp2
                  first | go_end0 | ((try simp only [Exit.inBlock, Exit.then]); refine bodyPost_ret (results_none rfl _ _ _) rfl ?_)
                  refine ⟨rfl, ?_⟩
                  (try rw [hI])
                  (try rw [hI2])
                  unfold symT
                  simp only [if_pos H1, if_neg H2, if_neg H3]
                  exact T0.out
              · have qz2 : ¬ (mid : Int) < (e : Int) := by omega
                have H3 : ¬ (mid < e ∧ e < b) := by omega
                have Z2 : Aside ((rotR m (e - s) (m - s) (e - m) d).size = d.size) := Z1
                go_wp2
                first | go_end0 | ((try simp only [Exit.inBlock, Exit.then]); refine bodyPost_ret (results_none rfl _ _ _) rfl ?_)
                refine ⟨rfl, ?_⟩
                (try rw [hI])
                (try rw [hI2])
                unfold symT
                simp only [if_pos H1, if_neg H2, if_neg H3]
                exact T0.out
          · have kz0 : ¬ (m : Int) < (e : Int) := by omega
            have H1 : ¬ (s < m ∧ m < e) := by omega
            by_cases q1 : a < s
            · have qz1 : (a : Int) < (s : Int) := by omega
              by_cases k1 : s < mid
              · have kz1 : (s : Int) < (mid : Int) := by omega
                have H2 : a < s ∧ s < mid := ⟨q1, k1⟩
                go_wp2_with fail
                refine (HI.out a s mid d _ rfl S1.out (by omega) q1 k1 (by omega)).mono ?_
                rintro e1 w1x ⟨rfl, hS1⟩
                have T1 : Aside (SW enc w0 blk off (rec a s mid d) w1x) := hS1
                have Z1 : Aside ((rec a s mid d).size = d.size) := (HRS.out _ _ _ _).trans rfl
                clear hS1 S1
                by_cases q2 : mid < e
                · have qz2 : (mid : Int) < (e : Int) := by omega
                  by_cases k2 : e < b
                  · have kz2 : (e : Int) < (b : Int) := by omega
                    have H3 : mid < e ∧ e < b := ⟨q2, k2⟩
                    go_wp2_with fail
                    refine (HI.out mid e b (rec a s mid d) _ Z1.out T1.out (by omega) q2 k2 (by omega)).mono ?_
                    rintro e2 w2x ⟨rfl, hS2⟩
                    have T2 : Aside (SW enc w0 blk off (rec mid e b (rec a s mid d)) w2x) := hS2
                    have Z2 : Aside ((rec mid e b (rec a s mid d)).size = d.size) := (HRS.out _ _ _ _).trans Z1.out
                    clear hS2 T1
                    go_wp2
                    first | go_end0 | ((try simp only [Exit.inBlock, Exit.then]); refine bodyPost_ret (results_none rfl _ _ _) rfl ?_)
                    refine ⟨rfl, ?_⟩
                    (try rw [hI])
                    (try rw [hI2])
                    unfold symT
                    simp only [if_neg H1, if_pos H2, if_pos H3]
                    exact T2.out
                  · have kz2 : ¬ (e : Int) < (b : Int) := by omega
                    have H3 : ¬ (mid < e ∧ e < b) := by omega
                    have Z2 : Aside ((rec a s mid d).size = d.size) := Z1
                    go_wp2
                    first | go_end0 | ((try simp only [Exit.inBlock, Exit.then]); refine bodyPost_ret (results_none rfl _ _ _) rfl ?_)
                    refine ⟨rfl, ?_⟩
                    (try rw [hI])
                    (try rw [hI2])
                    unfold symT
                    simp only [if_neg H1, if_pos H2, if_neg H3]
                    exact T1.out
                · have qz2 : ¬ (mid : Int) < (e : Int) := by omega
                  have H3 : ¬ (mid < e ∧ e < b) := by omega
                  have Z2 : Aside ((rec a s mid d).size = d.size) := Z1
                  go_wp2
                  first | go_end0 | ((try simp only [Exit.inBlock, Exit.then]); refine bodyPost_ret (results_none rfl _ _ _) rfl ?_)
                  refine ⟨rfl, ?_⟩
                  (try rw [hI])
                  (try rw [hI2])
                  unfold symT
                  simp only [if_neg H1, if_pos H2, if_neg H3]
                  exact T1.out
              · have kz1 : ¬ (s : Int) < (mid : Int) := by omega
                have H2 : ¬ (a < s ∧ s < mid) := by omega
                by_cases q2 : mid < e
                · have qz2 : (mid : Int) < (e : Int) := by omega
                  by_cases k2 : e < b
                  · have kz2 : (e : Int) < (b : Int) := by omega
                    have H3 : mid < e ∧ e < b := ⟨q2, k2⟩
                    go_wp2_with fail
                    refine (HI.out mid e b d _ rfl S1.out (by omega) q2 k2 (by omega)).mono ?_
                    rintro e2 w2x ⟨rfl, hS2⟩
                    have T2 : Aside (SW enc w0 blk off (rec mid e b d) w2x) := hS2
                    have Z2 : Aside ((rec mid e b d).size = d.size) := (HRS.out _ _ _ _).trans rfl
                    clear hS2 S1
                    go_wp2
                    first | go_end0 | ((try simp only [Exit.inBlock, Exit.then]); refine bodyPost_ret (results_none rfl _ _ _) rfl ?_)
                    refine ⟨rfl, ?_⟩
                    (try rw [hI])
                    (try rw [hI2])
                    unfold symT
                    simp only [if_neg H1, if_neg H2, if_pos H3]
                    exact T2.out
                  · have kz2 : ¬ (e : Int) < (b : Int) := by omega
                    have H3 : ¬ (mid < e ∧ e < b) := by omega
                    go_wp2
                    first | go_end0 | ((try simp only [Exit.inBlock, Exit.then]); refine bodyPost_ret (results_none rfl _ _ _) rfl ?_)
                    refine ⟨rfl, ?_⟩
                    (try rw [hI])
                    (try rw [hI2])
                    unfold symT
                    simp only [if_neg H1, if_neg H2, if_neg H3]
                    exact S1.out
                · have qz2 : ¬ (mid : Int) < (e : Int) := by omega
                  have H3 : ¬ (mid < e ∧ e < b) := by omega
                  go_wp2
                  first | go_end0 | ((try simp only [Exit.inBlock, Exit.then]); refine bodyPost_ret (results_none rfl _ _ _) rfl ?_)
                  refine ⟨rfl, ?_⟩
                  (try rw [hI])
                  (try rw [hI2])
                  unfold symT
                  simp only [if_neg H1, if_neg H2, if_neg H3]
                  exact S1.out
            · have qz1 : ¬ (a : Int) < (s : Int) := by omega
              have H2 : ¬ (a < s ∧ s < mid) := by omega
              by_cases q2 : mid < e
              · have qz2 : (mid : Int) < (e : Int) := by omega
                by_cases k2 : e < b
                · have kz2 : (e : Int) < (b : Int) := by omega
                  have H3 : mid < e ∧ e < b := ⟨q2, k2⟩
                  go_wp2_with fail
                  refine (HI.out mid e b d _ rfl S1.out (by omega) q2 k2 (by omega)).mono ?_
                  rintro e2 w2x ⟨rfl, hS2⟩
                  have T2 : Aside (SW enc w0 blk off (rec mid e b d) w2x) := hS2
                  have Z2 : Aside ((rec mid e b d).size = d.size) := (HRS.out _ _ _ _).trans rfl
                  clear hS2 S1
                  go_wp2
                  first | go_end0 | ((try simp only [Exit.inBlock, Exit.then]); refine bodyPost_ret (results_none rfl _ _ _) rfl ?_)
                  refine ⟨rfl, ?_⟩
                  (try rw [hI])
                  (try rw [hI2])
                  unfold symT
                  simp only [if_neg H1, if_neg H2, if_pos H3]
                  exact T2.out
                · have kz2 : ¬ (e : Int) < (b : Int) := by omega
                  have H3 : ¬ (mid < e ∧ e < b) := by omega
                  go_wp2
                  first | go_end0 | ((try simp only [Exit.inBlock, Exit.then]); refine bodyPost_ret (results_none rfl _ _ _) rfl ?_)
                  refine ⟨rfl, ?_⟩
                  (try rw [hI])
                  (try rw [hI2])
                  unfold symT
                  simp only [if_neg H1, if_neg H2, if_neg H3]
                  exact S1.out
              · have qz2 : ¬ (mid : Int) < (e : Int) := by omega
                have H3 : ¬ (mid < e ∧ e < b) := by omega
                go_wp2
                first | go_end0 | ((try simp only [Exit.inBlock, Exit.then]); refine bodyPost_ret (results_none rfl _ _ _) rfl ?_)
                refine ⟨rfl, ?_⟩
                (try rw [hI])
                (try rw [hI2])
                unfold symT
                simp only [if_neg H1, if_neg H2, if_neg H3]
                exact S1.out
        · have qz0 : ¬ (s : Int) < (m : Int) := by omega
          have H1 : ¬ (s < m ∧ m < e) := by omega
          by_cases q1 : a < s
          · have qz1 : (a : Int) < (s : Int) := by omega
            by_cases k1 : s < mid
            · have kz1 : (s : Int) < (mid : Int) := by omega
              have H2 : a < s ∧ s < mid := ⟨q1, k1⟩
              go_wp2_with fail
              refine (HI.out a s mid d _ rfl S1.out (by omega) q1 k1 (by omega)).mono ?_
              rintro e1 w1x ⟨rfl, hS1⟩
              have T1 : Aside (SW enc w0 blk off (rec a s mid d) w1x) := hS1
              have Z1 : Aside ((rec a s mid d).size = d.size) := (HRS.out _ _ _ _).trans rfl
              clear hS1 S1
              by_cases q2 : mid < e
              · have qz2 : (mid : Int) < (e : Int) := by omega
                by_cases k2 : e < b
                · have kz2 : (e : Int) < (b : Int) := by omega
                  have H3 : mid < e ∧ e < b := ⟨q2, k2⟩
                  go_wp2_with fail
                  refine (HI.out mid e b (rec a s mid d) _ Z1.out T1.out (by omega) q2 k2 (by omega)).mono ?_
                  rintro e2 w2x ⟨rfl, hS2⟩
                  have T2 : Aside (SW enc w0 blk off (rec mid e b (rec a s mid d)) w2x) := hS2
                  have Z2 : Aside ((rec mid e b (rec a s mid d)).size = d.size) := (HRS.out _ _ _ _).trans Z1.out
                  clear hS2 T1
                  go_wp2
                  first | go_end0 | ((try simp only [Exit.inBlock, Exit.then]); refine bodyPost_ret (results_none rfl _ _ _) rfl ?_)
                  refine ⟨rfl, ?_⟩
                  (try rw [hI])
                  (try rw [hI2])
                  unfold symT
                  simp only [if_neg H1, if_pos H2, if_pos H3]
                  exact T2.out
                · have kz2 : ¬ (e : Int) < (b : Int) := by omega
                  have H3 : ¬ (mid < e ∧ e < b) := by omega
                  have Z2 : Aside ((rec a s mid d).size = d.size) := Z1
                  go_wp2
                  first | go_end0 | ((try simp only [Exit.inBlock, Exit.then]); refine bodyPost_ret (results_none rfl _ _ _) rfl ?_)
                  refine ⟨rfl, ?_⟩
                  (try rw [hI])
                  (try rw [hI2])
                  unfold symT
                  simp only [if_neg H1, if_pos H2, if_neg H3]
                  exact T1.out
              · have qz2 : ¬ (mid : Int) < (e : Int) := by omega
                have H3 : ¬ (mid < e ∧ e < b) := by omega
                have Z2 : Aside ((rec a s mid d).size = d.size) := Z1
                go_wp2
                first | go_end0 | ((try simp only [Exit.inBlock, Exit.then]); refine bodyPost_ret (results_none rfl _ _ _) rfl ?_)
                refine ⟨rfl, ?_⟩
                (try rw [hI])
                (try rw [hI2])
                unfold symT
                simp only [if_neg H1, if_pos H2, if_neg H3]
                exact T1.out
            · have kz1 : ¬ (s : Int) < (mid : Int) := by omega
              have H2 : ¬ (a < s ∧ s < mid) := by omega
              by_cases q2 : mid < e
              · have qz2 : (mid : Int) < (e : Int) := by omega
                by_cases k2 : e < b
                · have kz2 : (e : Int) < (b : Int) := by omega
                  have H3 : mid < e ∧ e < b := ⟨q2, k2⟩
                  go_wp2_with fail
                  refine (HI.out mid e b d _ rfl S1.out (by omega) q2 k2 (by omega)).mono ?_
                  rintro e2 w2x ⟨rfl, hS2⟩
                  have T2 : Aside (SW enc w0 blk off (rec mid e b d) w2x) := hS2
                  have Z2 : Aside ((rec mid e b d).size = d.size) := (HRS.out _ _ _ _).trans rfl
                  clear hS2 S1
                  go_wp2
                  first | go_end0 | ((try simp only [Exit.inBlock, Exit.then]); refine bodyPost_ret (results_none rfl _ _ _) rfl ?_)
                  refine ⟨rfl, ?_⟩
                  (try rw [hI])
                  (try rw [hI2])
                  unfold symT
                  simp only [if_neg H1, if_neg H2, if_pos H3]
                  exact T2.out
                · have kz2 : ¬ (e : Int) < (b : Int) := by omega
                  have H3 : ¬ (mid < e ∧ e < b) := by omega
                  go_wp2
                  first | go_end0 | ((try simp only [Exit.inBlock, Exit.then]); refine bodyPost_ret (results_none rfl _ _ _) rfl ?_)
                  refine ⟨rfl, ?_⟩
                  (try rw [hI])
                  (try rw [hI2])
                  unfold symT
                  simp only [if_neg H1, if_neg H2, if_neg H3]
                  exact S1.out
              · have qz2 : ¬ (mid : Int) < (e : Int) := by omega
                have H3 : ¬ (mid < e ∧ e < b) := by omega
                go_wp2
                first | go_end0 | ((try simp only [Exit.inBlock, Exit.then]); refine bodyPost_ret (results_none rfl _ _ _) rfl ?_)
                refine ⟨rfl, ?_⟩
                (try rw [hI])
                (try rw [hI2])
                unfold symT
                simp only [if_neg H1, if_neg H2, if_neg H3]
                exact S1.out
          · have qz1 : ¬ (a : Int) < (s : Int) := by omega
            have H2 : ¬ (a < s ∧ s < mid) := by omega
            by_cases q2 : mid < e
            · have qz2 : (mid : Int) < (e : Int) := by omega
              by_cases k2 : e < b
              · have kz2 : (e : Int) < (b : Int) := by omega
                have H3 : mid < e ∧ e < b := ⟨q2, k2⟩
                go_wp2_with fail
                refine (HI.out mid e b d _ rfl S1.out (by omega) q2 k2 (by omega)).mono ?_
                rintro e2 w2x ⟨rfl, hS2⟩
                have T2 : Aside (SW enc w0 blk off (rec mid e b d) w2x) := hS2
                have Z2 : Aside ((rec mid e b d).size = d.size) := (HRS.out _ _ _ _).trans rfl
                clear hS2 S1
                go_wp2
                first | go_end0 | ((try simp only [Exit.inBlock, Exit.then]); refine bodyPost_ret (results_none rfl _ _ _) rfl ?_)
                refine ⟨rfl, ?_⟩
                (try rw [hI])
                (try rw [hI2])
                unfold symT
                simp only [if_neg H1, if_neg H2, if_pos H3]
                exact T2.out
              · have kz2 : ¬ (e : Int) < (b : Int) := by omega
                have H3 : ¬ (mid < e ∧ e < b) := by omega
                go_wp2
                first | go_end0 | ((try simp only [Exit.inBlock, Exit.then]); refine bodyPost_ret (results_none rfl _ _ _) rfl ?_)
                refine ⟨rfl, ?_⟩
                (try rw [hI])
                (try rw [hI2])
                unfold symT
                simp only [if_neg H1, if_neg H2, if_neg H3]
                exact S1.out
            · have qz2 : ¬ (mid : Int) < (e : Int) := by omega
              have H3 : ¬ (mid < e ∧ e < b) := by omega
              go_wp2
              first | go_end0 | ((try simp only [Exit.inBlock, Exit.then]); refine bodyPost_ret (results_none rfl _ _ _) rfl ?_)
              refine ⟨rfl, ?_⟩
              (try rw [hI])
              (try rw [hI2])
              unfold symT
              simp only [if_neg H1, if_neg H2, if_neg H3]
              exact S1.out
  · rw [if_neg hmm] at start
    obtain ⟨st1, st2⟩ := start
    have hmmz : ¬ (m : Int) > (mid : Int) := by omega
    have st1a : a ≤ s0 ∧ s0 ≤ a := by omega
    have st2a : m ≤ r0 ∧ r0 ≤ m := by omega
    clear st1 st2
    go_wp2
    go_loopg [20, 21, 23] (r0 - s0) (fun kx v20 v21 v23 wr => ∃ (s r : Nat), v20 = .int .i64 (s : Int) ∧ v21 = .int .i64 (r : Int) ∧ s0 ≤ s ∧ s ≤ r ∧ r ≤ r0 ∧ r - s ≤ kx ∧ Aside (SW enc w0 blk off d wr) ∧ Hid (∃ kk, r - s ≤ kk ∧ syS (ltOf cf) d p kk s r = syS (ltOf cf) d p b s0 r0))
    case atStart => exact ⟨s0, r0, by first | rfl | (congr 1; omega), by first | rfl | (congr 1; omega), by omega, by omega, by omega, Nat.le_refl _, S0, ⟨b, by omega, rfl⟩⟩
    case round =>
      clear S0
      obtain ⟨s, r, rfl, rfl, hai, hij, hjb, hkx, S1, hbs⟩ := hrel
      by_cases hlt : s < r
      · have hltz : (s : Int) < (r : Int) := by omega
        obtain ⟨c, hh⟩ : ∃ c, c = (s + r) / 2 := ⟨_, rfl⟩
        have hib : s ≤ c := by omega
        have hjb2 : c < r := by omega
        obtain ⟨f9, f10⟩ := F8.out c (by omega) (by omega)
        obtain ⟨q, hq⟩ : ∃ q, q = p - c := ⟨_, rfl⟩
        have hqb : q < d.size := by omega
        go_wp2_with fail
        have HH : Aside (c = (s + r) / 2) := hh
        have HQ : Aside (q = p - c) := hq
        have hc1 : 2 * c ≤ s + r := by omega
        have hc2 : s + r ≤ 2 * c + 1 := by omega
        have hq1 : q + c ≤ p := by omega
        have hq2 : p ≤ q + c := by omega
        clear hh hq
        generalize hcz : ((s : Int) + (r : Int)) / 2 = cz
        obtain rfl : cz = (c : Int) := by omega
        clear hcz
        have zq : (p : Int) - (c : Int) = (q : Int) := by omega
        cases hlv : ltOf cf d[q]! d[c]! with
        | true =>
          obtain ⟨iN7, hiN7⟩ : ∃ q_, q_ = q := ⟨_, rfl⟩
          obtain ⟨jN7, hjN7⟩ : ∃ q_, q_ = c := ⟨_, rfl⟩
          have ea7 : ((q : Int)).toNat = iN7 := by omega
          have pa7 : (0 : Int) ≤ (q : Int) := by omega
          have ba7 : (q : Int) < (d.size : Int) := by omega
          have ra7 : IntKind.i64.wrap ((q : Int)) = (q : Int) := by rw [IntKind.wrap_i64]; omega
          have ec7 : ((c : Int)).toNat = jN7 := by omega
          have pc7 : (0 : Int) ≤ (c : Int) := by omega
          have bc7 : (c : Int) < (d.size : Int) := by omega
          have rc7 : IntKind.i64.wrap ((c : Int)) = (c : Int) := by rw [IntKind.wrap_i64]; omega
          obtain ⟨x7, hx7⟩ : ∃ x, x = d[q]! := ⟨_, rfl⟩
          obtain ⟨y7, hy7⟩ : ∃ x, x = d[c]! := ⟨_, rfl⟩
          have l7a := S1.out.cl R (by omega) (q) (by omega)
          have l7b := S1.out.cl R (by omega) (c) (by omega)
          rw [← hx7, ← hiN7] at l7a
          rw [← hy7, ← hjN7] at l7b
          have hc7 := S1.out.cmp HC.out (by omega) x7 y7
          have hv7 : cf x7 y7 < 0 := by rw [hx7, hy7]; exact of_decide_eq_true hlv
          have hd7 : decide (cf x7 y7 < 0) = true := decide_eq_true hv7
          clear hx7 hy7 hiN7 hjN7
          (try go_wp2_with fail)
          go_quiet_grown (first | (go_at_fn g; refine Calls.grown_of (hc7 _ _)))
          have S2 : Aside (SW enc w0 blk off d (grow (wr.drewN nq) osq)) := S1.out.grown nq osq
          clear l7a l7b hc7 S1
          generalize grow (wr.drewN nq) osq = w2 at S2 ⊢
          clear nq osq
          clear ea7 ec7
          go_wp2
          go_roundg (c - s)
          case measure => omega
          case rel => exact ⟨s, c, rfl, by first | rfl | (congr 1; omega), by omega, by omega, by omega, Nat.le_refl _, S2, (show Hid _ from by
            obtain ⟨kk, hk, hy⟩ := hbs.out
            obtain ⟨k', rfl⟩ : ∃ k', kk = k' + 1 := ⟨kk - 1, by omega⟩
            rw [syS, if_pos hlt, ← HH.out, ← HQ.out, if_pos hlv] at hy
            exact ⟨k', by omega, hy⟩)⟩
        | false =>
          obtain ⟨iN8, hiN8⟩ : ∃ q_, q_ = q := ⟨_, rfl⟩
          obtain ⟨jN8, hjN8⟩ : ∃ q_, q_ = c := ⟨_, rfl⟩
          have ea8 : ((q : Int)).toNat = iN8 := by omega
          have pa8 : (0 : Int) ≤ (q : Int) := by omega
          have ba8 : (q : Int) < (d.size : Int) := by omega
          have ra8 : IntKind.i64.wrap ((q : Int)) = (q : Int) := by rw [IntKind.wrap_i64]; omega
          have ec8 : ((c : Int)).toNat = jN8 := by omega
          have pc8 : (0 : Int) ≤ (c : Int) := by omega
          have bc8 : (c : Int) < (d.size : Int) := by omega
          have rc8 : IntKind.i64.wrap ((c : Int)) = (c : Int) := by rw [IntKind.wrap_i64]; omega
          obtain ⟨x8, hx8⟩ : ∃ x, x = d[q]! := ⟨_, rfl⟩
          obtain ⟨y8, hy8⟩ : ∃ x, x = d[c]! := ⟨_, rfl⟩
          have l8a := S1.out.cl R (by omega) (q) (by omega)
          have l8b := S1.out.cl R (by omega) (c) (by omega)
          rw [← hx8, ← hiN8] at l8a
          rw [← hy8, ← hjN8] at l8b
          have hc8 := S1.out.cmp HC.out (by omega) x8 y8
          have hv8 : ¬ cf x8 y8 < 0 := by rw [hx8, hy8]; exact of_decide_eq_false hlv
          have hd8 : decide (cf x8 y8 < 0) = false := decide_eq_false hv8
          clear hx8 hy8 hiN8 hjN8
          (try go_wp2_with fail)
          go_quiet_grown (first | (go_at_fn g; refine Calls.grown_of (hc8 _ _)))
          have S2 : Aside (SW enc w0 blk off d (grow (wr.drewN nq) osq)) := S1.out.grown nq osq
          clear l8a l8b hc8 S1
          generalize grow (wr.drewN nq) osq = w2 at S2 ⊢
          clear nq osq
          clear ea8 ec8
          go_wp2
          go_roundg (r - (c + 1))
          case measure => omega
          case rel => exact ⟨c + 1, r, by first | rfl | go_num | (congr 1; omega), rfl, by omega, by omega, by omega, Nat.le_refl _, S2, (show Hid _ from by
            obtain ⟨kk, hk, hy⟩ := hbs.out
            obtain ⟨k', rfl⟩ : ∃ k', kk = k' + 1 := ⟨kk - 1, by omega⟩
            rw [syS, if_pos hlt, ← HH.out, ← HQ.out, if_neg (by rw [hlv]; decide)] at hy
            exact ⟨k', by omega, hy⟩)⟩
      · have hltz : ¬ (s : Int) < (r : Int) := by omega
        have hI : syS (ltOf cf) d p b s0 r0 = s := by
          obtain ⟨kk, _, hy⟩ := hbs.out
          rw [← hy]
          cases kk with
          | zero => rfl
          | succ k' => rw [syS, if_neg hlt]
        clear hbs
        obtain ⟨e, he⟩ : ∃ e, e = n - s := ⟨_, rfl⟩
        have ze : (n : Int) - (s : Int) = (e : Int) := by omega
        have fe1 : e + s ≤ n := by omega
        have fe2 : n ≤ e + s := by omega
        have hI2 : n - s = e := he.symm
        clear he
        by_cases q0 : s < m
        · have qz0 : (s : Int) < (m : Int) := by omega
          by_cases k0 : m < e
          · have kz0 : (m : Int) < (e : Int) := by omega
            have H1 : s < m ∧ m < e := ⟨q0, k0⟩
            go_wp2_with fail
            refine (HROT.out s m e q0 k0 (by omega) _ S1.out).mono ?_
            rintro e0 w0x ⟨rfl, hS0⟩
            have T0 : Aside (SW enc w0 blk off (rotR m (e - s) (m - s) (e - m) d) w0x) := hS0
            have Z0 : Aside ((rotR m (e - s) (m - s) (e - m) d).size = d.size) := rotR_size _ _ _ _ _
            clear hS0 S1
            by_cases q1 : a < s
            · have qz1 : (a : Int) < (s : Int) := by omega
              by_cases k1 : s < mid
              · have kz1 : (s : Int) < (mid : Int) := by omega
                have H2 : a < s ∧ s < mid := ⟨q1, k1⟩
                go_wp2_with fail
                refine (HI.out a s mid (rotR m (e - s) (m - s) (e - m) d) _ Z0.out T0.out (by omega) q1 k1 (by omega)).mono ?_
                rintro e1 w1x ⟨rfl, hS1⟩
                have T1 : Aside (SW enc w0 blk off (rec a s mid (rotR m (e - s) (m - s) (e - m) d)) w1x) := hS1
                have Z1 : Aside ((rec a s mid (rotR m (e - s) (m - s) (e - m) d)).size = d.size) := (HRS.out _ _ _ _).trans Z0.out
                clear hS1 T0
                by_cases q2 : mid < e
                · have qz2 : (mid : Int) < (e : Int) := by omega
                  by_cases k2 : e < b
                  · have kz2 : (e : Int) < (b : Int) := by omega
                    have H3 : mid < e ∧ e < b := ⟨q2, k2⟩
                    go_wp2_with fail
                    refine (HI.out mid e b (rec a s mid (rotR m (e - s) (m - s) (e - m) d)) _ Z1.out T1.out (by omega) q2 k2 (by omega)).mono ?_
                    rintro e2 w2x ⟨rfl, hS2⟩
                    have T2 : Aside (SW enc w0 blk off (rec mid e b (rec a s mid (rotR m (e - s) (m - s) (e - m) d))) w2x) := hS2
                    have Z2 : Aside ((rec mid e b (rec a s mid (rotR m (e - s) (m - s) (e - m) d))).size = d.size) := (HRS.out _ _ _ _).trans Z1.out
                    clear hS2 T1
                    go_wp2
                    first | go_end0 | ((try simp only [Exit.inBlock, Exit.then]); refine bodyPost_ret (results_none rfl _ _ _) rfl ?_)
                    refine ⟨rfl, ?_⟩
                    (try rw [hI])
                    (try rw [hI2])
                    unfold symT
                    simp only [if_pos H1, if_pos H2, if_pos H3]
                    exact T2.out
                  · have kz2 : ¬ (e : Int) < (b : Int) := by omega
                    have H3 : ¬ (mid < e ∧ e < b) := by omega
                    have Z2 : Aside ((rec a s mid (rotR m (e - s) (m - s) (e - m) d)).size = d.size) := Z1
                    go_wp2
                    first | go_end0 | ((try simp only [Exit.inBlock, Exit.then]); refine bodyPost_ret (results_none rfl _ _ _) rfl ?_)
                    refine ⟨rfl, ?_⟩
                    (try rw [hI])
                    (try rw [hI2])
                    unfold symT
                    simp only [if_pos H1, if_pos H2, if_neg H3]
                    exact T1.out
                · have qz2 : ¬ (mid : Int) < (e : Int) := by omega
                  have H3 : ¬ (mid < e ∧ e < b) := by omega
                  have Z2 : Aside ((rec a s mid (rotR m (e - s) (m - s) (e - m) d)).size = d.size) := Z1
                  go_wp2
                  first | go_end0 | ((try simp only [Exit.inBlock, Exit.then]); refine bodyPost_ret (results_none rfl _ _ _) rfl ?_)
                  refine ⟨rfl, ?_⟩
                  (try rw [hI])
                  (try rw [hI2])
                  unfold symT
                  simp only [if_pos H1, if_pos H2, if_neg H3]
                  exact T1.out
              · have kz1 : ¬ (s : Int) < (mid : Int) := by omega
                have H2 : ¬ (a < s ∧ s < mid) := by omega
                have Z1 : Aside ((rotR m (e - s) (m - s) (e - m) d).size = d.size) := Z0
                by_cases q2 : mid < e
                · have qz2 : (mid : Int) < (e : Int) := by omega
                  by_cases k2 : e < b
                  · have kz2 : (e : Int) < (b : Int) := by omega
                    have H3 : mid < e ∧ e < b := ⟨q2, k2⟩
                    go_wp2_with fail
                    refine (HI.out mid e b (rotR m (e - s) (m - s) (e - m) d) _ Z1.out T0.out (by omega) q2 k2 (by omega)).mono ?_
                    rintro e2 w2x ⟨rfl, hS2⟩
                    have T2 : Aside (SW enc w0 blk off (rec mid e b (rotR m (e - s) (m - s) (e - m) d)) w2x) := hS2
                    have Z2 : Aside ((rec mid e b (rotR m (e - s) (m - s) (e - m) d)).size = d.size) := (HRS.out _ _ _ _).trans Z1.out
                    clear hS2 T0
                    go_wp2
                    first | go_end0 | ((try simp only [Exit.inBlock, Exit.then]); refine bodyPost_ret (results_none rfl _ _ _) rfl ?_)
                    refine ⟨rfl, ?_⟩
                    (try rw [hI])
                    (try rw [hI2])
                    unfold symT
                    simp only [if_pos H1, if_neg H2, if_pos H3]
                    exact T2.out
                  · have kz2 : ¬ (e : Int) < (b : Int) := by omega
                    have H3 : ¬ (mid < e ∧ e < b) := by omega
                    have Z2 : Aside ((rotR m (e - s) (m - s) (e - m) d).size = d.size) := Z1
                    go_wp2
                    first | go_end0 | ((try simp only [Exit.inBlock, Exit.then]); refine bodyPost_ret (results_none rfl _ _ _) rfl ?_)
                    refine ⟨rfl, ?_⟩
                    (try rw [hI])
                    (try rw [hI2])
                    unfold symT
                    simp only [if_pos H1, if_neg H2, if_neg H3]
                    exact T0.out
                · have qz2 : ¬ (mid : Int) < (e : Int) := by omega
                  have H3 : ¬ (mid < e ∧ e < b) := by omega
                  have Z2 : Aside ((rotR m (e - s) (m - s) (e - m) d).size = d.size) := Z1
                  go_wp2
                  first | go_end0 | ((try simp only [Exit.inBlock, Exit.then]); refine bodyPost_ret (results_none rfl _ _ _) rfl ?_)
                  refine ⟨rfl, ?_⟩
                  (try rw [hI])
                  (try rw [hI2])
                  unfold symT
                  simp only [if_pos H1, if_neg H2, if_neg H3]
                  exact T0.out
            · have qz1 : ¬ (a : Int) < (s : Int) := by omega
              have H2 : ¬ (a < s ∧ s < mid) := by omega
              have Z1 : Aside ((rotR m (e - s) (m - s) (e - m) d).size = d.size) := Z0
              by_cases q2 : mid < e
              · have qz2 : (mid : Int) < (e : Int) := by omega
                by_cases k2 : e < b
                · have kz2 : (e : Int) < (b : Int) := by omega
                  have H3 : mid < e ∧ e < b := ⟨q2, k2⟩
                  go_wp2_with fail
                  refine (HI.out mid e b (rotR m (e - s) (m - s) (e - m) d) _ Z1.out T0.out (by omega) q2 k2 (by omega)).mono ?_
                  rintro e2 w2x ⟨rfl, hS2⟩
                  have T2 : Aside (SW enc w0 blk off (rec mid e b (rotR m (e - s) (m - s) (e - m) d)) w2x) := hS2
                  have Z2 : Aside ((rec mid e b (rotR m (e - s) (m - s) (e - m) d)).size = d.size) := (HRS.out _ _ _ _).trans Z1.out
                  clear hS2 T0
                  go_wp2
                  first | go_end0 | ((try simp only [Exit.inBlock, Exit.then]); refine bodyPost_ret (results_none rfl _ _ _) rfl ?_)
                  refine ⟨rfl, ?_⟩
                  (try rw [hI])
                  (try rw [hI2])
                  unfold symT
                  simp only [if_pos H1, if_neg H2, if_pos H3]
                  exact T2.out
                · have kz2 : ¬ (e : Int) < (b : Int) := by omega
                  have H3 : ¬ (mid < e ∧ e < b) := by omega
                  have Z2 : Aside ((rotR m (e - s) (m - s) (e - m) d).size = d.size) := Z1
                  go_wp2
                  first | go_end0 | ((try simp only [Exit.inBlock, Exit.then]); refine bodyPost_ret (results_none rfl _ _ _) rfl ?_)
                  refine ⟨rfl, ?_⟩
                  (try rw [hI])
                  (try rw [hI2])
                  unfold symT
                  simp only [if_pos H1, if_neg H2, if_neg H3]
                  exact T0.out
              · have qz2 : ¬ (mid : Int) < (e : Int) := by omega
                have H3 : ¬ (mid < e ∧ e < b) := by omega
                have Z2 : Aside ((rotR m (e - s) (m - s) (e - m) d).size = d.size) := Z1
                go_wp2
                first | go_end0 | ((try simp only [Exit.inBlock, Exit.then]); refine bodyPost_ret (results_none rfl _ _ _) rfl ?_)
                refine ⟨rfl, ?_⟩
                (try rw [hI])
                (try rw [hI2])
                unfold symT
                simp only [if_pos H1, if_neg H2, if_neg H3]
                exact T0.out
          · have kz0 : ¬ (m : Int) < (e : Int) := by omega
            have H1 : ¬ (s < m ∧ m < e) := by omega
            by_cases q1 : a < s
            · have qz1 : (a : Int) < (s : Int) := by omega
              by_cases k1 : s < mid
              · have kz1 : (s : Int) < (mid : Int) := by omega
                have H2 : a < s ∧ s < mid := ⟨q1, k1⟩
                go_wp2_with fail
                refine (HI.out a s mid d _ rfl S1.out (by omega) q1 k1 (by omega)).mono ?_
                rintro e1 w1x ⟨rfl, hS1⟩
                have T1 : Aside (SW enc w0 blk off (rec a s mid d) w1x) := hS1
                have Z1 : Aside ((rec a s mid d).size = d.size) := (HRS.out _ _ _ _).trans rfl
                clear hS1 S1
                by_cases q2 : mid < e
                · have qz2 : (mid : Int) < (e : Int) := by omega
                  by_cases k2 : e < b
                  · have kz2 : (e : Int) < (b : Int) := by omega
                    have H3 : mid < e ∧ e < b := ⟨q2, k2⟩
                    go_wp2_with fail
                    refine (HI.out mid e b (rec a s mid d) _ Z1.out T1.out (by omega) q2 k2 (by omega)).mono ?_
                    rintro e2 w2x ⟨rfl, hS2⟩
                    have T2 : Aside (SW enc w0 blk off (rec mid e b (rec a s mid d)) w2x) := hS2
                    have Z2 : Aside ((rec mid e b (rec a s mid d)).size = d.size) := (HRS.out _ _ _ _).trans Z1.out
                    clear hS2 T1
                    go_wp2
                    first | go_end0 | ((try simp only [Exit.inBlock, Exit.then]); refine bodyPost_ret (results_none rfl _ _ _) rfl ?_)
                    refine ⟨rfl, ?_⟩
                    (try rw [hI])
                    (try rw [hI2])
                    unfold symT
                    simp only [if_neg H1, if_pos H2, if_pos H3]
                    exact T2.out
                  · have kz2 : ¬ (e : Int) < (b : Int) := by omega
                    have H3 : ¬ (mid < e ∧ e < b) := by omega
                    have Z2 : Aside ((rec a s mid d).size = d.size) := Z1
                    go_wp2
                    first | go_end0 | ((try simp only [Exit.inBlock, Exit.then]); refine bodyPost_ret (results_none rfl _ _ _) rfl ?_)
                    refine ⟨rfl, ?_⟩
                    (try rw [hI])
                    (try rw [hI2])
                    unfold symT
                    simp only [if_neg H1, if_pos H2, if_neg H3]
                    exact T1.out
                · have qz2 : ¬ (mid : Int) < (e : Int) := by omega
                  have H3 : ¬ (mid < e ∧ e < b) := by omega
                  have Z2 : Aside ((rec a s mid d).size = d.size) := Z1
                  go_wp2
                  first | go_end0 | ((try simp only [Exit.inBlock, Exit.then]); refine bodyPost_ret (results_none rfl _ _ _) rfl ?_)
                  refine ⟨rfl, ?_⟩
                  (try rw [hI])
                  (try rw [hI2])
                  unfold symT
                  simp only [if_neg H1, if_pos H2, if_neg H3]
                  exact T1.out
              · have kz1 : ¬ (s : Int) < (mid : Int) := by omega
                have H2 : ¬ (a < s ∧ s < mid) := by omega
                by_cases q2 : mid < e
                · have qz2 : (mid : Int) < (e : Int) := by omega
                  by_cases k2 : e < b
                  · have kz2 : (e : Int) < (b : Int) := by omega
                    have H3 : mid < e ∧ e < b := ⟨q2, k2⟩
                    go_wp2_with fail
                    refine (HI.out mid e b d _ rfl S1.out (by omega) q2 k2 (by omega)).mono ?_
                    rintro e2 w2x ⟨rfl, hS2⟩
                    have T2 : Aside (SW enc w0 blk off (rec mid e b d) w2x) := hS2
                    have Z2 : Aside ((rec mid e b d).size = d.size) := (HRS.out _ _ _ _).trans rfl
                    clear hS2 S1
                    go_wp2
                    first | go_end0 | ((try simp only [Exit.inBlock, Exit.then]); refine bodyPost_ret (results_none rfl _ _ _) rfl ?_)
                    refine ⟨rfl, ?_⟩
                    (try rw [hI])
                    (try rw [hI2])
                    unfold symT
                    simp only [if_neg H1, if_neg H2, if_pos H3]
                    exact T2.out
                  · have kz2 : ¬ (e : Int) < (b : Int) := by omega
                    have H3 : ¬ (mid < e ∧ e < b) := by omega
                    go_wp2
                    first | go_end0 | ((try simp only [Exit.inBlock, Exit.then]); refine bodyPost_ret (results_none rfl _ _ _) rfl ?_)
                    refine ⟨rfl, ?_⟩
                    (try rw [hI])
                    (try rw [hI2])
                    unfold symT
                    simp only [if_neg H1, if_neg H2, if_neg H3]
                    exact S1.out
                · have qz2 : ¬ (mid : Int) < (e : Int) := by omega
                  have H3 : ¬ (mid < e ∧ e < b) := by omega
                  go_wp2
                  first | go_end0 | ((try simp only [Exit.inBlock, Exit.then]); refine bodyPost_ret (results_none rfl _ _ _) rfl ?_)
                  refine ⟨rfl, ?_⟩
                  (try rw [hI])
                  (try rw [hI2])
                  unfold symT
                  simp only [if_neg H1, if_neg H2, if_neg H3]
                  exact S1.out
            · have qz1 : ¬ (a : Int) < (s : Int) := by omega
              have H2 : ¬ (a < s ∧ s < mid) := by omega
              by_cases q2 : mid < e
              · have qz2 : (mid : Int) < (e : Int) := by omega
                by_cases k2 : e < b
                · have kz2 : (e : Int) < (b : Int) := by omega
                  have H3 : mid < e ∧ e < b := ⟨q2, k2⟩
                  go_wp2_with fail
                  refine (HI.out mid e b d _ rfl S1.out (by omega) q2 k2 (by omega)).mono ?_
                  rintro e2 w2x ⟨rfl, hS2⟩
                  have T2 : Aside (SW enc w0 blk off (rec mid e b d) w2x) := hS2
                  have Z2 : Aside ((rec mid e b d).size = d.size) := (HRS.out _ _ _ _).trans rfl
                  clear hS2 S1
                  go_wp2
                  first | go_end0 | ((try simp only [Exit.inBlock, Exit.then]); refine bodyPost_ret (results_none rfl _ _ _) rfl ?_)
                  refine ⟨rfl, ?_⟩
                  (try rw [hI])
                  (try rw [hI2])
                  unfold symT
                  simp only [if_neg H1, if_neg H2, if_pos H3]
                  exact T2.out
                · have kz2 : ¬ (e : Int) < (b : Int) := by omega
                  have H3 : ¬ (mid < e ∧ e < b) := by omega
                  go_wp2
                  first | go_end0 | ((try simp only [Exit.inBlock, Exit.then]); refine bodyPost_ret (results_none rfl _ _ _) rfl ?_)
                  refine ⟨rfl, ?_⟩
                  (try rw [hI])
                  (try rw [hI2])
                  unfold symT
                  simp only [if_neg H1, if_neg H2, if_neg H3]
                  exact S1.out
              · have qz2 : ¬ (mid : Int) < (e : Int) := by omega
                have H3 : ¬ (mid < e ∧ e < b) := by omega
                go_wp2
                first | go_end0 | ((try simp only [Exit.inBlock, Exit.then]); refine bodyPost_ret (results_none rfl _ _ _) rfl ?_)
                refine ⟨rfl, ?_⟩
                (try rw [hI])
                (try rw [hI2])
                unfold symT
                simp only [if_neg H1, if_neg H2, if_neg H3]
                exact S1.out
        · have qz0 : ¬ (s : Int) < (m : Int) := by omega
          have H1 : ¬ (s < m ∧ m < e) := by omega
          by_cases q1 : a < s
          · have qz1 : (a : Int) < (s : Int) := by omega
            by_cases k1 : s < mid
            · have kz1 : (s : Int) < (mid : Int) := by omega
              have H2 : a < s ∧ s < mid := ⟨q1, k1⟩
              go_wp2_with fail
              refine (HI.out a s mid d _ rfl S1.out (by omega) q1 k1 (by omega)).mono ?_
              rintro e1 w1x ⟨rfl, hS1⟩
              have T1 : Aside (SW enc w0 blk off (rec a s mid d) w1x) := hS1
              have Z1 : Aside ((rec a s mid d).size = d.size) := (HRS.out _ _ _ _).trans rfl
              clear hS1 S1
              by_cases q2 : mid < e
              · have qz2 : (mid : Int) < (e : Int) := by omega
                by_cases k2 : e < b
                · have kz2 : (e : Int) < (b : Int) := by omega
                  have H3 : mid < e ∧ e < b := ⟨q2, k2⟩
                  go_wp2_with fail
                  refine (HI.out mid e b (rec a s mid d) _ Z1.out T1.out (by omega) q2 k2 (by omega)).mono ?_
                  rintro e2 w2x ⟨rfl, hS2⟩
                  have T2 : Aside (SW enc w0 blk off (rec mid e b (rec a s mid d)) w2x) := hS2
                  have Z2 : Aside ((rec mid e b (rec a s mid d)).size = d.size) := (HRS.out _ _ _ _).trans Z1.out
                  clear hS2 T1
                  go_wp2
                  first | go_end0 | ((try simp only [Exit.inBlock, Exit.then]); refine bodyPost_ret (results_none rfl _ _ _) rfl ?_)
                  refine ⟨rfl, ?_⟩
                  (try rw [hI])
                  (try rw [hI2])
                  unfold symT
                  simp only [if_neg H1, if_pos H2, if_pos H3]
                  exact T2.out
                · have kz2 : ¬ (e : Int) < (b : Int) := by omega
                  have H3 : ¬ (mid < e ∧ e < b) := by omega
                  have Z2 : Aside ((rec a s mid d).size = d.size) := Z1
                  go_wp2
                  first | go_end0 | ((try simp only [Exit.inBlock, Exit.then]); refine bodyPost_ret (results_none rfl _ _ _) rfl ?_)
                  refine ⟨rfl, ?_⟩
                  (try rw [hI])
                  (try rw [hI2])
                  unfold symT
                  simp only [if_neg H1, if_pos H2, if_neg H3]
                  exact T1.out
              · have qz2 : ¬ (mid : Int) < (e : Int) := by omega
                have H3 : ¬ (mid < e ∧ e < b) := by omega
                have Z2 : Aside ((rec a s mid d).size = d.size) := Z1
                go_wp2
                first | go_end0 | ((try simp only [Exit.inBlock, Exit.then]); refine bodyPost_ret (results_none rfl _ _ _) rfl ?_)
                refine ⟨rfl, ?_⟩
                (try rw [hI])
                (try rw [hI2])
                unfold symT
                simp only [if_neg H1, if_pos H2, if_neg H3]
                exact T1.out
            · have kz1 : ¬ (s : Int) < (mid : Int) := by omega
              have H2 : ¬ (a < s ∧ s < mid) := by omega
              by_cases q2 : mid < e
              · have qz2 : (mid : Int) < (e : Int) := by omega
                by_cases k2 : e < b
                · have kz2 : (e : Int) < (b : Int) := by omega
                  have H3 : mid < e ∧ e < b := ⟨q2, k2⟩
                  go_wp2_with fail
                  refine (HI.out mid e b d _ rfl S1.out (by omega) q2 k2 (by omega)).mono ?_
                  rintro e2 w2x ⟨rfl, hS2⟩
                  have T2 : Aside (SW enc w0 blk off (rec mid e b d) w2x) := hS2
                  have Z2 : Aside ((rec mid e b d).size = d.size) := (HRS.out _ _ _ _).trans rfl
                  clear hS2 S1
                  go_wp2
                  first | go_end0 | ((try simp only [Exit.inBlock, Exit.then]); refine bodyPost_ret (results_none rfl _ _ _) rfl ?_)
                  refine ⟨rfl, ?_⟩
                  (try rw [hI])
                  (try rw [hI2])
                  unfold symT
                  simp only [if_neg H1, if_neg H2, if_pos H3]
                  exact T2.out
                · have kz2 : ¬ (e : Int) < (b : Int) := by omega
                  have H3 : ¬ (mid < e ∧ e < b) := by omega
                  go_wp2
                  first | go_end0 | ((try simp only [Exit.inBlock, Exit.then]); refine bodyPost_ret (results_none rfl _ _ _) rfl ?_)
                  refine ⟨rfl, ?_⟩
                  (try rw [hI])
                  (try rw [hI2])
                  unfold symT
                  simp only [if_neg H1, if_neg H2, if_neg H3]
                  exact S1.out
              · have qz2 : ¬ (mid : Int) < (e : Int) := by omega
                have H3 : ¬ (mid < e ∧ e < b) := by omega
                go_wp2
                first | go_end0 | ((try simp only [Exit.inBlock, Exit.then]); refine bodyPost_ret (results_none rfl _ _ _) rfl ?_)
                refine ⟨rfl, ?_⟩
                (try rw [hI])
                (try rw [hI2])
                unfold symT
                simp only [if_neg H1, if_neg H2, if_neg H3]
                exact S1.out
          · have qz1 : ¬ (a : Int) < (s : Int) := by omega
            have H2 : ¬ (a < s ∧ s < mid) := by omega
            by_cases q2 : mid < e
            · have qz2 : (mid : Int) < (e : Int) := by omega
              by_cases k2 : e < b
              · have kz2 : (e : Int) < (b : Int) := by omega
                have H3 : mid < e ∧ e < b := ⟨q2, k2⟩
                go_wp2_with fail
                refine (HI.out mid e b d _ rfl S1.out (by omega) q2 k2 (by omega)).mono ?_
                rintro e2 w2x ⟨rfl, hS2⟩
                have T2 : Aside (SW enc w0 blk off (rec mid e b d) w2x) := hS2
                have Z2 : Aside ((rec mid e b d).size = d.size) := (HRS.out _ _ _ _).trans rfl
                clear hS2 S1
                go_wp2
                first | go_end0 | ((try simp only [Exit.inBlock, Exit.then]); refine bodyPost_ret (results_none rfl _ _ _) rfl ?_)
                refine ⟨rfl, ?_⟩
                (try rw [hI])
                (try rw [hI2])
                unfold symT
                simp only [if_neg H1, if_neg H2, if_pos H3]
                exact T2.out
              · have kz2 : ¬ (e : Int) < (b : Int) := by omega
                have H3 : ¬ (mid < e ∧ e < b) := by omega
                go_wp2
                first | go_end0 | ((try simp only [Exit.inBlock, Exit.then]); refine bodyPost_ret (results_none rfl _ _ _) rfl ?_)
                refine ⟨rfl, ?_⟩
                (try rw [hI])
                (try rw [hI2])
                unfold symT
                simp only [if_neg H1, if_neg H2, if_neg H3]
                exact S1.out
            · have qz2 : ¬ (mid : Int) < (e : Int) := by omega
              have H3 : ¬ (mid < e ∧ e < b) := by omega
              go_wp2
              first | go_end0 | ((try simp only [Exit.inBlock, Exit.then]); refine bodyPost_ret (results_none rfl _ _ _) rfl ?_)
              refine ⟨rfl, ?_⟩
              (try rw [hI])
              (try rw [hI2])
              unfold symT
              simp only [if_neg H1, if_neg H2, if_neg H3]
              exact S1.out
end Go.Proofs.YtafnamchckehmaaGreatDoor.Pr
namespace Go.Proofs.YtafnamchckehmaaGreatDoor.Pr
open Go.RowKit Go.Proofs.YtafnamchckehmaaGreatDoorW.PrintWords Go.Proofs.YtafnamchckehmaaGreatDoorW.PrintLast Go.Proofs.YtafnamchckehmaaGreatDoorW.PrintMore
set_option linter.unusedVariables false
set_option linter.unusedSimpArgs false
def ruleMap (fv : Int → Int) (l : List Int) : List S48 := l.map fun s => ⟨s, fv s⟩
def ruleLoop (fv : Int → Int) : Nat → List (S48) → List Int → Int → Int → Option ((List (S48)))
  | 0, _, _, _, _ => none
  | k + 1, x5, x9, x10, x11 => if x11 < x10 then (if 0 ≤ x11 then (if x11 < (x9.length : Int) then (if x5.length < 8796093022208 then (ruleLoop fv k (x5 ++ [(⟨rd x9 x11, fv (rd x9 x11)⟩ : S48)]) x9 x10 (wrap64 (x11 + 1))) else (none)) else (none)) else (none)) else (some x5)
theorem ruleLoop_val (fv : Int → Int) (l : List Int) (hl : l.length ≤ 1048576) : ∀ (d i : Nat) (out : List S48), i + d = l.length → out.length ≤ i → ruleLoop fv (d + 1) out l (l.length : Int) (i : Int) = some (out ++ ruleMap fv (l.drop i)) := by
  intro d
  induction d with
  | zero =>
    intro i out hi ho
    unfold ruleLoop
    rw [if_neg (by omega), List.drop_of_length_le (by omega)]
    unfold ruleMap
    simp
  | succ d ih =>
    intro i out hi ho
    unfold ruleLoop
    have hlt : i < l.length := by omega
    have hrd : rd l (i : Int) = l[i] := by
      unfold rd
      rw [Int.toNat_natCast, List.getD_eq_getElem?_getD, List.getElem?_eq_getElem hlt]
      rfl
    rw [if_pos (by omega), if_pos (by omega), if_pos (by omega), if_pos (by omega), show wrap64 ((i : Int) + 1) = ((i + 1 : Nat) : Int) from by unfold wrap64; omega, ih (i + 1) _ (by omega) (by rw [List.length_append, List.length_singleton]; omega), hrd, List.append_assoc, List.drop_eq_getElem_cons hlt]
    rfl
theorem rd_memR {l : List Int} {x : Int} (h0 : 0 ≤ x) (h1 : x < (l.length : Int)) : rd l x ∈ l := by
  unfold rd
  rw [List.getD_eq_getElem?_getD, List.getElem?_eq_getElem (by omega)]
  exact List.getElem_mem _
set_option maxHeartbeats 40000000 in
set_option maxRecDepth 100000 in
theorem rulesTo_at (g : Nat) (cb : Array Value) (eg : ∀ args w, (callFunc g args).run Tryz.prog w = .ok (.enter g args) w) (fv : Int → Int) (A0 : Option Addr) (c0 : Nat) (l0 : List Int) (w : World) (hr0 : Kd.C (Kd.int .i64) w A0 l0.length l0) (hl : l0.length ≤ 1048576)
    (hp : ∀ (W : World) (x : Int), x ∈ l0 → Below w.heap.size w W → Calls Tryz.prog g (#[.int .i64 x] ++ cb) W fun e w' => e = .returned (.int .i64 (fv x)) ∧ Below W.heap.size W w') :
    Calls Tryz.prog 153 #[.slice A0 l0.length c0, .func (.func g) #[] cb] w fun e w' => ∃ v0_ : Value, e = .returned (v0_) ∧ Kd.R k48 48 w' w.heap.size (fun _ => True) v0_ (ruleMap fv l0) ∧ Below w.heap.size w w' := by
  have hu48 := Tryz.underlying48
  have HR0 := Aside0.mk hr0
  have HP := Aside0.mk hp
  have H : ruleLoop fv (l0.length + 1) ([] : List (S48)) l0 (l0.length : Int) 0 = some (ruleMap fv l0) := ruleLoop_val fv l0 hl l0.length 0 [] (by omega) (Nat.le_refl _)
  clear hr0 hp hl
  have HB := Aside0.mk (Below.refl w.heap.size w)
  generalize ruleMap fv l0 = r at *
  generalize l0.length + 1 = k at *
  have H' := Aside0.mk H
  clear H
  go_enter Tryz.func153, Tryz.ntmps153
  go_wp2_with ((with_reducible refine gw_ rfl ?_); (refine rl_ k48 48 8 ?_; intro v320 w2 ho3 hb hg_ hnew_; clear hg_ hnew_; have n0_ := Aside0.mk (Kd.R_lower ho3 (below_size (by repeat (first | (with_reducible first | exact HB.out | apply below_alloc | apply pw_below_drewN | apply below_drew1) | exact HB.out)))); have n1_ := Aside0.mk (below_step (by repeat (first | (with_reducible first | exact HB.out | apply below_alloc | apply pw_below_drewN | apply below_drew1) | exact HB.out)) hb); clear HB; have HO321 := n0_; have HB := n1_; clear n0_ n1_; clear hb ho3))
  go_loopg [5, 11] k (fun kq v5 v11 w' => ∃ (x5_1 : List (S48)) (x11_1 : Int), v11 = .int .i64 x11_1 ∧ Aside0 (ruleLoop fv kq x5_1 l0 (l0.length : Int) x11_1 = some r) ∧ Aside0 (kq ≤ k) ∧ Aside0 (Kd.R k48 48 w' w.heap.size (fun _ => True) v5 x5_1) ∧ Aside0 (Below w.heap.size w w'))
  case atStart => exact ⟨([] : List (S48)), (0), rf_, H', ⟨Nat.le_refl _⟩, ⟨by (with_reducible repeat (first | apply Kd.R_alloc | apply Kd.R_drewN | apply Kd.R_drew)); exact HO321.out⟩, ⟨by repeat (first | (with_reducible first | exact HB.out | apply below_alloc | apply pw_below_drewN | apply below_drew1) | exact HB.out)⟩⟩
  case round =>
    clear H'
    obtain ⟨x5_1, x11_1, rfl, HA, HK1, HO_5, HB⟩ := hrel
    cases gk with
    | zero => exact absurd HA.out (by simp [ruleLoop])
    | succ k1 =>
      have H := HA.out
      clear HA
      simp only [ruleLoop] at H
      by_cases c4 : x11_1 < (l0.length : Int)
      · rw [if_pos c4] at H
        have c4b0 : decide (x11_1 < (l0.length : Int)) = true := decide_eq_true c4
        by_cases c5 : 0 ≤ x11_1
        · rw [if_pos c5, if_pos c4] at H
          have HM := Aside0.mk (rd_memR c5 c4)
          clear c4
          have c5b0 : decide (0 ≤ x11_1) = true := decide_eq_true c5
          clear c5
          by_cases c8 : x5_1.length < 8796093022208
          · rw [if_pos c8] at H
            have LMc8 := Aside0.mk c8
            clear c8
            have H' := Aside0.mk H
            clear H
            have p322 : 0 ≤ (x11_1 : Int) := of_decide_eq_true (by first | (with_reducible assumption) | assumption)
            have q322 : x11_1 < (l0.length : Int) := of_decide_eq_true (by first | (with_reducible assumption) | assumption)
            obtain ⟨ad322, e322, hx322_0⟩ := Kd.at_int HR0.out x11_1 p322 q322
            cases e322
            replace hx322_0 := (HB.out.cell (World.block_lt_of_cell? w _ hx322_0)).trans hx322_0
            replace p322 := eq_true p322
            replace q322 := eq_true q322
            go_wp2_with fail
            refine (HP.out _ (rd l0 x11_1) HM.out (by repeat (first | (with_reducible first | exact HB.out | apply below_alloc | apply pw_below_drewN | apply below_drew1) | exact HB.out))).mono ?_
            rintro e w8 ⟨rfl, hb⟩
            have n0_ := Aside0.mk (Kd.R_below (by (with_reducible repeat (first | apply Kd.R_alloc | apply Kd.R_drewN | apply Kd.R_drew)); exact HO_5.out) hb)
            have n1_ := Aside0.mk (below_step (by repeat (first | (with_reducible first | exact HB.out | apply below_alloc | apply pw_below_drewN | apply below_drew1) | exact HB.out)) hb)
            clear HB HO_5
            have HO_5 := n0_
            have HB := n1_
            clear n0_ n1_ hb
            go_wp2_with (first | ((with_reducible refine gate_builtin (b := .append) (xs := #[.tmp 15, .tmp 21]) rfl ?_); at_builtin; refine Kd.R_append k48 (w0 := w) w.heap.size rfl (.tmp 15) (.tmp 21) 24 48 (.agg #[(.int .i64 0), (.int .i64 0)]) 16 rfl Tryz.underlying24 info48 rfl (by decide) (by omega) u5 x5_1 (⟨rd l0 x11_1, fv (rd l0 x11_1)⟩ : S48) [.int .i64 (rd l0 x11_1), .int .i64 (fv (rd l0 x11_1))] (fun _ => True) (fun _ => False) rfl rfl ?aP (fun _ hk => hk.elim) ?aF ?aO ?aB ?aS ?aL ?_; (case aP => exact k48_mkM _ _ _ (⟨rd l0 x11_1, fv (rd l0 x11_1)⟩ : S48)); (case aB => exact (by repeat (first | (with_reducible first | exact HB.out | apply below_alloc | apply pw_below_drewN | apply below_drew1) | exact HB.out))); (case aF => exact (fun _ _ => trivial)); (case aO => exact (by (with_reducible repeat (first | apply Kd.R_alloc | apply Kd.R_drewN | apply Kd.R_drew)); exact HO_5.out)); (case aS => exact (below_size (by repeat (first | (with_reducible first | exact HB.out | apply below_alloc | apply pw_below_drewN | apply below_drew1) | exact HB.out)))); (case aL => have := LMc8.out; omega); intro v325 w9 ho hb hg hat; have n0_ := Aside0.mk (hb); have n1_ := Aside0.mk (ho); clear HB; clear HO_5; have HB := n0_; have HO326 := n1_; clear n0_ n1_; clear ho hb hg hat))
            go_roundg k1
            case measure => have := HK1.out; omega
            case rel => exact ⟨(x5_1 ++ [(⟨rd l0 x11_1, fv (rd l0 x11_1)⟩ : S48)]), (wrap64 (x11_1 + 1)), rf_, H', ⟨by have := HK1.out; omega⟩, ⟨by (with_reducible repeat (first | apply Kd.R_alloc | apply Kd.R_drewN | apply Kd.R_drew)); exact HO326.out⟩, ⟨by repeat (first | (with_reducible first | exact HB.out | apply below_alloc | apply pw_below_drewN | apply below_drew1) | exact HB.out)⟩⟩
          · rw [if_neg c8] at H
            exact absurd H (by simp)
        · rw [if_neg c5] at H
          exact absurd H (by simp)
      · rw [if_neg c4] at H
        have c4b0 : decide (x11_1 < (l0.length : Int)) = false := decide_eq_false c4
        clear c4
        obtain rfl := Option.some.inj H
        go_wp2
        go_ret
        exact ⟨_, by first | rfl | (simp [errW_none, errW_some] <;> rfl) | (simp [*, errW_none, errW_some] <;> rfl), by (with_reducible repeat (first | apply Kd.R_alloc | apply Kd.R_drewN | apply Kd.R_drew)); exact HO_5.out, by repeat (first | (with_reducible first | exact HB.out | apply below_alloc | apply pw_below_drewN | apply below_drew1) | exact HB.out)⟩
set_option maxHeartbeats 4000000
set_option maxRecDepth 100000
def FnRb (g : Nat) (lb : Array Value) (p : S48 → Bool) (w : World) : Prop :=
  ∀ (W : World) (x : S48), Below w.heap.size w W → Calls Tryz.prog g (#[.agg #[.int .i64 x.f0, .int .i64 x.f1]] ++ lb) W fun e w' => e = .returned (.bool (p x)) ∧ Below W.heap.size W w'
theorem IndexFunc_rule (g : Nat) (lb : Array Value) (eg : ∀ args w, (callFunc g args).run Tryz.prog w = .ok (.enter g args) w) (A : Option Addr) (c : Nat) (l : List S48) (p : S48 → Bool) (w : World)
    (hr : Kd.C k48 w A l.length l) (hp : FnRb g lb p w) :
    Calls Tryz.prog 142 #[.slice A l.length c, .func (.func g) #[] lb] w fun e w' => e = .returned (.int .i64 (idxF p l)) ∧ Below w.heap.size w w' := by
  have hu := Tryz.underlying48
  have HR0 := Aside0.mk hr
  have HP := Aside0.mk hp
  clear hr hp
  go_enter Tryz.func142, Tryz.ntmps142
  go_wp2
  go_loopg [5, 8] (l.length + 1) (fun kq _ v8 w' => ∃ (x : Int), v8 = .int .i64 x ∧ Aside0 (0 ≤ x ∧ x ≤ l.length ∧ (l.length : Int) - x < kq) ∧ Aside0 (∀ j : Nat, (j : Int) < x → p (l.getD j z48) = false) ∧ Aside0 (Below w.heap.size w w'))
  case atStart => exact ⟨0, rfl, ⟨by omega⟩, ⟨fun j hj => by omega⟩, ⟨Below.refl _ _⟩⟩
  case round =>
    obtain ⟨x, rfl, HX, HN, HB⟩ := hrel
    by_cases hlt : x < (l.length : Int)
    · have c0 : decide (x < (l.length : Int)) = true := decide_eq_true hlt
      have p0 : 0 ≤ x := HX.out.1
      obtain ⟨ad, e, hx0, hx1⟩ := at_T48 HR0.out x p0 hlt
      cases e
      replace hx0 := (HB.out.cell (World.block_lt_of_cell? w _ hx0)).trans hx0
      replace hx1 := (HB.out.cell (World.block_lt_of_cell? w _ hx1)).trans hx1
      have HL := Aside0.mk hlt
      replace p0 := eq_true p0
      replace hlt := eq_true hlt
      have hcall := HP.out wr (rd_T48 l x) HB.out
      cases hq : p (rd_T48 l x) with
      | true =>
        rw [hq] at hcall
        have HQ := Aside0.mk hq
        clear hq
        go_wp2_with (go_at_fn g; refine hcall.mono ?_; rintro e w' ⟨rfl, hb⟩)
        go_ret
        have hx := HX.out
        have h1 := idxF_hit p l z48 x.toNat (by have := HL.out; omega) HQ.out (fun j hj => HN.out j (by omega))
        refine ⟨?_, below_step HB.out hb⟩
        rw [h1, Int.toNat_of_nonneg hx.1]
        rfl
      | false =>
        rw [hq] at hcall
        have HQ := Aside0.mk hq
        clear hq
        go_wp2_with (go_at_fn g; refine hcall.mono ?_; rintro e w' ⟨rfl, hb⟩)
        have hw : wrap64 (x + 1) = x + 1 := by have h1 := HX.out; have h2 := HL.out; have h3 := HR0.out.2.1; unfold wrap64; omega
        have HW := Aside0.mk hw
        clear hw
        go_roundg (gk - 1)
        case measure => have h1 := HX.out; have h2 := HL.out; omega
        case rel =>
          refine ⟨x + 1, by rw [HW.out], ⟨?_⟩, ⟨fun j hj => ?_⟩, ⟨below_step HB.out hb⟩⟩
          · have h1 := HX.out; have h2 := HL.out; omega
          · by_cases e : (j : Int) = x
            · have : j = x.toNat := by omega
              subst this
              exact HQ.out
            · exact HN.out j (by omega)
    · have c0 : decide (x < (l.length : Int)) = false := decide_eq_false hlt
      have HL := Aside0.mk hlt
      clear hlt
      go_wp2
      go_ret
      have h1 := HX.out
      have h2 := HL.out
      rw [(idxF_miss p l z48 (fun j hj => HN.out j (by omega))).1]
      exact ⟨rfl, HB.out⟩
theorem ContainsFunc_rule (g : Nat) (lb : Array Value) (eg : ∀ args w, (callFunc g args).run Tryz.prog w = .ok (.enter g args) w) (A : Option Addr) (c : Nat) (l : List S48) (p : S48 → Bool) (w : World)
    (hr : Kd.C k48 w A l.length l) (hp : FnRb g lb p w) :
    Calls Tryz.prog 167 #[.slice A l.length c, .func (.func g) #[] lb] w fun e w' => e = .returned (.bool (l.any p)) ∧ Below w.heap.size w w' := by
  have h0 := IndexFunc_rule g lb eg A c l p w hr hp
  have h1 := Aside0.mk (idxF_nonneg p l)
  clear hr hp
  go_enter Tryz.func167, Tryz.ntmps167
  go_wp2_with (go_at_call 142; refine h0.mono ?_; rintro e w' ⟨rfl, hb⟩)
  go_ret
  exact ⟨by rw [← h1.out]; rfl, hb⟩
end Go.Proofs.YtafnamchckehmaaGreatDoor.Pr
namespace Go.Proofs.YtafnamchckehmaaGreatDoor.Pr
open Go.RowKit Go.Proofs.YtafnamchckehmaaGreatDoorW.PrintWords
set_option linter.unusedVariables false
def tabLaid : List (String × DataW Unit) := [("math/bits.deBruijn64tab", Lib.tabData .u8 (Lib.deBruijn64tab.map fun n : Nat => (n : Int)))]
theorem tabLaid_at : ∀ j, j < 64 → (Lib.deBruijn64tab.map fun n : Nat => (n : Int)).getD j 0 = ((Lib.deBruijn64tab.getD j 0 : Nat) : Int) := by decide
theorem Tab64.of_laid {W : World} (h : laidMet Tryz.prog tabLaid W) : Tab64 W := by
  have ht := Lib.tabIs_of_head (g := 1) (t := 185) (e := 5) (n := 64) (by kernel_rfl) (by kernel_rfl) Tryz.underlying185 Tryz.underlying5 (by kernel_rfl) (by kernel_rfl) h
  intro j hj
  have := ht.cell (g := 1) (by kernel_rfl) j (by rw [List.length_map]; exact hj)
  rw [tabLaid_at j hj] at this
  exact this
end Go.Proofs.YtafnamchckehmaaGreatDoor.Pr
