/- What l10All and AreEquivalent answer. No condition beyond the lengths' bound. -/
import Derived.Test.YtjkbmdbecplgiaaPr7
import Derived.Test.YtjkbmdbecplgiaaPuClosed
import Derived.Test.YtjkbmdbecplgiaaGAllFollow
namespace Go.Proofs.Ytjkbmdbecplgiaa.Pu
open Go.RowKit Go.Proofs.YtjkbmdbecplgiaaW.PrintWords Go.Proofs.YtjkbmdbecplgiaaW.PrintLast Go.Proofs.YtjkbmdbecplgiaaW.PrintMore Go.Proofs.Ytjkbmdbecplgiaa.Pr

theorem and_eq_sub' {a b : Nat} (ha : a < 256) (hb : b < 256) : (Go.bits .and .i64 (b : Int) (a : Int) = (a : Int)) ↔ sub a b = true := by
  rw [and_nat (by omega) (by omega), Nat.and_comm, ← and_nat (by omega) (by omega), and_eq_sub ha hb]
theorem l10_loop (l f : List IR) (hl : l.length ≤ 9223372036854775807) (hf : f.length ≤ 9223372036854775807) (ha : l.all anyR = true) (hb : f.all anyR = true) : ∀ (rest : List IR) (i : Nat), l.drop i = rest → Ev (fun k => spec_l10All.l0 k l f (i : Int)) (rest.all (folV f)) := by
  intro rest
  induction rest with
  | nil =>
    intro i h
    have := drop_nil h
    refine Ev.step (f := fun _ => some true) (fun k => ?_) (Ev.now _)
    simp only [spec_l10All.l0]
    rw [if_neg (by omega)]
  | cons x rest ih =>
    intro i h
    obtain ⟨hi, hx, hr⟩ := drop_cons (d := z25) h
    have hax := anyR_rest h ha
    obtain ⟨e1, e2, h1, h2⟩ := anyR_nat hax
    refine Ev.step (f := fun k => (spec_l9Closed.f k f ((toP x).1 : Int)).bind fun t => if (Go.bits .and .i64 t ((toP x).2 : Int)) = ((toP x).2 : Int) then spec_l10All.l0 k l f ((i + 1 : Nat) : Int) else some false) (fun k => ?_) ?_
    · simp only [spec_l10All.l0]
      rw [if_pos (by omega), if_pos (by omega), rdR, hx, e1, e2, wrap_succ hi hl]
    · refine Ev.bind (clS_val f hf hb _ h1) ?_
      have hlt := (clo_spec (toR_small hb) h1).1
      have hv : folV f x = sub (toP x).2 (clo (toR f) (toP x).1) := by unfold folV; rw [hb, hax]; simp
      rw [List.all_cons, hv]
      cases hs : sub (toP x).2 (clo (toR f) (toP x).1) with
      | true => exact Ev.congr (fun k => by rw [if_pos ((and_eq_sub' h2 hlt).2 hs)]) (ih (i + 1) hr)
      | false => exact Ev.congr (fun k => by rw [if_neg (by rw [and_eq_sub' h2 hlt, hs]; decide)]) (Ev.now false)
theorem l10_val (l f : List IR) (hl : l.length ≤ 9223372036854775807) (hf : f.length ≤ 9223372036854775807) (ha : l.all anyR = true) (hb : f.all anyR = true) : Ev (fun k => spec_l10All.f k l f) (l.all (folV f)) := l10_loop l f hl hf ha hb l 0 rfl
end Go.Proofs.Ytjkbmdbecplgiaa.Pu
