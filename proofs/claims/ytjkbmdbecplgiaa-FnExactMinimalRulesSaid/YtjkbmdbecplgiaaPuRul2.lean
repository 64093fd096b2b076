/- Rules as pairs of sets; what 'all elements of a set are in another one' answers. No condition. -/
import Derived.Test.YtjkbmdbecplgiaaPr1
import Derived.Test.YtjkbmdbecplgiaaPuVal
namespace Go.Proofs.Ytjkbmdbecplgiaa.Pu
open Go.RowKit Go.Proofs.YtjkbmdbecplgiaaW.PrintWords Go.Proofs.YtjkbmdbecplgiaaW.PrintLast Go.Proofs.YtjkbmdbecplgiaaW.PrintMore Go.Proofs.Ytjkbmdbecplgiaa.Pr

theorem anyR_nat {r : IR} (h : anyR r = true) : r.f0 = ((toP r).1 : Int) ∧ r.f1 = ((toP r).2 : Int) ∧ (toP r).1 < 256 ∧ (toP r).2 < 256 := by
  unfold anyR at h
  rw [Bool.and_eq_true] at h
  obtain ⟨a, ha, e⟩ := isAny_nat h.1
  obtain ⟨b, hb, e'⟩ := isAny_nat h.2
  unfold toP
  simp only [e, e', Int.toNat_natCast]
  exact ⟨trivial, trivial, ha, hb⟩
theorem toR_small {l : List IR} (h : l.all anyR = true) : small (toR l) := by
  intro r hr
  obtain ⟨x, hx, rfl⟩ := List.mem_map.1 hr
  have := anyR_nat (List.all_eq_true.1 h x hx)
  exact this.2.2
theorem inSet_val {a b : Nat} (ha : a < 256) (hb : b < 256) : impl_inSet.f (a : Int) (b : Int) = some (sub a b) := by
  unfold impl_inSet.f
  rw [andNot_nat (by omega) (by omega)]
  congr 1
  rw [Bool.eq_iff_iff, beq_iff_eq]
  rw [← diff_eq_zero]
  exact_mod_cast Iff.rfl
theorem and_eq_sub {a b : Nat} (ha : a < 256) (hb : b < 256) : (Go.bits .and .i64 (a : Int) (b : Int) = (a : Int)) ↔ sub a b = true := by
  rw [and_nat (by omega) (by omega)]
  unfold sub
  rw [beq_iff_eq]
  exact_mod_cast Iff.rfl
theorem or256 {a b : Nat} (ha : a < 256) (hb : b < 256) : a ||| b < 256 := Nat.or_lt_two_pow (n := 8) ha hb
end Go.Proofs.Ytjkbmdbecplgiaa.Pu
