/- What the law needs of the program's functions as plain functions, of the proofs that their calls answer so, and of plain laws: gathered by a program of this place (pack.py) out of its printed texts. No condition beyond what each statement says. -/
import Derived.Test.YtbflblmkdnhboaaDoorZXDirectBase15
import Derived.Test.YtbflblmkdnhboaaDoorZXDirectBase6
import Derived.Test.YtbflblmkdnhboaaDoorZXDirectBase14
import Derived.Test.YtbflblmkdnhboaaDoorZXDirectBase9
import Derived.Test.YtbflblmkdnhboaaDoorZXDirectBase16
namespace Go.Proofs.YtbflblmkdnhboaaDoor.Pu
open Go.RowKit Go.Proofs.YtbflblmkdnhboaaDoorW.PrintWords Go.Proofs.YtbflblmkdnhboaaDoorW.PrintLast Go.Proofs.YtbflblmkdnhboaaDoorW.PrintMore Go.Proofs.YtbflblmkdnhboaaDoor.Pr
def dbV (n : Int) (l : List Int) : List IR := ruleMap (fvD n l) (ppV n l)
theorem dbV_len (n : Int) (l : List Int) : (dbV n l).length ≤ 256 := by
  unfold dbV ruleMap
  rw [List.length_map]
  exact ppV_len n l
theorem ppV_ok (n : Int) (l : List Int) : okD (ppV n l) n l := by
  have hlen := ppV_len n l
  refine ⟨by omega, ?_, ?_⟩
  · unfold ppV
    cases hc : ctxB n l with
    | false => rw [if_neg (by decide)]; rfl
    | true =>
      obtain ⟨m, R, rfl, hm, rfl, _, _⟩ := ctxB_nat hc
      rw [if_pos rfl, Int.toNat_natCast, List.all_eq_true]
      intro x hx
      unfold cast at hx
      obtain ⟨y, hy, rfl⟩ := List.mem_map.1 hx
      exact isSetB_mk (by omega) ((mem_keptN (by omega)).1 hy).1
  · unfold ppV
    cases hc : ctxB n l with
    | false => rw [if_neg (by decide)]; exact Or.inl rfl
    | true => exact Or.inr rfl
theorem dbI_val (n : Int) (l : List Int) : Ev (fun k => impl_DirectBase.f k n l) (dbV n l) := by
  unfold impl_DirectBase.f
  refine Ev.bind (ppI_val n l) ?_
  unfold impl_DirectBase_rulesTo0.f
  rw [if_pos (ppV_ok n l)]
  exact Ev.now _
theorem rule_one (fv : Int → Int) (a : List Int) (x : Int) : ruleMap fv a ++ [⟨x, fv x⟩] = ruleMap fv (a ++ [x]) := by
  unfold ruleMap
  rw [List.map_append]
  rfl
theorem dbS_val (n : Int) (l : List Int) (hl : l.length ≤ 1048576) : Ev (fun k => spec_DirectBase.f k n l) (dbV n l) := by
  have hok := ppV_ok n l
  have hlen := ppV_len n l
  unfold spec_DirectBase.f dbV
  refine Ev.bind (ppS_val n l hl) ?_
  generalize ppV n l = P at hok hlen ⊢
  have loop : ∀ (rest : List Int) (i : Nat), P.drop i = rest → Ev (fun k => spec_DirectBase.l0 k (ruleMap (fvD n l) (P.take i)) P (i : Int) n l) (ruleMap (fvD n l) P) := by
    intro rest
    induction rest with
    | nil =>
      intro i h
      have := drop_nil h
      refine Ev.step (f := fun _ => some (ruleMap (fvD n l) P)) (fun k => ?_) (Ev.now _)
      simp only [spec_DirectBase.l0]
      rw [if_neg (by omega), List.take_of_length_le this]
    | cons x rest ih =>
      intro i h
      obtain ⟨hi, hx, hd⟩ := drop_cons (d := 0) h
      have hmem : x ∈ P := by
        rw [← hx, List.getD_eq_getElem?_getD, List.getElem?_eq_getElem hi]
        exact List.getElem_mem _
      have hnew : Ev (fun k => spec_l12New.f k n l x) (fvD n l x) := by
        obtain ⟨m, R, s, rfl, hm, rfl, hR, hbd, rfl, hs, _⟩ := okD_nat hok hmem
        unfold fvD
        rw [Int.toNat_natCast, Int.toNat_natCast, uncast]
        exact newS_val hm hR hbd hs
      have ht : P.take (i + 1) = P.take i ++ [x] := by
        rw [List.take_succ_eq_append_getElem hi]
        congr 2
        rw [← hx, List.getD_eq_getElem?_getD, List.getElem?_eq_getElem hi]
        rfl
      have hnext := ih (i + 1) hd
      rw [ht, ← rule_one] at hnext
      refine Ev.step (f := fun k => (spec_l12New.f k n l x).bind fun t => spec_DirectBase.l0 k (ruleMap (fvD n l) (P.take i) ++ [⟨x, t⟩]) P ((i + 1 : Nat) : Int) n l) (fun k => ?_) ?_
      · simp only [spec_DirectBase.l0]
        have hlt : (ruleMap (fvD n l) (P.take i)).length < 8796093022208 := by
          unfold ruleMap
          rw [List.length_map, List.length_take]
          omega
        simp only [if_pos hlt]
        rw [if_pos (by omega), if_pos (by omega), rd_nat, hx, wrap_succ hi (by omega)]
      · exact Ev.bind hnew hnext
  exact loop P 0 rfl
end Go.Proofs.YtbflblmkdnhboaaDoor.Pu
namespace Go.Proofs.YtbflblmkdnhboaaDoor.Pu
open Go.RowKit Go.Proofs.YtbflblmkdnhboaaDoorW.PrintWords Go.Proofs.YtbflblmkdnhboaaDoorW.PrintLast Go.Proofs.YtbflblmkdnhboaaDoorW.PrintMore Go.Proofs.YtbflblmkdnhboaaDoor.Pr
theorem FnExactDirectBase (x0 : S24) (_ : (Lit.int .i64 x0.f0).wf = true ∧ ∀ x ∈ x0.f1, (Lit.int .i64 x).wf = true) (hl : x0.f1.length ≤ 9223372036854775807) : ∃ k, laws_FnExactDirectBase.f k x0.f0 x0.f1 = some true := by
  apply Ev.rounds
  unfold laws_FnExactDirectBase.f
  obtain ⟨m, hm, hm2⟩ := szC_val x0.f0 x0.f1 hl
  rw [hm]
  simp only [Option.bind_some]
  by_cases h : m < 0
  · exact Ev.congr (fun k => by rw [if_pos h]) (Ev.now true)
  · have hle := hm2 (by omega)
    have hS := dbS_val x0.f0 x0.f1 hle
    have hI := dbI_val x0.f0 x0.f1
    have hq := dbV_len x0.f0 x0.f1
    generalize dbV x0.f0 x0.f1 = q at hS hI hq
    refine Ev.congr (fun k => by rw [if_neg h]) ?_
    refine Ev.bind (toC_val _ _ hle) ?_
    refine Ev.bind hS ?_
    refine Ev.bind (toC_val _ _ hle) ?_
    refine Ev.bind hI ?_
    refine Ev.bind (eqRule_self q (by omega)) ?_
    refine Ev.congr (fun k => by rw [if_pos rfl]) ?_
    refine Ev.bind (toC_val _ _ hle) ?_
    refine Ev.bind (eqC_self x0.f0 x0.f1 hl) ?_
    refine Ev.congr (fun k => by rw [if_pos rfl]) ?_
    refine Ev.bind (markC_val x0.f0 x0.f1 hle) ?_
    refine Ev.congr (fun k => by rw [if_neg (markC_pos _)]) ?_
    refine Ev.bind (eqRule_self q (by omega)) ?_
    refine Ev.step (fun k => by simp only [laws_FnExactDirectBase.j0]; rw [if_neg (by decide)]) ?_
    refine Ev.bind (mark_val q (by omega)) ?_
    refine Ev.bind (held_val q (by omega)) ?_
    refine Ev.congr (fun k => by rw [if_neg (mark_pos _), if_pos rfl]) ?_
    refine Ev.bind (toC_val _ _ hle) ?_
    refine Ev.bind hI ?_
    refine Ev.bind (eqRule_self q (by omega)) ?_
    refine Ev.congr (fun k => by rw [if_pos rfl]) ?_
    refine Ev.bind (held_val q (by omega)) ?_
    exact Ev.congr (fun k => by rw [if_neg (mark_pos _), if_pos rfl]) (Ev.now true)
end Go.Proofs.YtbflblmkdnhboaaDoor.Pu
