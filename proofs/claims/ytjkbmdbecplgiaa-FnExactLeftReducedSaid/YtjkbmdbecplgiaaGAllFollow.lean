/- impl.allFollow: do all rules of a list follow from others? No condition. -/
import Derived.Test.YtjkbmdbecplgiaaPr16
import Derived.Test.YtjkbmdbecplgiaaGIdxRule
import Derived.Test.YtjkbmdbecplgiaaPuClosed
namespace Go.Proofs.Ytjkbmdbecplgiaa.Pr
open Go.RowKit Go.Proofs.YtjkbmdbecplgiaaW.PrintWords Go.Proofs.YtjkbmdbecplgiaaW.PrintLast Go.Proofs.YtjkbmdbecplgiaaW.PrintMore
set_option linter.unusedVariables false

def impl_allFollow.f (l0 l1 : List S25) : Option Bool := some (l1.all (Pu.folV l0))
theorem box_at {w w1 : World} {a : Value} {t : TypeId} (h : Below (w.alloc (.cells #[a] t)).heap.size (w.alloc (.cells #[a] t)) w1) : w1.cell? ⟨w.heap.size, 0, none⟩ = some a := by
  have h0 : (w.alloc (.cells #[a] t)).cell? ⟨w.heap.size, 0, none⟩ = some a := blk_cell (heap_alloc_new w (.cells #[a] t)) 0
  exact (h.cell (p := ⟨w.heap.size, 0, none⟩) (by simp)).trans h0
set_option maxHeartbeats 4000000 in
set_option maxRecDepth 100000 in
theorem AllFollow1_calls (l : List S25) (A : Option Addr) (c b : Nat) (x : S25) (W : World) (hc : W.cell? ⟨b, 0, none⟩ = some (.slice A l.length c)) (hr : Kd.C k25 W A l.length l) (hl : l.length ≤ c) :
    Calls Try.prog 76 #[.agg #[.int .i64 x.f0, .int .i64 x.f1], .pointer (some ⟨b, 0, none⟩)] W fun e w' => e = .returned (.bool (!Pu.folV l x)) ∧ Below W.heap.size W w' := by
  have hb : b < W.heap.size := World.block_lt_of_cell? W _ hc
  have hu := Try.underlying25
  obtain ⟨K, hK⟩ := Pu.folI_val l hr.2.1 x.f0 x.f1
  have H := Aside0.mk (hK K (Nat.le_refl _))
  have HR := Aside0.mk hr
  have HL := Aside0.mk hl
  clear hK hr hl
  go_enter Try.func76, Try.ntmps76
  go_wp2_with (go_at_call 30; refine (impl_Follows.calls K A c l x.f0 x.f1 _ _ (Kd.C_alloc HR.out _) HL.out H.out).mono ?_; rintro e w' ⟨rfl, hd⟩)
  go_ret
  exact ⟨rfl, below_step (by repeat (first | apply below_alloc | apply pw_below_drewN | apply below_drew1 | exact Below.refl _ _)) hd⟩
theorem AllFollow1_fn (l : List S25) (A : Option Addr) (c b : Nat) (w : World) (hc : w.cell? ⟨b, 0, none⟩ = some (.slice A l.length c)) (hr : Kd.C k25 w A l.length l) (hl : l.length ≤ c) : FnRb 76 #[.pointer (some ⟨b, 0, none⟩)] (fun x => !Pu.folV l x) w := by
  intro W x hb
  rw [show (#[.agg #[.int .i64 x.f0, .int .i64 x.f1]] ++ #[.pointer (some ⟨b, 0, none⟩)] : Array Value) = #[.agg #[.int .i64 x.f0, .int .i64 x.f1], .pointer (some ⟨b, 0, none⟩)] from rfl]
  exact AllFollow1_calls l A c b x W ((hb.cell (p := ⟨b, 0, none⟩) (World.block_lt_of_cell? w _ hc)).trans hc) (Kd.C_below hr hb) hl
set_option maxHeartbeats 4000000 in
set_option maxRecDepth 100000 in
theorem impl_allFollow.calls (A0 : Option Addr) (c0 : Nat) (l0 : List S25) (A1 : Option Addr) (c1 : Nat) (l1 : List S25) (r : Bool) (w : World) (hr0 : Kd.C k25 w A0 l0.length l0) (hc0 : l0.length ≤ c0) (hr1 : Kd.C k25 w A1 l1.length l1) (hc1 : l1.length ≤ c1) (h : impl_allFollow.f l0 l1 = some r) :
    Calls Try.prog 65 #[.slice A0 l0.length c0, .slice A1 l1.length c1] w fun e w' => e = .returned (.bool r) ∧ Below w.heap.size w w' := by
  obtain rfl := Option.some.inj h
  clear h
  have HR0 := Aside0.mk hr0
  have HR1 := Aside0.mk hr1
  have HC0 := Aside0.mk hc0
  have eg : ∀ args w, (callFunc 76 args).run Try.prog w = .ok (.enter 76 args) w := enters_of Try.func76 (by kernel_rfl) rfl
  have h1 : Aside0 ((!(l1.any fun r => !Pu.folV l0 r)) = l1.all (Pu.folV l0)) := ⟨by rw [List.all_eq_not_any_not]⟩
  have HA := Aside0.mk (below_alloc (Below.refl w.heap.size w) (.cells #[.slice A0 l0.length c0] 31))
  have HX := Aside0.mk (ContainsFunc_rule 76 #[.pointer (some ⟨w.heap.size, 0, none⟩)] eg A1 c1 l1 (fun x => !Pu.folV l0 x) (w.alloc (.cells #[.slice A0 l0.length c0] 31)) (Kd.C_below HR1.out HA.out)
    (AllFollow1_fn l0 A0 c0 w.heap.size _ (box_at (Below.refl _ _)) (Kd.C_below HR0.out HA.out) HC0.out))
  clear hr0 hr1 hc0 hc1
  go_enter Try.func65, Try.ntmps65
  go_wp2_with (go_at_call 55; refine HX.out.mono ?_; rintro e w' ⟨rfl, hb⟩)
  go_ret
  exact ⟨by rw [← h1.out]; rfl, below_step HA.out hb⟩
end Go.Proofs.Ytjkbmdbecplgiaa.Pr
