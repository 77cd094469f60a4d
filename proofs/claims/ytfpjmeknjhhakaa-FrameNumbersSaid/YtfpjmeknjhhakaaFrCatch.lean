/- The deferred closure of frame.Put. -/
import Derived.Test.YtfpjmeknjhhakaaFrStart
import Derived.Laws.Pointers
namespace Go.Proofs.Ytfpjmeknjhhakaa.K
open Go Go.RowKit

theorem tmps15 (a b x : Value) : (#[a, b] ++ ((Array.replicate 13 undef).setIfInBounds 2 x).setIfInBounds 0 x) = #[a, b, x, undef, x, undef, undef, undef, undef, undef, undef, undef, undef, undef, undef] := by
  apply Array.toList_inj.1
  simp [List.replicate]
theorem catchPut_idle (p q : Addr) (w : World) :
    CallsD Try.prog 43 #[.pointer (some p), .pointer (some q)] .returning w fun e u' w' => e = .returned (.tuple #[]) ∧ u' = .returning ∧ w' = w := by
  refine callsD_of_wpS Try.func43 rfl fun c₀ cs hu => ?_
  apply wpS_seq
  apply wpS_region
  simp [wpOpsS, go_sem, recoverD, hu, Try.ntmps43, Exit.thenS]
  refine wpS_of_wp ?_
  rw [tmps15]
  go_wp2
  cases c₀
  simp_all [bodyPostS, results, Try.results43]
set_option maxHeartbeats 1000000 in
set_option maxRecDepth 100000 in
theorem catchPut_panicking (E B : Nat) (n y : Int) (v : Value) (w : World) (he : w.cell? ⟨E, 0, none⟩ = some (.int .i64 y)) (hef : w.frozen? ⟨E, 0, none⟩ = false) (hb : w.heap[B]? = some (.cells #[v] 27 (0, 0))) (hv : v.oneCell' = true) (hEB : E ≠ B) :
    CallsD Try.prog 43 #[.pointer (some ⟨E, 0, none⟩), .pointer (some ⟨B, 0, none⟩)] (.panicking (errP n)) w fun e u' w' =>
      e = .returned (.tuple #[]) ∧ u' = .panicking [{ v := .iface 28 (.int .i64 n), recovered := true }] ∧ w' = (w.setCell ⟨E, 0, none⟩ (.int .i64 n)).setCell ⟨B, 0, none⟩ (.slice none 0 0) := by
  have hta : ∀ w, (Instr.typeAssert (.iface 28 (.int .i64 n)) 20 28 true).run Try.prog w = .ok (.tuple #[.int .i64 n, .bool true]) w := fun _ => by kernel_rfl
  have hbc : (w.setCell ⟨E, 0, none⟩ (.int .i64 n)).cell? ⟨B, 0, none⟩ = some v := (World.cell?_setCell_other _ _ _ _ (fun e => hEB (by injection e))).trans (block_cell (xs := [v]) hb rfl)
  have hbf : w.frozen? ⟨B, 0, none⟩ = false := frozen_of_row w B 0 _ _ hb
  refine callsD_of_wpS Try.func43 rfl fun c₀ cs hu => ?_
  unfold errP at hu
  clear hb hv
  apply wpS_seq
  apply wpS_region
  simp [wpOpsS, go_sem, recoverD, hu, Try.ntmps43, Exit.thenS]
  refine wpS_of_wp ?_
  rw [tmps15]
  go_wp2
  cases c₀
  simp_all [bodyPostS, results, Try.results43]
end Go.Proofs.Ytfpjmeknjhhakaa.K
