/- The contracts of disk.New, known, right (at the file's name). -/
import Derived.Test.YtfpjmeknjhhakaaSqDsk
import Derived.Lib.Bytealg
import Derived.WalkSpells
import Derived.Lib.SlBytesConst
import Derived.Deep.RegionLaw
namespace Go.Proofs.Ytfpjmeknjhhakaa.K
open Go Go.RowKit Go.Maps

set_option maxRecDepth 100000 in
theorem known_nil (w : World) : Calls Try.prog 53 #[.pointer none] w fun e w' => e = .returned (.bool false) ∧ w = w' := by
  go_enter Try.func53, Try.ntmps53
  go_wp2
  go_ret
  exact ⟨rfl, rfl⟩
set_option maxRecDepth 100000 in
theorem known_any (D R : Nat) (room : Int) (w : World) (h : w.heap[D]? = some (.cells #[.map (some R), .int .i64 room] 133 (0, 0))) : Calls Try.prog 53 #[.pointer (some ⟨D, 0, none⟩)] w fun e w' => e = .returned (.bool true) ∧ w = w' := by
  have c0 := block_cell (xs := [.map (some R), .int .i64 room]) h (i := 0) rfl
  have qm : ∀ (w : World) (r : Option Nat), (binOp .neq 129 (.map r) (.map none)).run Try.prog w = .ok (.bool (!r.isNone)) w := fun w r => run_neq_map_nil w _ _ _ r Try.underlying129
  clear h
  go_enter Try.func53, Try.ntmps53
  go_wp2
  go_ret
  exact ⟨rfl, rfl⟩
/-- a disk is made -/
def NewPost (w0 : World) (L : List Acc) (room : Int) (e : Ending) (w' : World) : Prop := ∃ D R, e = .returned (.pointer (some ⟨D, 0, none⟩)) ∧ Dk w0 w' D R room none L
theorem Dk.new {w0 w : World} {L : List Acc} (h : Bank w0 w L) (room : Int) : Dk w0 ((w.alloc (.map #[] 0)).alloc (.cells #[.map (some w.heap.size), .int .i64 room] 133)) (w.heap.size + 1) w.heap.size room none L := by
  have h1 : Side w0 (w.alloc (.map #[] 0)) w.heap.size (mapObj none) L := Side.start h ((Below.refl _ _).alloc (Nat.le_refl _) _) (Nat.le_refl _) (heap_alloc_new w _)
  have h2 := h1.box #[.map (some w.heap.size), .int .i64 room] 133 (by simp)
  rw [World.size_alloc] at h2
  exact h2
set_option maxHeartbeats 1000000 in
set_option maxRecDepth 100000 in
theorem New_any (w0 w : World) (L : List Acc) (room : Int) (h : Bank w0 w L) (hr : 0 ≤ room) : Calls Try.prog 28 #[.int .i64 room] w (NewPost w0 L room) := by
  have hmm := @run_makeMap Try.prog
  have H0 := Lib.hid (show NewPost w0 L room (.returned (.pointer (some ⟨w.heap.size + 1, 0, none⟩))) _ from ⟨_, _, rfl, Dk.new h room⟩)
  have hr2 : ¬ room < 0 := by omega
  clear h
  go_enter Try.func28, Try.ntmps28
  go_wp2
  go_ret
  exact H0.out
end Go.Proofs.Ytfpjmeknjhhakaa.K
