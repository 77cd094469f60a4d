/- The contracts of disk's used and of slices.Clone for bytes. -/
import Derived.Test.YtfpjmeknjhhakaaSqDskRight
import Derived.Lib.SliceRun
namespace Go.Proofs.Ytfpjmeknjhhakaa.K
open Go Go.RowKit Go.Maps

def olen : Option Fil → Nat
  | none => 0
  | some f => f.n
set_option maxHeartbeats 1000000 in
set_option maxRecDepth 100000 in
theorem used_none (w0 w : World) (D R : Nat) (room : Int) (L : List Acc) (h : Dk w0 w D R room none L) :
    Calls Try.prog 55 #[.pointer (some ⟨D, 0, none⟩)] w fun e w' => e = .returned (.int .i64 0) ∧ Since w w' := by
  have c0 := h.c0
  have ht := Try.underlying129
  have r1 := range_one (P := Try.prog) ht h.one
  have hs : Since w (w.alloc (.mapIter (some R) 0 #[] 0)) := Since.alloc (Below.refl _ _) _
  have n1 := next_none (P := Try.prog) (ty := 0) (heap_alloc_new w (.mapIter (some R) 0 #[] 0)) (h.one.eq (hs.block R h.lt.2))
  have HS := Lib.hid hs
  clear h ht hs
  simp only [Option.map_none, oneClock] at r1
  go_enter Try.func55, Try.ntmps55
  go_wp2
  refine wp_loop_rounds 1 ?_
  rw [rounds_succ]
  go_wp2
  go_ret
  exact ⟨rfl, HS.out⟩
set_option maxHeartbeats 1000000 in
set_option maxRecDepth 100000 in
theorem used_some (w0 w : World) (D R : Nat) (room : Int) (f : Fil) (L : List Acc) (h : Dk w0 w D R room (some f) L) (hf : f.n ≤ 1000000000) :
    Calls Try.prog 55 #[.pointer (some ⟨D, 0, none⟩)] w fun e w' => e = .returned (.int .i64 (f.n : Int)) ∧ Since w w' := by
  have c0 := h.c0
  have ht := Try.underlying129
  have r1 := range_one (P := Try.prog) ht h.one
  have hs : ∀ o, Since w (w.alloc o) := fun o => Since.alloc (Below.refl _ _) o
  have hone : ∀ o, IsOne (w.alloc o) R storeS (some f.ptr) := fun o => h.one.eq ((hs o).block R h.lt.2)
  have n1 := next_one (P := Try.prog) (ty := 0) (heap_alloc_new w (.mapIter (some R) 1 #[] 1)) (hone _)
  have e1 := entry_one (P := Try.prog) (heap_alloc_new w (.mapIter (some R) 1 #[0] 1)) (hone _)
  have n2 := next_over (P := Try.prog) (ty := 0) (heap_alloc_new w (.mapIter (some R) 1 #[0] 1)) (hone _)
  rw [setBlock_allocQ] at n1
  have f0 : (w.alloc (.mapIter (some R) 1 #[0] 1)).cell? ⟨f.g, 0, none⟩ = some (.slice f.A f.n f.c) := cell_old _ h.f0
  have HS := Lib.hid (hs (.mapIter (some R) 1 #[0] 1))
  clear h ht hs hone
  simp only [Option.map_some, oneClock] at r1
  unfold Fil.ptr at n1 e1
  go_enter Try.func55, Try.ntmps55
  go_wp2
  refine wp_loop_rounds 2 ?_
  rw [rounds_succ]
  go_wp2
  rw [rounds_succ]
  go_wp2
  go_ret
  exact ⟨by simp, HS.out⟩
end Go.Proofs.Ytfpjmeknjhhakaa.K
