/- The contract of the law's full: a letter of a kind. -/
import Derived.Test.YtdmpphioflcofaaGreatLz9
import Derived.Test.YtdmpphioflcofaaGreatLzRefLPut
namespace Go.Proofs.YtdmpphioflcofaaGreat.K
open Go Go.RowKit

/-- a letter with entries of one's own -/
def FullL (w : World) (e : Ending) (w' : World) : Prop := ∃ (l : M.Let) (A : Option Addr) (n c : Nat) (evs : List EV), e = .returned (.agg #[B8 l.kind, .int .i64 l.src, .int .i64 l.dst, .int .i64 l.term, .int .i64 l.index, .int .i64 l.was, .bool l.ok, .int .i64 l.commit, .int .i64 l.version, .slice A n c]) ∧
  l.ents = evs.map EV.e ∧ evs.length = n ∧ n ≤ 3 ∧ (∀ x ∈ evs, x.e.data.length ≤ 2) ∧ Bank w w' (evsAcc A n c evs :: evRows evs)
theorem Bank.litEs {w0 w : World} {L : List Acc} (h : Bank w0 w L) (cs : Array Value) (n : Nat) (hl : cs.size = n * 6) (hn : n ≤ 1000) : Bank w0 (w.alloc (.cells cs 42)) (⟨.slice (some ⟨w.heap.size, 0, Option.none⟩) n n, n, 42, 6, cs.toList⟩ :: L) := by
  refine (h.alloc _).add (B := w.heap.size) ⟨by rw [Array.length_toList]; exact hl, .inr ⟨w.heap.size, n, cs, rfl, Nat.le_refl _, heap_alloc_new w _, Nat.le_refl _, by unfold maxLen; omega, by omega, by rw [List.take_of_length_le (by rw [Array.length_toList]; omega)]⟩⟩ h.since.size fun p hp b hb => (h.lt hp hb).2
def fullEvs (X : Nat) : List EV := [⟨⟨1099511627776, 255#8, -1, -9, true, [1#8, 2#8]⟩, some ⟨X, 0, none⟩, 2, 2⟩, ⟨⟨0, 0#8, 0, 0, false, []⟩, none, 0, 0⟩, ⟨⟨0, 2#8, 0, 0, false, []⟩, none, 0, 0⟩]

set_option maxHeartbeats 8000000 in
set_option maxRecDepth 100000 in
theorem full0_any (w : World) : Calls Tryz.prog 12 #[.int .u8 0] w (FullL w) := by
  have hb : w.heap.size ≤ w.heap.size := Nat.le_refl _
  have HG := Lib.hid (heap_keepL (.cells #[.int .u8 0, .int .i64 7, .int .i64 1, .int .i64 1099511627776, .int .i64 0, .int .i64 0, .bool false, .int .i64 0, .int .i64 0, .slice none 0 0] 28) (heap_alloc_new w (.cells #[.int .u8 0, .int .i64 7, .int .i64 1, .int .i64 1099511627776, .int .i64 0, .int .i64 0, .bool false, .int .i64 0, .int .i64 0, .slice none 0 0] 28)))
  have HB := Lib.hid ((Bank.nil (Since.alloc (Since.alloc (Below.refl w.heap.size w) (.cells #[.int .u8 0, .int .i64 7, .int .i64 1, .int .i64 1099511627776, .int .i64 0, .int .i64 0, .bool false, .int .i64 0, .int .i64 0, .slice none 0 0] 28)) (.cells #[.int .u8 0, .int .i64 7, .int .i64 1, .int .i64 1099511627776, .int .i64 0, .int .i64 0, .bool false, .int .i64 0, .int .i64 0, .slice none 0 0] 28))).none 42 6)
  clear hb
  go_enter Tryz.func12, Tryz.ntmps12
  go_wp2_with fail
  refine bodyPost_ret (v := .agg (letL ⟨0#8, 7, 1, 1099511627776, 0, 0, false, 0, 0, []⟩ none 0 0).toArray) ?_ ?_ ?_
  · exact results_cell_row rfl _ _ w.heap.size 28 _ (0, 0) _ rfl HG.out Tryz.underlying28 rfl (infoLetL ⟨0#8, 7, 1, 1099511627776, 0, 0, false, 0, 0, []⟩ none 0 0)
  · rfl
  · exact ⟨⟨0#8, 7, 1, 1099511627776, 0, 0, false, 0, 0, []⟩, none, 0, 0, [], rfl, rfl, rfl, by omega, (by intro x hx; cases hx), HB.out⟩
set_option maxHeartbeats 8000000 in
set_option maxRecDepth 100000 in
theorem full1_any (w : World) : Calls Tryz.prog 12 #[.int .u8 1] w (FullL w) := by
  have hb : w.heap.size ≤ w.heap.size := Nat.le_refl _
  have HG := Lib.hid (heap_keepL (.cells #[.int .u8 1, .int .i64 7, .int .i64 1, .int .i64 1099511627776, .int .i64 1073741824, .int .i64 5, .bool false, .int .i64 0, .int .i64 0, .slice none 0 0] 28) (heap_alloc_new w (.cells #[.int .u8 1, .int .i64 7, .int .i64 1, .int .i64 1099511627776, .int .i64 1073741824, .int .i64 5, .bool false, .int .i64 0, .int .i64 0, .slice none 0 0] 28)))
  have HB := Lib.hid ((Bank.nil (Since.alloc (Since.alloc (Below.refl w.heap.size w) (.cells #[.int .u8 1, .int .i64 7, .int .i64 1, .int .i64 1099511627776, .int .i64 1073741824, .int .i64 5, .bool false, .int .i64 0, .int .i64 0, .slice none 0 0] 28)) (.cells #[.int .u8 1, .int .i64 7, .int .i64 1, .int .i64 1099511627776, .int .i64 1073741824, .int .i64 5, .bool false, .int .i64 0, .int .i64 0, .slice none 0 0] 28))).none 42 6)
  clear hb
  go_enter Tryz.func12, Tryz.ntmps12
  go_wp2_with fail
  refine bodyPost_ret (v := .agg (letL ⟨1#8, 7, 1, 1099511627776, 1073741824, 5, false, 0, 0, []⟩ none 0 0).toArray) ?_ ?_ ?_
  · exact results_cell_row rfl _ _ w.heap.size 28 _ (0, 0) _ rfl HG.out Tryz.underlying28 rfl (infoLetL ⟨1#8, 7, 1, 1099511627776, 1073741824, 5, false, 0, 0, []⟩ none 0 0)
  · rfl
  · exact ⟨⟨1#8, 7, 1, 1099511627776, 1073741824, 5, false, 0, 0, []⟩, none, 0, 0, [], rfl, rfl, rfl, by omega, (by intro x hx; cases hx), HB.out⟩
set_option maxHeartbeats 8000000 in
set_option maxRecDepth 100000 in
theorem full2_any (w : World) : Calls Tryz.prog 12 #[.int .u8 2] w (FullL w) := by
  have hb : w.heap.size ≤ w.heap.size := Nat.le_refl _
  have HG := Lib.hid (heap_keepL (.cells #[.int .u8 2, .int .i64 7, .int .i64 1, .int .i64 1099511627776, .int .i64 0, .int .i64 0, .bool true, .int .i64 0, .int .i64 0, .slice none 0 0] 28) (heap_alloc_new w (.cells #[.int .u8 2, .int .i64 7, .int .i64 1, .int .i64 1099511627776, .int .i64 0, .int .i64 0, .bool true, .int .i64 0, .int .i64 0, .slice none 0 0] 28)))
  have HB := Lib.hid ((Bank.nil (Since.alloc (Since.alloc (Below.refl w.heap.size w) (.cells #[.int .u8 2, .int .i64 7, .int .i64 1, .int .i64 1099511627776, .int .i64 0, .int .i64 0, .bool true, .int .i64 0, .int .i64 0, .slice none 0 0] 28)) (.cells #[.int .u8 2, .int .i64 7, .int .i64 1, .int .i64 1099511627776, .int .i64 0, .int .i64 0, .bool true, .int .i64 0, .int .i64 0, .slice none 0 0] 28))).none 42 6)
  clear hb
  go_enter Tryz.func12, Tryz.ntmps12
  go_wp2_with fail
  refine bodyPost_ret (v := .agg (letL ⟨2#8, 7, 1, 1099511627776, 0, 0, true, 0, 0, []⟩ none 0 0).toArray) ?_ ?_ ?_
  · exact results_cell_row rfl _ _ w.heap.size 28 _ (0, 0) _ rfl HG.out Tryz.underlying28 rfl (infoLetL ⟨2#8, 7, 1, 1099511627776, 0, 0, true, 0, 0, []⟩ none 0 0)
  · rfl
  · exact ⟨⟨2#8, 7, 1, 1099511627776, 0, 0, true, 0, 0, []⟩, none, 0, 0, [], rfl, rfl, rfl, by omega, (by intro x hx; cases hx), HB.out⟩
set_option maxHeartbeats 8000000 in
set_option maxRecDepth 100000 in
theorem full3_any (w : World) : Calls Tryz.prog 12 #[.int .u8 3] w (FullL w) := by
  have hb : w.heap.size ≤ w.heap.size := Nat.le_refl _
  have HG := Lib.hid (heap_keepL (.cells #[.int .i64 1099511627776, .int .u8 255, .int .i64 (-1), .int .i64 (-9), .bool true, .slice (some ⟨w.heap.size + 1 + 1, 0, none⟩) 2 2, .int .i64 0, .int .u8 0, .int .i64 0, .int .i64 0, .bool false, .slice none 0 0, .int .i64 0, .int .u8 2, .int .i64 0, .int .i64 0, .bool false, .slice none 0 0] 42) (heap_keepL (.cells #[.int .u8 1, .int .u8 2] 5) (heap_keepL (.cells #[.int .u8 3, .int .i64 7, .int .i64 1, .int .i64 1099511627776, .int .i64 3, .int .i64 1099511627776, .bool false, .int .i64 1073741824, .int .i64 0, .slice (some ⟨w.heap.size + 1 + 1 + 1, 0, none⟩) 3 3] 28) (heap_alloc_new w (.cells #[.int .u8 3, .int .i64 7, .int .i64 1, .int .i64 1099511627776, .int .i64 3, .int .i64 1099511627776, .bool false, .int .i64 1073741824, .int .i64 0, .slice (some ⟨w.heap.size + 1 + 1 + 1, 0, none⟩) 3 3] 28)))))
  have hS := Since.alloc (Since.alloc (Below.refl w.heap.size w) (.cells #[.int .u8 3, .int .i64 7, .int .i64 1, .int .i64 1099511627776, .int .i64 3, .int .i64 1099511627776, .bool false, .int .i64 1073741824, .int .i64 0, .slice (some ⟨w.heap.size + 1 + 1 + 1, 0, none⟩) 3 3] 28)) (.cells #[.int .u8 3, .int .i64 7, .int .i64 1, .int .i64 1099511627776, .int .i64 3, .int .i64 1099511627776, .bool false, .int .i64 1073741824, .int .i64 0, .slice (some ⟨w.heap.size + 1 + 1 + 1, 0, none⟩) 3 3] 28)
  have hB := Bank.litEs ((Bank.nil hS).litV #[.int .u8 1, .int .u8 2] 5 (by simp)) #[.int .i64 1099511627776, .int .u8 255, .int .i64 (-1), .int .i64 (-9), .bool true, .slice (some ⟨w.heap.size + 1 + 1, 0, none⟩) 2 2, .int .i64 0, .int .u8 0, .int .i64 0, .int .i64 0, .bool false, .slice none 0 0, .int .i64 0, .int .u8 2, .int .i64 0, .int .i64 0, .bool false, .slice none 0 0] 3 rfl (by omega)
  simp only [World.size_alloc] at hB
  have HB := Lib.hid (hB.none 5 1 |>.none 5 1)
  clear hS hB
  clear hb
  go_enter Tryz.func12, Tryz.ntmps12
  go_wp2_with fail
  refine bodyPost_ret (v := .agg (letL ⟨3#8, 7, 1, 1099511627776, 3, 1099511627776, false, 1073741824, 0, (fullEvs (w.heap.size + 1 + 1)).map EV.e⟩ (some ⟨w.heap.size + 1 + 1 + 1, 0, none⟩) 3 3).toArray) ?_ ?_ ?_
  · exact results_cell_row rfl _ _ w.heap.size 28 _ (0, 0) _ rfl HG.out Tryz.underlying28 rfl (infoLetL ⟨3#8, 7, 1, 1099511627776, 3, 1099511627776, false, 1073741824, 0, (fullEvs (w.heap.size + 1 + 1)).map EV.e⟩ (some ⟨w.heap.size + 1 + 1 + 1, 0, none⟩) 3 3)
  · rfl
  · exact ⟨⟨3#8, 7, 1, 1099511627776, 3, 1099511627776, false, 1073741824, 0, (fullEvs (w.heap.size + 1 + 1)).map EV.e⟩, _, 3, 3, fullEvs (w.heap.size + 1 + 1), rfl, rfl, rfl, by omega, (by intro x hx; simp only [fullEvs, List.mem_cons, List.mem_nil_iff, or_false] at hx; rcases hx with rfl | rfl | rfl <;> simp), HB.out.permA' (by
      refine (List.Perm.cons _ (List.Perm.swap _ _ _)).trans ?_
      exact List.Perm.swap _ _ _)⟩
set_option maxHeartbeats 8000000 in
set_option maxRecDepth 100000 in
theorem full4_any (w : World) : Calls Tryz.prog 12 #[.int .u8 4] w (FullL w) := by
  have hb : w.heap.size ≤ w.heap.size := Nat.le_refl _
  have HG := Lib.hid (heap_keepL (.cells #[.int .u8 4, .int .i64 7, .int .i64 1, .int .i64 1099511627776, .int .i64 9, .int .i64 0, .bool true, .int .i64 0, .int .i64 0, .slice none 0 0] 28) (heap_alloc_new w (.cells #[.int .u8 4, .int .i64 7, .int .i64 1, .int .i64 1099511627776, .int .i64 9, .int .i64 0, .bool true, .int .i64 0, .int .i64 0, .slice none 0 0] 28)))
  have HB := Lib.hid ((Bank.nil (Since.alloc (Since.alloc (Below.refl w.heap.size w) (.cells #[.int .u8 4, .int .i64 7, .int .i64 1, .int .i64 1099511627776, .int .i64 9, .int .i64 0, .bool true, .int .i64 0, .int .i64 0, .slice none 0 0] 28)) (.cells #[.int .u8 4, .int .i64 7, .int .i64 1, .int .i64 1099511627776, .int .i64 9, .int .i64 0, .bool true, .int .i64 0, .int .i64 0, .slice none 0 0] 28))).none 42 6)
  clear hb
  go_enter Tryz.func12, Tryz.ntmps12
  go_wp2_with fail
  refine bodyPost_ret (v := .agg (letL ⟨4#8, 7, 1, 1099511627776, 9, 0, true, 0, 0, []⟩ none 0 0).toArray) ?_ ?_ ?_
  · exact results_cell_row rfl _ _ w.heap.size 28 _ (0, 0) _ rfl HG.out Tryz.underlying28 rfl (infoLetL ⟨4#8, 7, 1, 1099511627776, 9, 0, true, 0, 0, []⟩ none 0 0)
  · rfl
  · exact ⟨⟨4#8, 7, 1, 1099511627776, 9, 0, true, 0, 0, []⟩, none, 0, 0, [], rfl, rfl, rfl, by omega, (by intro x hx; cases hx), HB.out⟩
set_option maxHeartbeats 8000000 in
set_option maxRecDepth 100000 in
theorem full5_any (w : World) : Calls Tryz.prog 12 #[.int .u8 5] w (FullL w) := by
  have hb : w.heap.size ≤ w.heap.size := Nat.le_refl _
  have HG := Lib.hid (heap_keepL (.cells #[.int .u8 5, .int .i64 7, .int .i64 1, .int .i64 0, .int .i64 0, .int .i64 0, .bool true, .int .i64 0, .int .i64 1073741824, .slice none 0 0] 28) (heap_alloc_new w (.cells #[.int .u8 5, .int .i64 7, .int .i64 1, .int .i64 0, .int .i64 0, .int .i64 0, .bool true, .int .i64 0, .int .i64 1073741824, .slice none 0 0] 28)))
  have HB := Lib.hid ((Bank.nil (Since.alloc (Since.alloc (Below.refl w.heap.size w) (.cells #[.int .u8 5, .int .i64 7, .int .i64 1, .int .i64 0, .int .i64 0, .int .i64 0, .bool true, .int .i64 0, .int .i64 1073741824, .slice none 0 0] 28)) (.cells #[.int .u8 5, .int .i64 7, .int .i64 1, .int .i64 0, .int .i64 0, .int .i64 0, .bool true, .int .i64 0, .int .i64 1073741824, .slice none 0 0] 28))).none 42 6)
  clear hb
  go_enter Tryz.func12, Tryz.ntmps12
  go_wp2_with fail
  refine bodyPost_ret (v := .agg (letL ⟨5#8, 7, 1, 0, 0, 0, true, 0, 1073741824, []⟩ none 0 0).toArray) ?_ ?_ ?_
  · exact results_cell_row rfl _ _ w.heap.size 28 _ (0, 0) _ rfl HG.out Tryz.underlying28 rfl (infoLetL ⟨5#8, 7, 1, 0, 0, 0, true, 0, 1073741824, []⟩ none 0 0)
  · rfl
  · exact ⟨⟨5#8, 7, 1, 0, 0, 0, true, 0, 1073741824, []⟩, none, 0, 0, [], rfl, rfl, rfl, by omega, (by intro x hx; cases hx), HB.out⟩
set_option maxHeartbeats 8000000 in
set_option maxRecDepth 100000 in
theorem full6_any (w : World) : Calls Tryz.prog 12 #[.int .u8 6] w (FullL w) := by
  have hb : w.heap.size ≤ w.heap.size := Nat.le_refl _
  have HG := Lib.hid (heap_keepL (.cells #[.int .u8 6, .int .i64 7, .int .i64 1, .int .i64 1099511627776, .int .i64 0, .int .i64 0, .bool false, .int .i64 0, .int .i64 0, .slice none 0 0] 28) (heap_alloc_new w (.cells #[.int .u8 6, .int .i64 7, .int .i64 1, .int .i64 1099511627776, .int .i64 0, .int .i64 0, .bool false, .int .i64 0, .int .i64 0, .slice none 0 0] 28)))
  have HB := Lib.hid ((Bank.nil (Since.alloc (Since.alloc (Below.refl w.heap.size w) (.cells #[.int .u8 6, .int .i64 7, .int .i64 1, .int .i64 1099511627776, .int .i64 0, .int .i64 0, .bool false, .int .i64 0, .int .i64 0, .slice none 0 0] 28)) (.cells #[.int .u8 6, .int .i64 7, .int .i64 1, .int .i64 1099511627776, .int .i64 0, .int .i64 0, .bool false, .int .i64 0, .int .i64 0, .slice none 0 0] 28))).none 42 6)
  clear hb
  go_enter Tryz.func12, Tryz.ntmps12
  go_wp2_with fail
  refine bodyPost_ret (v := .agg (letL ⟨6#8, 7, 1, 1099511627776, 0, 0, false, 0, 0, []⟩ none 0 0).toArray) ?_ ?_ ?_
  · exact results_cell_row rfl _ _ w.heap.size 28 _ (0, 0) _ rfl HG.out Tryz.underlying28 rfl (infoLetL ⟨6#8, 7, 1, 1099511627776, 0, 0, false, 0, 0, []⟩ none 0 0)
  · rfl
  · exact ⟨⟨6#8, 7, 1, 1099511627776, 0, 0, false, 0, 0, []⟩, none, 0, 0, [], rfl, rfl, rfl, by omega, (by intro x hx; cases hx), HB.out⟩
set_option maxHeartbeats 8000000 in
set_option maxRecDepth 100000 in
theorem full7_any (w : World) : Calls Tryz.prog 12 #[.int .u8 7] w (FullL w) := by
  have hb : w.heap.size ≤ w.heap.size := Nat.le_refl _
  have HG := Lib.hid (heap_keepL (.cells #[.int .u8 7, .int .i64 7, .int .i64 1, .int .i64 1099511627776, .int .i64 0, .int .i64 0, .bool false, .int .i64 0, .int .i64 0, .slice none 0 0] 28) (heap_alloc_new w (.cells #[.int .u8 7, .int .i64 7, .int .i64 1, .int .i64 1099511627776, .int .i64 0, .int .i64 0, .bool false, .int .i64 0, .int .i64 0, .slice none 0 0] 28)))
  have HB := Lib.hid ((Bank.nil (Since.alloc (Since.alloc (Below.refl w.heap.size w) (.cells #[.int .u8 7, .int .i64 7, .int .i64 1, .int .i64 1099511627776, .int .i64 0, .int .i64 0, .bool false, .int .i64 0, .int .i64 0, .slice none 0 0] 28)) (.cells #[.int .u8 7, .int .i64 7, .int .i64 1, .int .i64 1099511627776, .int .i64 0, .int .i64 0, .bool false, .int .i64 0, .int .i64 0, .slice none 0 0] 28))).none 42 6)
  clear hb
  go_enter Tryz.func12, Tryz.ntmps12
  go_wp2_with fail
  refine bodyPost_ret (v := .agg (letL ⟨7#8, 7, 1, 1099511627776, 0, 0, false, 0, 0, []⟩ none 0 0).toArray) ?_ ?_ ?_
  · exact results_cell_row rfl _ _ w.heap.size 28 _ (0, 0) _ rfl HG.out Tryz.underlying28 rfl (infoLetL ⟨7#8, 7, 1, 1099511627776, 0, 0, false, 0, 0, []⟩ none 0 0)
  · rfl
  · exact ⟨⟨7#8, 7, 1, 1099511627776, 0, 0, false, 0, 0, []⟩, none, 0, 0, [], rfl, rfl, rfl, by omega, (by intro x hx; cases hx), HB.out⟩
theorem full_any (k : Nat) (hk : k < 8) (w : World) : Calls Tryz.prog 12 #[.int .u8 (k : Int)] w (FullL w) := by
  rcases k with _ | _ | _ | _ | _ | _ | _ | _ | k
  · exact full0_any w
  · exact full1_any w
  · exact full2_any w
  · exact full3_any w
  · exact full4_any w
  · exact full5_any w
  · exact full6_any w
  · exact full7_any w
  · omega
end Go.Proofs.YtdmpphioflcofaaGreat.K
