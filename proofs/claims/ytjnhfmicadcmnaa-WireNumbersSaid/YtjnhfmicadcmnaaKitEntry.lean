/- The contracts of barbicankit's functions on entries: SameEntry, LentEntry, KeptEntry; and OverBytes, CopyBytes. -/
import Derived.Test.YtjnhfmicadcmnaaWireBytes
namespace Go.Proofs.Ytjnhfmicadcmnaa.K
open Go Go.RowKit

set_option maxHeartbeats 1000000 in
set_option maxRecDepth 100000 in
theorem SameEntry_eq (t v s : Int) (K : BitVec 8) (G : Bool) (A B : Option Addr) (n c m d : Nat) (bs : List (BitVec 8)) (w : World) (hx : RowRd w ⟨A, n, c⟩ bs) (hy : RowRd w ⟨B, m, d⟩ bs) (hn2 : n ≤ 4611686018427387904) :
    Calls Try.prog 31 #[.agg #[.int .i64 t, B8 K, .int .i64 v, .int .i64 s, .bool G, .slice A n c], .agg #[.int .i64 t, B8 K, .int .i64 v, .int .i64 s, .bool G, .slice B m d]] w fun e w' => e = .returned (.bool true) ∧ Below w.heap.size w w' := by
  have hb : Below w.heap.size w ((w.alloc (.cells #[.int .i64 t, B8 K, .int .i64 v, .int .i64 s, .bool G, .slice A n c] 25)).alloc (.cells #[.int .i64 t, B8 K, .int .i64 v, .int .i64 s, .bool G, .slice B m d] 25)) := ((Below.refl _ _).alloc (Nat.le_refl _) _).alloc (by simp) _
  have hx2 := hx.below hb
  have hy2 := hy.below hb
  have hnm : m ≤ 4611686018427387904 := by have := hx.len; have := hy.len; simp at *; omega
  have HX := Lib.hid hx2; have HY := Lib.hid hy2; have HB := Lib.hid hb
  clear hx hy hx2 hy2 hb
  go_enter Try.func31, Try.ntmps31
  go_wp2_with fail
  refine (SameBytes_any A B n m c d bs bs _ HX.out.rd HY.out.rd HX.out.len HY.out.len hn2 hnm).mono ?_
  rintro e w1 ⟨rfl, q, rfl⟩
  rw [decide_eq_true rfl]
  have HB2 := Lib.hid (below_drewN HB.out q)
  generalize World.drewN _ q = w2 at *
  go_wp2
  go_ret
  exact ⟨rfl, HB2.out⟩

def entL (t v s : Int) (K : BitVec 8) (G : Bool) (A : Option Addr) (n c : Nat) : List Value := [.int .i64 t, B8 K, .int .i64 v, .int .i64 s, .bool G, .slice A n c]
theorem infoEntL (t v s : Int) (K : BitVec 8) (G : Bool) (A : Option Addr) (n c : Nat) : (Try.prog.info? 25).map (·.size) = some (entL t v s K G A n c).toArray.size := by
  rw [show (entL t v s K G A n c).toArray.size = 6 from rfl]; kernel_rfl
theorem entL_one (t v s : Int) (K : BitVec 8) (G : Bool) (A : Option Addr) (n c : Nat) : (entL t v s K G A n c).toArray.all (·.oneCell') = true := by
  rw [Array.all_eq_true_iff_forall_mem]
  intro x hx
  simp only [entL, List.mem_toArray, List.mem_cons, List.mem_nil_iff, or_false] at hx
  rcases hx with rfl | rfl | rfl | rfl | rfl | rfl <;> rfl
theorem entL_size (t v s : Int) (K : BitVec 8) (G : Bool) (A : Option Addr) (n c : Nat) (t' v' s' : Int) (K' : BitVec 8) (G' : Bool) (A' : Option Addr) (n' c' : Nat) : (entL t v s K G A n c).toArray.size = (entL t' v' s' K' G' A' n' c').toArray.size := rfl
theorem infoEnt : (Try.prog.info? 25).map (·.size) = some 6 := by kernel_rfl
set_option maxHeartbeats 1000000 in
set_option maxRecDepth 100000 in
theorem LentEntry_any (t v s : Int) (K : BitVec 8) (G : Bool) (A : Option Addr) (n c : Nat) (bs : List (BitVec 8)) (w : World) (hx : RowRd w ⟨A, n, c⟩ bs) (hn2 : n ≤ 140737488000000) :
    Calls Try.prog 10 #[.agg #[.int .i64 t, B8 K, .int .i64 v, .int .i64 s, .bool G, .slice A n c]] w fun e w' => ∃ g, e = .returned (.agg #[.int .i64 t, B8 K, .int .i64 v, .int .i64 s, .bool G, .slice (some ⟨g, 0, none⟩) n (n + 12)]) ∧ w.heap.size ≤ g ∧
      w'.heap[g]? = some (.cells (bv (bs ++ marks 1 0 12)).toArray 5 (0, 0)) ∧ Below w.heap.size w w' := by
  have HX := Lib.hid hx
  clear hx
  go_enter Try.func10, Try.ntmps10
  go_wp2_with fail
  have hb0 : Below w.heap.size w ((w.alloc (.cells (entL t v s K G A n c).toArray 25)).alloc (.cells (entL 0 0 0 0#8 false none 0 0).toArray 25)) := ((Below.refl _ _).alloc (Nat.le_refl _) _).alloc (by simp) _
  have he0 := heap_alloc2_old w (.cells (entL t v s K G A n c).toArray 25) (.cells (entL 0 0 0 0#8 false none 0 0).toArray 25)
  have he1 := heap_alloc2_new w (.cells (entL t v s K G A n c).toArray 25) (.cells (entL 0 0 0 0#8 false none 0 0).toArray 25)
  have hs0 : ((w.alloc (.cells (entL t v s K G A n c).toArray 25)).alloc (.cells (entL 0 0 0 0#8 false none 0 0).toArray 25)).heap.size = w.heap.size + 2 := by simp
  have hr0 := HX.out.below hb0
  refine (LentBytes_any A n c bs _ hr0.rd hr0.len hn2 hr0.none).mono ?_
  rintro e w1 ⟨g, rfl, hg, hblk, hb1⟩
  have hg2 : w.heap.size + 2 ≤ g := by rw [← hs0]; exact hg
  have ha : w1.heap[w.heap.size]? = some (.cells (entL t v s K G A n c).toArray 25 (0, 0)) := (hb1.block _ (by rw [hs0]; omega)).trans he0
  have hc : w1.heap[w.heap.size + 1]? = some (.cells (entL 0 0 0 0#8 false none 0 0).toArray 25 (0, 0)) := (hb1.block _ (by rw [hs0]; omega)).trans he1
  have hb := hb0.trans (hb1.mono (by rw [hs0]; omega))
  have c5 : w1.cell? ⟨w.heap.size, 5, none⟩ = some (.slice A n c) := block_cell ha rfl
  have f5 : w1.frozen? ⟨w.heap.size, 5, none⟩ = false := frozen_of_row w1 _ 5 _ _ ha
  have ha2 : (w1.setCell ⟨w.heap.size, 5, none⟩ (.slice (some ⟨g, 0, none⟩) n (n + 12))).heap[w.heap.size]? = some (.cells (entL t v s K G (some ⟨g, 0, none⟩) n (n + 12)).toArray 25 (0, 0)) := block_set ha 5 _
  have hc2 := (heap_setCell_other w1 ⟨w.heap.size, 5, none⟩ (w.heap.size + 1) (.slice (some ⟨g, 0, none⟩) n (n + 12)) (by simp)).trans hc
  have hbk2 := (heap_setCell_other w1 ⟨w.heap.size, 5, none⟩ g (.slice (some ⟨g, 0, none⟩) n (n + 12)) (by simp; omega)).trans hblk
  have hb2 := hb.setCell (p := ⟨w.heap.size, 5, none⟩) (Nat.le_refl _) (.slice (some ⟨g, 0, none⟩) n (n + 12))
  have HA2 := Lib.hid ha2; have HC2 := Lib.hid hc2; have HBK2 := Lib.hid hbk2; have HB2 := Lib.hid hb2
  clear hb0 he0 he1 hs0 hr0 hg hblk hb1 ha hc hb ha2 hc2 hbk2 hb2
  go_wp2_with (first
    | (with_reducible refine wpList_store_one rfl 22 (.tmp 6) (.tmp 5) rfl ⟨w.heap.size, 5, none⟩ (.slice (some ⟨g, 0, none⟩) n (n + 12)) _ rfl rfl rfl (by kernel_rfl) c5 f5 ?_)
    | (with_reducible refine wpList_load_row rfl 25 (.tmp 1) rfl w.heap.size rfl 25 _ (0, 0) _ HA2.out Try.underlying25 rfl (infoEntL _ _ _ _ _ _ _ _) ?_)
    | (with_reducible refine wpList_store_row rfl 25 (.tmp 2) (.tmp 7) rfl (w.heap.size + 1) (entL t v s K G (some ⟨g, 0, none⟩) n (n + 12)).toArray rfl rfl 25 _ HC2.out (infoEntL t v s K G (some ⟨g, 0, none⟩) n (n + 12)) (entL_size _ _ _ _ _ _ _ _ _ _ _ _ _ _ _ _) (entL_one _ _ _ _ _ _ _ _) ?_))
  refine bodyPost_ret (v := .agg #[.int .i64 t, B8 K, .int .i64 v, .int .i64 s, .bool G, .slice (some ⟨g, 0, none⟩) n (n + 12)]) ?_ ?_ ?_
  · exact results_cell_row rfl _ _ (w.heap.size + 1) 25 _ (0, 0) _ rfl (setRow_heap _ _ _ _ _ _ HC2.out) Try.underlying25 rfl (infoEntL t v s K G (some ⟨g, 0, none⟩) n (n + 12))
  · rfl
  · exact ⟨g, rfl, by omega, (setRow_other _ _ _ _ (by omega)).trans HBK2.out, below_setRow HB2.out (by omega) _⟩

set_option maxHeartbeats 1000000 in
set_option maxRecDepth 100000 in
theorem KeptEntry_any (t v s : Int) (K : BitVec 8) (G : Bool) (g : Nat) (A : Option Addr) (n c : Nat) (bs : List (BitVec 8)) (w : World) (hg : w.heap[g]? = some (.cells (bv (bs ++ marks 1 0 12)).toArray 5 (0, 0))) (hx : RowRd w ⟨A, n, c⟩ bs) (hn2 : n ≤ 140737488000000) :
    Calls Try.prog 20 #[.agg #[.int .i64 t, B8 K, .int .i64 v, .int .i64 s, .bool G, .slice (some ⟨g, 0, none⟩) n (n + 12)], .agg #[.int .i64 t, B8 K, .int .i64 v, .int .i64 s, .bool G, .slice A n c]] w fun e w' => e = .returned (.bool true) ∧ Below w.heap.size w w' := by
  have hlt : g < w.heap.size := (Array.getElem?_eq_some_iff.1 hg).1
  have hb : Below w.heap.size w ((w.alloc (.cells #[.int .i64 t, B8 K, .int .i64 v, .int .i64 s, .bool G, .slice (some ⟨g, 0, none⟩) n (n + 12)] 25)).alloc (.cells #[.int .i64 t, B8 K, .int .i64 v, .int .i64 s, .bool G, .slice A n c] 25)) := ((Below.refl _ _).alloc (Nat.le_refl _) _).alloc (by simp) _
  have hx2 := hx.below hb
  have hg2 := (hb.block g hlt).trans hg
  have hlen : bs.length = n := hx.len
  have hx3 : RowRd ((w.alloc (.cells #[.int .i64 t, B8 K, .int .i64 v, .int .i64 s, .bool G, .slice (some ⟨g, 0, none⟩) n (n + 12)] 25)).alloc (.cells #[.int .i64 t, B8 K, .int .i64 v, .int .i64 s, .bool G, .slice A n c] 25)) ⟨some ⟨g, 0, none⟩, n, n + 12⟩ bs :=
    ⟨Rd.of_block hg2 (by rw [List.toList_toArray, bv_append, List.take_left' (bv_length bs)]), hlen, fun h => by cases h⟩
  have HX2 := Lib.hid hx2; have HX3 := Lib.hid hx3; have HG2 := Lib.hid hg2; have HB := Lib.hid hb
  clear hx hg hb hx2 hx3 hg2 hlen
  go_enter Try.func20, Try.ntmps20
  go_wp2_with fail
  refine (SameEntry_eq t v s K G (some ⟨g, 0, none⟩) A n (n + 12) n c bs _ HX3.out HX2.out (by omega)).mono ?_
  rintro e w1 ⟨rfl, hb1⟩
  have d5 : w1.cell? ⟨w.heap.size, 5, none⟩ = some (.slice (some ⟨g, 0, none⟩) n (n + 12)) := (hb1.cell (p := ⟨w.heap.size, 5, none⟩) (by simp; omega)).trans (block_cell (xs := entL t v s K G (some ⟨g, 0, none⟩) n (n + 12)) (heap_alloc2_old w _ _) rfl)
  have e5 : w1.cell? ⟨w.heap.size + 1, 5, none⟩ = some (.slice A n c) := (hb1.cell (p := ⟨w.heap.size + 1, 5, none⟩) (by simp)).trans (block_cell (xs := entL t v s K G A n c) (heap_alloc2_new w _ _) rfl)
  have HB1 := Lib.hid (HB.out.trans (hb1.mono (by simp; omega)))
  have HX4 := Lib.hid (HX2.out.below hb1)
  have HG4 := Lib.hid ((hb1.block g (by simp; omega)).trans HG2.out)
  clear hb1
  go_wp2_with fail
  refine (KeptBytes_any g A n c bs _ HG4.out HX4.out.rd HX4.out.len hn2).mono ?_
  rintro e w2 ⟨rfl, q, rfl⟩
  have HB2 := Lib.hid (below_drewN HB1.out q)
  clear d5 e5
  generalize World.drewN _ q = w2 at *
  go_wp2
  go_ret
  exact ⟨rfl, HB2.out⟩

end Go.Proofs.Ytjnhfmicadcmnaa.K
