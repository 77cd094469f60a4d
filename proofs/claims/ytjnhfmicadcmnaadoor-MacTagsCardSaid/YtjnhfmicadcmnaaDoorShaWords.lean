/- The contract of sha.words: a block's 64 words. -/
import Derived.Test.YtjnhfmicadcmnaaDoorBasic
namespace Go.Proofs.YtjnhfmicadcmnaaDoor.K
open Go Go.RowKit

theorem turn_still (x : BitVec 32) (n : Int) (w : World) (h0 : 0 < n) (h1 : n < 32) :
    Calls Tryd.prog 40 #[W32 x, .int .i64 n] w fun e w' => e = .returned (W32 (M.rot x n.toNat)) ∧ w' = w :=
  (turn_any x n w h0 h1).mono fun _ _ ⟨h, h'⟩ => ⟨h, h'.symm⟩

/-- 64 cells: the words so far, noughts behind -/
def arr64 (l : List (BitVec 32)) : List Value := l.map W32 ++ List.replicate (64 - l.length) (W32 0)
theorem arr64_length (l : List (BitVec 32)) (h : l.length ≤ 64) : (arr64 l).length = 64 := by simp [arr64]; omega
theorem arr64_at (l : List (BitVec 32)) (i : Nat) (h : i < l.length) : (arr64 l)[i]? = some (W32 (M.at32 l i)) := by
  rw [arr64, List.getElem?_append_left (by simpa using h)]
  simp [M.at32, h]
theorem arr64_zero (l : List (BitVec 32)) (i : Nat) (h : l.length ≤ i) (hi : i < 64) : (arr64 l)[i]? = some (W32 0) := by
  rw [arr64, List.getElem?_append_right (by simpa using h), List.getElem?_replicate, if_pos (by simp; omega)]
theorem arr64_set (l : List (BitVec 32)) (x : BitVec 32) (h : l.length < 64) : (arr64 l).set l.length (W32 x) = arr64 (l ++ [x]) := by
  rw [arr64, arr64, List.set_append_right _ _ (by simp), List.length_map, Nat.sub_self, List.map_append, List.append_assoc, List.length_append]
  rw [show 64 - l.length = (64 - (l.length + 1)) + 1 by omega, List.replicate_succ]
  simp

theorem arr64_one (l : List (BitVec 32)) : (arr64 l).toArray.all (·.oneCell') = true := by
  rw [Array.all_eq_true_iff_forall_mem]
  intro v hv
  rcases List.mem_append.1 (by simpa using hv : v ∈ arr64 l) with h | h
  · obtain ⟨_, _, rfl⟩ := List.mem_map.1 h; rfl
  · rw [List.eq_of_mem_replicate h]; rfl

set_option maxHeartbeats 1000000 in
set_option maxRecDepth 100000 in
theorem words_any (A : Option Addr) (n c : Nat) (bs : List (BitVec 8)) (w : World) (hr : Rd w A bs) (hn : bs.length = 64) (hc : 64 ≤ c) (hnc : n = 64) (hc2 : c ≤ 4611686018427387904) :
    Calls Tryd.prog 39 #[.slice A n c] w fun e w' => e = .returned (.agg ((M.sched bs 64).map W32).toArray) ∧ Below w.heap.size w w' := by
  subst hnc
  obtain ⟨b, o, rfl, hbl, hb0⟩ := hr.lay (by omega)
  rw [hn] at hb0
  have HB := Lib.hid hb0
  have HBL := Lib.hid hbl
  clear hr hn hb0 hbl
  go_enter Tryd.func39, Tryd.ntmps39
  go_wp2
  go_loopw [7] (fun i wr => ∃ k : Nat, k ≤ 64 ∧ i = .int .i64 k ∧ wr.heap[w.heap.size]? = some (.cells (arr64 (M.sched bs k)).toArray 77 (0, 0)) ∧ Below w.heap.size w wr) (fun i _ => 64 - (intOf i).toNat)
  case atStart => exact ⟨0, Nat.zero_le _, rfl, heap_alloc_new w _, (Below.refl _ _).alloc (Nat.le_refl _) _⟩
  case round =>
    obtain ⟨k, hk, rfl, hg, hb⟩ := hrel
    have i0 : (0 : Int) ≤ (k : Int) := by omega
    rcases Nat.lt_or_ge k 16 with h1 | h1
    · have i1 : (k : Int) < 16 := by omega
      have i2 : (k : Int) < 64 := by omega
      have c0 : wr.cell? ⟨b, o + 4 * k, none⟩ = some (B8 (M.at8 bs (4 * k))) := (hb.cell HBL.out).trans (HB.out _ (by omega))
      have c1 : wr.cell? ⟨b, o + 4 * k + 1, none⟩ = some (B8 (M.at8 bs (4 * k + 1))) := (hb.cell HBL.out).trans (HB.out (4 * k + 1) (by omega))
      have c2 : wr.cell? ⟨b, o + 4 * k + 2, none⟩ = some (B8 (M.at8 bs (4 * k + 2))) := (hb.cell HBL.out).trans (HB.out (4 * k + 2) (by omega))
      have c3 : wr.cell? ⟨b, o + 4 * k + 3, none⟩ = some (B8 (M.at8 bs (4 * k + 3))) := (hb.cell HBL.out).trans (HB.out (4 * k + 3) (by omega))
      have cz : wr.cell? ⟨w.heap.size, k, none⟩ = some (W32 0) := by rw [cell_of_row wr _ k _ _ _ hg, List.getElem?_toArray, arr64_zero _ _ (by rw [M.sched_length]; exact Nat.le_refl _) (by omega)]
      have fz : wr.frozen? ⟨w.heap.size, k, none⟩ = false := frozen_of_row wr _ k _ _ hg
      have HG := Lib.hid hg; clear hg
      go_wp2
      go_still_tail 24, (by kernel_rfl)
      change wpList _ _ _ _ _ wr.drew
      refine wpList_store_one rfl _ _ _ rfl _ _ _ rfl rfl rfl (by kernel_rfl) cz fz ?_
      go_wp2
      go_roundw
      case rel =>
        refine ⟨k + 1, by omega, by go_num, ?_, (hb.setCell (p := ⟨w.heap.size, k, none⟩) (Nat.le_refl _) _).drew⟩
        have e := arr64_set (M.sched bs k) (M.wordAt bs k) (by rw [M.sched_length]; omega)
        rw [M.sched_length] at e
        rw [M.sched, if_pos h1, ← e]
        exact block_set HG.out k _
      case measure => simp [intOf]; omega
    · rcases Nat.lt_or_ge k 64 with h2 | h2
      · have i1 : (16 : Int) ≤ (k : Int) := by omega
        have i2 : (k : Int) < 64 := by omega
        have at' : ∀ d, 0 < d → d ≤ 16 → wr.cell? ⟨w.heap.size, k - d, none⟩ = some (W32 (M.at32 (M.sched bs k) (k - d))) := fun d h0 hd => block_cell hg (arr64_at _ _ (by rw [M.sched_length]; omega))
        have c2 := at' 2 (by omega) (by omega)
        have c7 := at' 7 (by omega) (by omega)
        have c15 := at' 15 (by omega) (by omega)
        have c16 := at' 16 (by omega) (by omega)
        have cz : wr.cell? ⟨w.heap.size, k, none⟩ = some (W32 0) := block_cell hg (arr64_zero _ _ (by rw [M.sched_length]; exact Nat.le_refl _) (by omega))
        have fz : wr.frozen? ⟨w.heap.size, k, none⟩ = false := frozen_of_row wr _ k _ _ hg
        have HG := Lib.hid hg; clear hg at'
        go_wp2
        go_quiet (fail)
        go_wp2
        have f16 : IntKind.i64.wrap ((k : Int) - 16) = (k : Int) - 16 := IntWalk.i64_in _ (by omega)
        have f7 : IntKind.i64.wrap ((k : Int) - 7) = (k : Int) - 7 := IntWalk.i64_in _ (by omega)
        have g16 : ((k : Int) - 16).toNat = k - 16 := by omega
        have g7 : ((k : Int) - 7).toNat = k - 7 := by omega
        have l16 : (k : Int) - 16 < 64 := by omega
        have l7 : (k : Int) - 7 < 64 := by omega
        have m7 : (7 : Int) ≤ (k : Int) := by omega
        refine wp_region_still_tail 29 (by kernel_rfl) (by kernel_rfl) ?_
        simp only [List.take_succ_cons, List.take_zero, List.drop_succ_cons, List.drop_zero]
        change wpStill _ _ (wr.drewN (nq + 1)) _ _ _
        repeat (first | still_step | (refine wpStill_step (fun K hK => ?_); go_simp; refine ⟨_, turn_still _ _ _ (by decide) (by decide), hK _ ?_⟩; clear hK K))
        clear f16 f7 g16 g7 l16 l7 m7
        refine wpStill_nil ?_
        change wpList _ _ _ _ _ (wr.drewN (nq + 1))
        refine wpList_store_one rfl _ _ _ rfl _ _ _ rfl rfl rfl (by kernel_rfl) cz fz ?_
        go_wp2
        go_roundw
        case rel =>
          refine ⟨k + 1, by omega, by go_num, ?_, ?_⟩
          · have e := arr64_set (M.sched bs k) (M.next (M.sched bs k) k) (by rw [M.sched_length]; omega)
            rw [M.sched_length] at e
            rw [M.sched, if_neg (by omega), ← e]
            exact block_set (w := wr.drewN (nq + 1)) HG.out k _
          · exact (below_drewN hb _).setCell (p := ⟨w.heap.size, k, none⟩) (Nat.le_refl _) _
        case measure => simp [intOf]; omega
      · obtain rfl : k = 64 := by omega
        have hsz : (Tryd.prog.info? 77).map (·.size) = some (arr64 (M.sched bs 64)).toArray.size := by
          rw [List.size_toArray, arr64_length _ (by rw [M.sched_length]; exact Nat.le_refl _)]; kernel_rfl
        have HG := Lib.hid hg; clear hg
        go_wp2_with (first
          | (with_reducible refine wpList_load_row rfl 77 (.tmp 2) rfl w.heap.size rfl 77 _ (0, 0) _ HG.out Tryd.underlying77 rfl hsz ?_)
          | (with_reducible refine wpList_store_row rfl 77 (.tmp 2) (.tmp 81) rfl w.heap.size _ rfl rfl 77 _ HG.out hsz rfl (arr64_one _) ?_))
        refine bodyPost_ret (v := .agg (arr64 (M.sched bs 64)).toArray) ?_ ?_ ?_
        · exact results_cell_row rfl _ _ w.heap.size 77 _ (0, 0) _ rfl (setRow_heap wr _ _ _ _ _ HG.out) Tryd.underlying77 rfl hsz
        · rfl
        · exact ⟨by rw [arr64, M.sched_length]; simp, below_setRow hb (Nat.le_refl _) _⟩
end Go.Proofs.YtjnhfmicadcmnaaDoor.K
