/- The contract of sha.message: the bytes, and what stands behind them. -/
import Derived.Test.YtjnhfmicadcmnaaDoorShaTake
import Derived.Test.YtjnhfmicadcmnaaDoorLent
namespace Go.Proofs.YtjnhfmicadcmnaaDoor.K
open Go Go.RowKit

/-- the lowest j bytes of m, the highest first -/
def low (m j : Nat) : List (BitVec 8) := (List.range j).map fun i => BitVec.ofNat 8 (m >>> (8 * (j - 1 - i)))
theorem low_length (m j : Nat) : (low m j).length = j := by simp [low]
theorem low_succ (m j : Nat) : low m (j + 1) = BitVec.ofNat 8 (m >>> (8 * j)) :: low m j := by
  rw [low, List.range_succ_eq_map, List.map_cons, List.map_map, low]
  congr 1
  apply List.map_congr_left
  intro i hi
  have := List.mem_range.1 hi
  show BitVec.ofNat 8 (m >>> (8 * (j + 1 - 1 - (i + 1)))) = _
  rw [show j + 1 - 1 - (i + 1) = j - 1 - i by omega]
theorem low_zero (m j d : Nat) (h : m >>> (8 * j) = 0) : low m (j + d) = List.replicate d 0#8 ++ low m j := by
  induction d with
  | zero => simp
  | succ d ih =>
    rw [← Nat.add_assoc, low_succ, ih, List.replicate_succ, List.cons_append]
    congr 1
    rw [Nat.mul_add, Nat.shiftRight_add, h, Nat.zero_shiftRight]
theorem be8_low (m : Nat) : M.be8 m = low m 8 := rfl
/-- the message when j bytes of the length have been written -/
def msgTo (bs : List (BitVec 8)) (j : Nat) : List (BitVec 8) := bs ++ [128#8] ++ List.replicate (M.total bs.length - bs.length - 1 - j) 0#8 ++ low (bs.length * 8) j
theorem msgTo_length (bs : List (BitVec 8)) (j : Nat) (h : j ≤ 8) : (msgTo bs j).length = M.total bs.length := by
  have := M.total_ge bs.length
  simp [msgTo, low_length]; omega
theorem msgTo_end (bs : List (BitVec 8)) (j : Nat) (h : j ≤ 8) (hz : (bs.length * 8) >>> (8 * j) = 0) : msgTo bs j = M.message bs := by
  have := M.total_ge bs.length
  have e := low_zero (bs.length * 8) j (8 - j) hz
  rw [show j + (8 - j) = 8 by omega] at e
  rw [msgTo, M.message, be8_low, e, ← List.append_assoc, List.append_assoc (bs ++ [128#8]) _ (List.replicate (8 - j) 0#8), List.replicate_append_replicate]
  rw [show M.total bs.length - bs.length - 9 + (8 - j) = M.total bs.length - bs.length - 1 - j by omega]
theorem msgTo_set (bs : List (BitVec 8)) (j : Nat) (h : j < 8) : (msgTo bs j).set (M.total bs.length - 1 - j) (BitVec.ofNat 8 ((bs.length * 8) >>> (8 * j))) = msgTo bs (j + 1) := by
  have := M.total_ge bs.length
  rw [msgTo, msgTo, low_succ]
  obtain ⟨z, hz⟩ : ∃ z, M.total bs.length - bs.length - 1 - j = z + 1 := ⟨M.total bs.length - bs.length - 1 - j - 1, by omega⟩
  rw [show M.total bs.length - bs.length - 1 - (j + 1) = z by omega, hz, List.replicate_succ', ← List.append_assoc, List.append_assoc _ [0#8], List.set_append_right _ _ (by simp; omega)]
  have e : M.total bs.length - 1 - j - (bs ++ [128#8] ++ List.replicate z 0#8).length = 0 := by simp; omega
  rw [e]
  simp
theorem splice_msg (bs : List (BitVec 8)) (T : Nat) (h : bs.length ≤ T) : splice (bv (List.replicate T 0#8)) 0 (bv bs) = bv (bs ++ List.replicate (T - bs.length) 0#8) := by
  simp [splice, bv, List.drop_replicate]
theorem msg_first (bs : List (BitVec 8)) : (bs ++ List.replicate (M.total bs.length - bs.length) 0#8).set bs.length 128#8 = msgTo bs 0 := by
  have := M.total_ge bs.length
  obtain ⟨z, hz⟩ : ∃ z, M.total bs.length - bs.length = z + 1 := ⟨M.total bs.length - bs.length - 1, by omega⟩
  rw [msgTo, hz, List.set_append_right _ _ (by simp), Nat.sub_self, List.replicate_succ]
  simp [low]

theorem first_block {w2 : World} {g : Nat} {bs : List (BitVec 8)} (h : w2.heap[g]? = some (.cells (splice (bv (List.replicate (M.total bs.length) 0#8)) 0 (bv bs)).toArray 5 (0, 0))) :
    w2.heap[g]? = some (.cells (bv (bs ++ List.replicate (M.total bs.length - bs.length) 0#8)).toArray 5 (0, 0)) ∧ w2.cell? ⟨g, bs.length, none⟩ = some (B8 0#8) ∧ w2.frozen? ⟨g, bs.length, none⟩ = false := by
  have := M.total_ge bs.length
  rw [splice_msg _ _ (by omega)] at h
  refine ⟨h, block_cell h ?_, frozen_of_row w2 _ bs.length _ _ h⟩
  rw [bv, List.getElem?_map, List.getElem?_append_right (Nat.le_refl _), Nat.sub_self, List.getElem?_replicate, if_pos (by omega)]; rfl
theorem made_block {w w1 : World} {T : Nat} (h : w1.ownsRow w.heap.size 5 1 (.slice (some ⟨w.heap.size, 0, none⟩) T T) T (madeCells (Value.int .u8 0).cells (T * 1)).toList) :
    w1.heap[w.heap.size]? = some (.cells (bv (List.replicate T 0#8)).toArray 5 (0, 0)) := by
  have e := (own_full h).2
  rw [Nat.mul_one, show (Value.int .u8 0).cells = #[Value.int .u8 0] from rfl, toList_madeCells_one] at e
  rw [e, bv, List.map_replicate]; rfl

set_option maxHeartbeats 1000000 in
theorem message_any (A : Option Addr) (n c : Nat) (bs : List (BitVec 8)) (w : World) (hr : Rd w A bs) (hn : bs.length = n) (hn2 : n ≤ 1000000000000) :
    Calls Tryd.prog 25 #[.slice A n c] w fun e w' => ∃ g, e = .returned (.slice (some ⟨g, 0, none⟩) (M.total n) (M.total n)) ∧ w.heap.size ≤ g ∧
      w'.heap[g]? = some (.cells (bv (M.message bs)).toArray 5 (0, 0)) ∧ Below w.heap.size w w' := by
  subst hn
  obtain ⟨i0, hi, hz0, hz1, hz2⟩ := info_parts infoByte
  have ht1 := M.total_ge bs.length
  have ht2 : ((M.total bs.length : Nat) : Int) = ((bs.length : Int) + 8) / 64 * 64 + 64 := by unfold M.total; omega
  have ht3 : M.total bs.length ≤ bs.length + 72 := by unfold M.total; omega
  have HT2 := Lib.hid ht2
  have HR := Lib.hid hr
  clear hr ht2
  go_enter Tryd.func25, Tryd.ntmps25
  have hpos : 0 < (bv bs).length → some (⟨w.heap.size, 0, none⟩ : Addr) = some ⟨w.heap.size, 0, none⟩ ∧ ∃ ad, A = some ad ∧ ∀ j v, (bv bs)[j]? = some v → w.cell? (ad.add j) = some v := fun h => by
    rw [bv_length] at h
    obtain ⟨b, o, e, _⟩ := HR.out.lay h
    exact ⟨rfl, _, e, HR.out.cells _ e⟩
  have HP := Lib.hid hpos
  have hmin : (bv bs).length = Nat.min bs.length (M.total bs.length) := by rw [bv_length]; exact (Nat.min_eq_left (by omega)).symm
  have HMIN := Lib.hid hmin
  have hfit : 0 + (bv bs).length ≤ (bv (List.replicate (M.total bs.length) 0#8)).length := by rw [bv_length, bv_length, List.length_replicate]; omega
  have HFIT := Lib.hid hfit
  clear hpos hmin hfit
  go_wp2_with (first
    | (at_make; refine wpList_make_full _ rfl _ _ 22 rfl w.heap.size 5 i0 (.int .u8 0) 1 Tryd.underlying22 hi hz0 hz1 _ _ _ _ (M.total bs.length) rfl rfl HT2.out.symm HT2.out.symm (by rw [hz2]; omega) (by unfold maxLen; omega) (Nat.le_refl _) ?_; intro w1 hown1 hgrow1; have hg1 := Lib.hid (made_block hown1); have hb1 := (Below.refl w.heap.size w).grown hgrow1 (Nat.le_refl _) (by simp); clear hown1)
    | (with_reducible show wpList _ _ _ (⟨some 15, _, _, _, _, _⟩ :: _) _ _; refine wpList_copy_splice rfl (.tmp 13) (.tmp 14) 22 22 rfl 5 Tryd.underlying22 (by kernel_rfl) (some ⟨w.heap.size, 0, none⟩) A (M.total bs.length) (M.total bs.length) bs.length c rfl rfl w.heap.size 0 (bv (List.replicate (M.total bs.length) 0#8)) 5 hg1.out (bv bs) HMIN.out (fun h => ⟨rfl, (HP.out h).2.imp fun ad h => ⟨h.1, fun j v hj => hgrow1.cell (h.2 j v hj) (by simp)⟩⟩) HFIT.out (bv_one bs) w.heap.size w hb1 (Nat.le_refl _) ?_; intro w2 hg2 hb2; clear hb1 hg1 hgrow1; obtain ⟨hg3, cz, fz⟩ := first_block hg2.out; have HG3 := Lib.hid hg3; clear hg3 hg2))
  have hg4 : (w2.setCell ⟨w.heap.size, bs.length, none⟩ (.int .u8 128)).heap[w.heap.size]? = some (.cells (bv (msgTo bs 0)).toArray 5 (0, 0)) := by
    have e := block_set HG3.out bs.length (B8 128#8)
    rw [← msg_first, bv, List.map_set]
    exact e
  have hb4 : Below w.heap.size w (w2.setCell ⟨w.heap.size, bs.length, none⟩ (.int .u8 128)) := hb2.setCell (Nat.le_refl _) _
  clear hb2 cz fz HG3
  generalize World.setCell w2 _ _ = w4 at *
  obtain ⟨m, hm⟩ : ∃ m, m = bs.length * 8 := ⟨_, rfl⟩
  have hml : m ≤ 8000000000000 := by omega
  have em : Value.int .u64 ((bs.length : Int) * (8 : Int)) = Value.int .u64 (((m >>> (8 * 0) : Nat)) : Int) := by simp [hm]
  have EM := Lib.hid em
  have HM := Lib.hid hm
  clear hm em
  go_loopw [4, 5] (fun k v wr => ∃ j x : Nat, j ≤ 8 ∧ k = .int .i64 ((M.total bs.length : Int) - 1 - (j : Int)) ∧ x = m >>> (8 * j) ∧ v = .int .u64 (x : Int) ∧ wr.heap[w.heap.size]? = some (.cells (bv (msgTo bs j)).toArray 5 (0, 0)) ∧ Below w.heap.size w wr) (fun k _ _ => (intOf k).toNat + 1)
  case atStart => exact ⟨0, _, by omega, by simp, rfl, EM.out, hg4, hb4⟩
  case round =>
    clear hg4 hb4
    obtain ⟨j, x, hj, rfl, hx, rfl, hg, hb⟩ := hrel
    by_cases hx0 : x = 0
    · have i1 : ¬ (0 : Int) < (x : Int) := by omega
      have d1 : decide (0 < x) = false := by simp; omega
      have HX0 := Lib.hid hx0
      have HX := Lib.hid hx
      clear hx0 hx
      go_wp2
      go_ret
      refine ⟨w.heap.size, rfl, Nat.le_refl _, ?_, hb⟩
      rw [← msgTo_end bs j hj (by rw [← HM.out, ← HX.out, HX0.out])]
      exact hg
    · have i1 : (0 : Int) < (x : Int) := by omega
      have d1 : decide (0 < x) = true := by simp; omega
      have hj8 : j < 8 := by
        rcases Nat.lt_or_ge j 8 with h | h
        · exact h
        · exfalso
          apply hx0
          rw [hx, show j = 8 by omega, Nat.shiftRight_eq_div_pow]
          exact Nat.div_eq_of_lt (by omega)
      have hx2 : x ≤ 8000000000000 := by rw [hx, Nat.shiftRight_eq_div_pow]; exact Nat.le_trans (Nat.div_le_self _ _) hml
      have i2 : (0 : Int) ≤ (M.total bs.length : Int) - 1 - (j : Int) := by omega
      have i3 : (M.total bs.length : Int) - 1 - (j : Int) < (M.total bs.length : Int) := by omega
      have cz : ∃ v, wr.cell? ⟨w.heap.size, M.total bs.length - 1 - j, none⟩ = some v := by
        have hlen := msgTo_length bs j (by omega)
        rw [cell_of_row wr _ _ _ _ _ hg, List.getElem?_toArray, List.getElem?_eq_getElem (by rw [bv_length, hlen]; omega)]
        exact ⟨_, rfl⟩
      obtain ⟨v0, cz⟩ := cz
      have fz : wr.frozen? ⟨w.heap.size, M.total bs.length - 1 - j, none⟩ = false := frozen_of_row wr _ _ _ _ hg
      have HX := Lib.hid hx; have HG := Lib.hid hg
      clear hx hx0 hg
      go_wp2
      go_roundw
      case rel =>
        refine ⟨j + 1, x / 256, by omega, by go_num, ?_, by go_num, ?_, hb.setCell (p := ⟨w.heap.size, M.total bs.length - 1 - j, none⟩) (Nat.le_refl _) _⟩
        · rw [Nat.mul_add, Nat.shiftRight_add, ← HX.out, Nat.shiftRight_eq_div_pow]
        · rw [← msgTo_set bs j hj8, bv, List.map_set, ← HM.out, ← HX.out]
          have e : Value.int .u8 ((x : Int) % 256) = B8 (BitVec.ofNat 8 x) := by
            simp [B8]
          rw [e]
          exact block_set HG.out _ _
      case measure => simp [intOf]; omega
end Go.Proofs.YtjnhfmicadcmnaaDoor.K
