/- The contracts of mac.of and of a block's under. -/
import Derived.Test.YtjnhfmicadcmnaaDoorMacMath
import Derived.Test.YtjnhfmicadcmnaaDoorShaSum
import Derived.Test.YtjnhfmicadcmnaaDoorBank
import Derived.Deep.DeepCutAuto
namespace Go.Proofs.YtjnhfmicadcmnaaDoor.K
open Go Go.RowKit

def zer (n : Nat) : List (BitVec 8) := List.replicate n 0#8
theorem infoBlk (l : List (BitVec 8)) (h : l.length = 64) : (Tryd.prog.info? 70).map (·.size) = some (bv l).toArray.size := by
  rw [show (bv l).toArray.size = 64 by rw [List.size_toArray, bv_length, h]]; kernel_rfl
theorem infoByteSize : (Tryd.prog.info? 5).map (·.size) = some 1 := by kernel_rfl
theorem bv_all (l : List (BitVec 8)) : (bv l).toArray.all (·.oneCell') = true := by
  rw [Array.all_eq_true_iff_forall_mem]
  intro x hx
  exact bv_one l x (by simpa using hx)
theorem zer_length (n : Nat) : (zer n).length = n := by simp [zer]
theorem made_zer {w : World} {base : Nat} {e : TypeId} {v : Value} {n : Nat} (h : w.ownsRow base e 1 v n (madeCells (Value.int .u8 0).cells (n * 1)).toList) : w.ownsRow base e 1 v n (bv (zer n)) := by
  have e1 : (madeCells (Value.int .u8 0).cells (n * 1)).toList = bv (zer n) := by
    rw [show (Value.int IntKind.u8 0).cells = #[Value.int .u8 0] from rfl, Nat.mul_one, toList_madeCells_one]
    simp [bv, B8, zer]
  rw [e1] at h; exact h
theorem below_none {w w' : World} (h : w.grownBy w' none) : Below w.heap.size w w' := ⟨h.os, h.tape, h.output, h.size, fun k hk => h.block k hk (by simp)⟩
theorem blk_size (a b : List (BitVec 8)) (ha : a.length = 64) (hb : b.length = 64) : (bv a).toArray.size = (bv b).toArray.size := by rw [List.size_toArray, List.size_toArray, bv_length, bv_length, ha, hb]
theorem bv_splice (a b : List (BitVec 8)) (off : Nat) : splice (bv a) off (bv b) = bv (a.take off ++ (b ++ a.drop (off + b.length))) := by
  simp [splice, bv]
theorem block_of (key k2 : List (BitVec 8)) (h : k2 = M.keyOf key) : (zer 64).take 0 ++ (k2 ++ (zer 64).drop (0 + k2.length)) = M.macBlock key := by
  subst h
  unfold zer M.macBlock
  rw [List.take_zero, List.nil_append, Nat.zero_add, List.drop_replicate]
def OfPost (w : World) (key : List (BitVec 8)) (e : Ending) (w' : World) : Prop := e = .returned (.agg (bv (M.macBlock key)).toArray) ∧ Below w.heap.size w w'
set_option maxHeartbeats 2000000 in
set_option maxRecDepth 100000 in
theorem of_any (A : Option Addr) (n c : Nat) (key : List (BitVec 8)) (w : World) (hr : RowRd w ⟨A, n, c⟩ key) (hn2 : n ≤ 1000000000000) (hK : HasK w) (hF : HasF w) :
    Calls Tryd.prog 33 #[.slice A n c] w (OfPost w key) := by
  have hln : key.length = n := hr.len
  have hb0 : Below w.heap.size w ((w.alloc (.cells (bv (zer 64)).toArray 70)).alloc (.cells (bv (zer 64)).toArray 70)) := ((Below.refl _ _).alloc (Nat.le_refl _) _).alloc (by simp) _
  have hx0 := heap_alloc2_old w (.cells (bv (zer 64)).toArray 70) (.cells (bv (zer 64)).toArray 70)
  have hx1 := heap_alloc2_new w (.cells (bv (zer 64)).toArray 70) (.cells (bv (zer 64)).toArray 70)
  have hz2 : ((w.alloc (.cells (bv (zer 64)).toArray 70)).alloc (.cells (bv (zer 64)).toArray 70)).heap.size = w.heap.size + 2 := by simp
  have HB0 := Lib.hid hb0; have HX0 := Lib.hid hx0; have HX1 := Lib.hid hx1; have HZ2 := Lib.hid hz2
  have HK := Lib.hid (hK.below hb0); have HF := Lib.hid (hF.below hb0); have HR := Lib.hid (hr.below hb0); have HN := Lib.hid hln
  clear hK hF hr hln hb0 hx0 hx1 hz2
  by_cases h3 : 64 < n
  · have p : (64 : Int) < (n : Int) := by omega
    have hk2 : M.sum key = M.keyOf key := by unfold M.keyOf; rw [if_pos (by rw [HN.out]; exact h3)]
    have HK2 := Lib.hid hk2
    clear hk2
    go_enter Tryd.func33, Tryd.ntmps33
    go_wp2_with fail
    change Calls _ _ _ ((w.alloc (.cells (bv (zer 64)).toArray 70)).alloc (.cells (bv (zer 64)).toArray 70)) _
    generalize (w.alloc (.cells (bv (zer 64)).toArray 70)).alloc (.cells (bv (zer 64)).toArray 70) = w0 at *
    refine (Sum_any A n c key w0 HR.out.rd HR.out.len hn2 HK.out HF.out).mono ?_
    rintro e w1 ⟨g, cap, rfl, ho, hb⟩
    have hs0 : w.heap.size + 2 = w0.heap.size := HZ2.out.symm
    have HY0 := Lib.hid (Since.at hb HX0.out); have HY1 := Lib.hid (Since.at hb HX1.out); have HB1 := Lib.hid (HB0.out.trans (hb.mono HB0.out.size)); have HO := Lib.hid (RowRd.of_row ho)
    have HS0 := Lib.hid hs0
    clear ho hb hs0
    go_wp2_with (first
      | (refine wpList_copy_splice rfl (.tmp 9) (.tmp 10) 22 22 rfl 5 Tryd.underlying22 infoByteSize _ _ 64 64 32 cap rfl rfl (w.heap.size + 1) 0 (bv (zer 64)) 70 HY1.out (bv (M.sum key)) (by rw [bv_length]; rfl) (fun _ => ⟨rfl, _, rfl, HO.out.rd.cells _ rfl⟩) ?_ (bv_one _) (w.heap.size + 1) w1 (Below.refl _ _) (Nat.le_refl _) ?_)
      | fail)
    · rw [bv_length, bv_length, HK2.out]; have := M.keyOf_le key; simp [zer]; omega
    intro w2 hg2 hb2
    rw [bv_splice, HK2.out, block_of key _ rfl] at hg2
    have HG2 := Lib.hid (show w2.heap[w.heap.size + 1]? = some (.cells (bv (M.macBlock key)).toArray 70 (0, 0)) from hg2)
    have HY2 := Lib.hid ((hb2.block w.heap.size (by omega)).trans HY0.out); have HB2 := Lib.hid (HB1.out.trans (hb2.mono (by omega)))
    clear hg2 hb2
    go_wp2_with (first
      | (with_reducible refine wpList_load_row rfl 70 (.tmp 3) rfl (w.heap.size + 1) rfl 70 _ (0, 0) _ HG2.out Tryd.underlying70 rfl (infoBlk _ (M.macBlock_length key)) ?_)
      | (with_reducible refine wpList_store_row rfl 70 (.tmp 2) (.tmp 12) rfl w.heap.size (bv (M.macBlock key)).toArray rfl rfl 70 _ HY2.out (infoBlk _ (M.macBlock_length key)) (blk_size _ _ (M.macBlock_length key) (zer_length 64)) (bv_all _) ?_)
      | (with_reducible refine wpList_store_row rfl 70 (.tmp 2) (.tmp 12) rfl w.heap.size (bv (M.macBlock key)).toArray rfl rfl 70 _ HY2.out (infoBlk _ (M.macBlock_length key)) (blk_size _ _ (zer_length 64) (M.macBlock_length key)) (bv_all _) ?_))
    refine bodyPost_ret (v := .agg (bv (M.macBlock key)).toArray) ?_ ?_ ?_
    · exact results_cell_row rfl _ _ w.heap.size 70 _ (0, 0) _ rfl (setRow_heap _ _ _ _ _ _ HY2.out) Tryd.underlying70 rfl (infoBlk _ (M.macBlock_length key))
    · rfl
    · exact ⟨rfl, below_setRow HB2.out (Nat.le_refl _) _⟩
  · have p : ¬ (64 : Int) < (n : Int) := by omega
    have hk2 : key = M.keyOf key := by unfold M.keyOf; rw [if_neg (by rw [HN.out]; exact h3)]
    have HK2 := Lib.hid hk2
    clear hk2
    go_enter Tryd.func33, Tryd.ntmps33
    go_upto_region 4 with fail
    change Code.wp _ _ _ _ ((w.alloc (.cells (bv (zer 64)).toArray 70)).alloc (.cells (bv (zer 64)).toArray 70))
    generalize (w.alloc (.cells (bv (zer 64)).toArray 70)).alloc (.cells (bv (zer 64)).toArray 70) = w1 at *
    have HY0 := HX0; have HY1 := HX1; have HB1 := HB0
    have hsrc : 0 < (bv key).length → (some ⟨w.heap.size + 1, 0, none⟩ : Option Addr) = some ⟨w.heap.size + 1, 0, none⟩ ∧ ∃ ad, A = some ad ∧ ∀ j v, (bv key)[j]? = some v → w1.cell? (ad.add j) = some v := fun h => ⟨rfl, by
      rw [bv_length] at h
      obtain ⟨b, o, e, _, _⟩ := HR.out.rd.lay h
      exact ⟨_, e, HR.out.rd.cells _ e⟩⟩
    have HSRC := Lib.hid hsrc
    clear hsrc
    go_wp2_with (first
      | (refine wpList_copy_splice rfl (.tmp 9) (.tmp 10) 22 22 rfl 5 Tryd.underlying22 infoByteSize _ _ 64 64 n c rfl rfl (w.heap.size + 1) 0 (bv (zer 64)) 70 HY1.out (bv key) (by rw [bv_length, HN.out]; exact (Nat.min_eq_left (by omega)).symm) (fun hp => HSRC.out hp) ?_ (bv_one _) (w.heap.size + 1) w1 (Below.refl _ _) (Nat.le_refl _) ?_)
      | fail)
    · rw [bv_length, bv_length, zer_length, HN.out]; omega
    intro w2 hg2 hb2
    rw [bv_splice, block_of key key HK2.out] at hg2
    have HG2 := Lib.hid (show w2.heap[w.heap.size + 1]? = some (.cells (bv (M.macBlock key)).toArray 70 (0, 0)) from hg2)
    have HY2 := Lib.hid ((hb2.block w.heap.size (by omega)).trans HY0.out); have HB2 := Lib.hid (HB1.out.trans (hb2.mono (by omega)))
    clear hg2 hb2
    go_wp2_with (first
      | (with_reducible refine wpList_load_row rfl 70 (.tmp 3) rfl (w.heap.size + 1) rfl 70 _ (0, 0) _ HG2.out Tryd.underlying70 rfl (infoBlk _ (M.macBlock_length key)) ?_)
      | (with_reducible refine wpList_store_row rfl 70 (.tmp 2) (.tmp 12) rfl w.heap.size (bv (M.macBlock key)).toArray rfl rfl 70 _ HY2.out (infoBlk _ (M.macBlock_length key)) (blk_size _ _ (M.macBlock_length key) (zer_length 64)) (bv_all _) ?_)
      | (with_reducible refine wpList_store_row rfl 70 (.tmp 2) (.tmp 12) rfl w.heap.size (bv (M.macBlock key)).toArray rfl rfl 70 _ HY2.out (infoBlk _ (M.macBlock_length key)) (blk_size _ _ (zer_length 64) (M.macBlock_length key)) (bv_all _) ?_))
    refine bodyPost_ret (v := .agg (bv (M.macBlock key)).toArray) ?_ ?_ ?_
    · exact results_cell_row rfl _ _ w.heap.size 70 _ (0, 0) _ rfl (setRow_heap _ _ _ _ _ _ HY2.out) Tryd.underlying70 rfl (infoBlk _ (M.macBlock_length key))
    · rfl
    · exact ⟨rfl, below_setRow HB2.out (Nat.le_refl _) _⟩
def UnderPost (w : World) (bs : List (BitVec 8)) (e : Ending) (w' : World) : Prop := ∃ g, e = .returned (.slice (some ⟨g, 0, none⟩) 64 64) ∧ RowRd w' ⟨some ⟨g, 0, none⟩, 64, 64⟩ bs ∧ Below w.heap.size w w'
set_option maxHeartbeats 2000000 in
set_option maxRecDepth 100000 in
theorem under_any (bs : List (BitVec 8)) (x : BitVec 8) (w : World) (hl : bs.length = 64) :
    Calls Tryd.prog 36 #[.agg (bv bs).toArray, B8 x] w (UnderPost w (bs.map fun y => y ^^^ x)) := by
  have hb0 : Below w.heap.size w (w.alloc (.cells (bv bs).toArray 70)) := (Below.refl _ _).alloc (Nat.le_refl _) _
  have hx0 := heap_alloc_new w (.cells (bv bs).toArray 70)
  have HB0 := Lib.hid hb0; have HX0 := Lib.hid hx0; have HL := Lib.hid hl
  clear hb0 hx0 hl
  go_enter Tryd.func36, Tryd.ntmps36
  go_wp2
  go_loopw [6] (fun i wr => ∃ (k : Nat) (xs : List (BitVec 8)), k ≤ 64 ∧ i = .int .i64 (k : Int) ∧ xs.length = 64 ∧ wr.heap[w.heap.size]? = some (.cells (bv xs).toArray 70 (0, 0)) ∧ (∀ j, j < 64 → xs[j]? = if j < k then (bs[j]?).map (fun y => y ^^^ x) else bs[j]?) ∧ Below w.heap.size w wr) (fun i _ => 64 - (intOf i).toNat)
  case atStart => exact ⟨0, bs, by omega, rfl, HL.out, HX0.out, fun j _ => by simp, HB0.out⟩
  case round =>
    clear HX0 HB0
    obtain ⟨k, xs, hk, rfl, hxl, hblk, hxs, hb⟩ := hrel
    have k0 : (0 : Int) ≤ (k : Int) := by omega
    rcases Nat.lt_or_ge k 64 with h1 | h1
    · have i1 : (k : Int) < 64 := by omega
      have hc : wr.cell? ⟨w.heap.size, k, none⟩ = some (B8 (xs.getD k 0)) := block_cell hblk (by simp [bv, show k < xs.length by omega])
      have hf : wr.frozen? ⟨w.heap.size, k, none⟩ = false := frozen_of_row wr _ k _ _ hblk
      have HBK := Lib.hid (block_set hblk k (B8 (xs.getD k 0 ^^^ x))); have HXL := Lib.hid hxl; have HXS := Lib.hid hxs; have HB := Lib.hid (hb.setCell (p := ⟨w.heap.size, k, none⟩) (Nat.le_refl _) (B8 (xs.getD k 0 ^^^ x)))
      clear hblk hxl hxs hb
      go_wp2_with (with_reducible refine wpList_store_one rfl 5 (.tmp 14) (.tmp 13) rfl ⟨w.heap.size, k, none⟩ (B8 (xs.getD k 0 ^^^ x)) _ rfl rfl rfl (by kernel_rfl) hc hf ?_)
      go_roundw
      case rel =>
        refine ⟨k + 1, xs.set k (xs.getD k 0 ^^^ x), by omega, by go_num, by rw [List.length_set]; exact HXL.out, ?_, fun j hj => ?_, HB.out⟩
        · have e2 : bv (xs.set k (xs.getD k 0 ^^^ x)) = (bv xs).set k (B8 (xs.getD k 0 ^^^ x)) := by simp [bv]
          rw [e2]; exact HBK.out
        · have hq := HXS.out j hj
          by_cases e : j = k
          · subst e
            rw [List.getElem?_set_self (by have := HXL.out; omega), if_pos (by omega)]
            rw [if_neg (by omega)] at hq
            rw [← hq, List.getElem?_eq_getElem (by have := HXL.out; omega)]
            simp [show j < xs.length by have := HXL.out; omega]
          · rw [List.getElem?_set_ne (Ne.symm e), hq]
            by_cases h2 : j < k
            · rw [if_pos h2, if_pos (by omega)]
            · rw [if_neg h2, if_neg (by omega)]
      case measure => simp [intOf]; omega
    · have i1 : ¬ (k : Int) < 64 := by omega
      have he : xs = bs.map fun y => y ^^^ x := by
        apply List.ext_getElem?
        intro j
        by_cases hj : j < 64
        · rw [hxs j hj, if_pos (by omega), List.getElem?_map]
        · rw [List.getElem?_eq_none (by omega), List.getElem?_eq_none (by rw [List.length_map, HL.out]; omega)]
      rw [he] at hblk
      have HO := Lib.hid (show RowRd wr ⟨some ⟨w.heap.size, 0, none⟩, 64, 64⟩ (bs.map fun y => y ^^^ x) from ⟨Rd.of_block hblk (by rw [List.toList_toArray, List.take_of_length_le (by rw [bv_length]; exact Nat.le_refl _)]), by rw [List.length_map, HL.out], fun h => by cases h⟩); have HB := Lib.hid hb
      clear hblk hxl hxs hb he
      go_wp2
      go_ret
      exact ⟨w.heap.size, rfl, HO.out, HB.out⟩
end Go.Proofs.YtjnhfmicadcmnaaDoor.K
