/- The contracts of mac.Tag and its closure, and of the reference's under and Tag. -/
import Derived.Test.YtjnhfmicadcmnaaDoorMacDigest
import Derived.Test.YtjnhfmicadcmnaaDoorRefSum
namespace Go.Proofs.YtjnhfmicadcmnaaDoor.K
open Go Go.RowKit

set_option maxHeartbeats 2000000 in
set_option maxRecDepth 100000 in
theorem side_any (x : BitVec 8) (key : List (BitVec 8)) (A : Option Addr) (n c X : Nat) (bs : List (BitVec 8)) (w : World) (hr : RowRd w ⟨A, n, c⟩ bs) (hn2 : n ≤ 100000000000) (hX : w.heap[X]? = some (.cells (bv (M.macBlock key)).toArray 70 (0, 0))) (hK : HasK w) (hF : HasF w) :
    Calls Tryd.prog 34 #[B8 x, .slice A n c, .pointer (some ⟨X, 0, none⟩)] w (Made w (M.sum (M.macUnder key x ++ bs))) := by
  have HR := Lib.hid hr; have HX := Lib.hid hX; have HK := Lib.hid hK; have HF := Lib.hid hF; have HL := Lib.hid hr.len
  clear hr hX hK hF
  go_enter Tryd.func34, Tryd.ntmps34
  go_wp2_with (with_reducible refine wpList_load_row rfl 70 (.tmp 2) rfl X rfl 70 _ (0, 0) _ HX.out Tryd.underlying70 rfl (infoBlk _ (M.macBlock_length key)) ?_)
  refine (under_any (M.macBlock key) x w (M.macBlock_length key)).mono ?_
  rintro e w1 ⟨g, rfl, hrow, hb⟩
  have HU := Lib.hid hrow; have HB := Lib.hid hb
  clear hrow hb
  go_wp2_with fail
  have hfl : flat [(⟨some ⟨g, 0, none⟩, 64, 64⟩, (M.macBlock key).map fun y => y ^^^ x), (⟨A, n, c⟩, bs)] = M.macUnder key x ++ bs := by simp [flat, M.macUnder]
  refine (digest_lit [(⟨some ⟨g, 0, none⟩, 64, 64⟩, (M.macBlock key).map fun y => y ^^^ x), (⟨A, n, c⟩, bs)] w1 _ 2 2 rfl rfl (fun p hp => ?_) (by simp) ?_ (HK.out.below HB.out) (HF.out.below HB.out)).mono ?_
  · simp only [List.mem_cons, List.mem_nil_iff, or_false] at hp
    rcases hp with rfl | rfl
    · exact HU.out
    · exact HR.out.below HB.out
  · rw [hfl, List.length_append, M.macUnder_length, HL.out]; show 64 + n ≤ _; omega
  rintro e w2 ⟨g2, N, cap, rfl, hN, ho, hb⟩
  rw [hfl] at hN ho
  have hal := (Below.refl w1.heap.size w1).alloc (Nat.le_refl _) (.cells #[.slice (some ⟨g, 0, none⟩) 64 64, .slice A n c] 22)
  have S2 := Since.add (Since.add HB.out hal) hb
  have HFIN := Lib.hid (show Made w (M.sum (M.macUnder key x ++ bs)) (.returned (.slice (some ⟨g2, 0, none⟩) N cap)) w2 from ⟨g2, N, cap, rfl, hN, row_base ho (Since.add HB.out hal).size, S2⟩)
  clear hfl hN ho hal S2 hb
  go_wp2
  go_ret
  exact HFIN.out

set_option maxHeartbeats 2000000 in
set_option maxRecDepth 100000 in
theorem tag_any (A B : Option Addr) (n c m d : Nat) (key bs : List (BitVec 8)) (w : World) (hk : RowRd w ⟨A, n, c⟩ key) (hr : RowRd w ⟨B, m, d⟩ bs) (hn2 : n ≤ 100000000000) (hm2 : m ≤ 100000000000) (hK : HasK w) (hF : HasF w) :
    Calls Tryd.prog 19 #[.slice A n c, .slice B m d] w (Made w (M.tag key bs)) := by
  have hmf : ∀ (fn : Fn) (first cap : Array Value) (w : World), (Instr.makeFunc fn first cap).run Tryd.prog w = .ok (.func fn first cap) w := fun _ _ _ _ => rfl
  have HKY := Lib.hid hk; have HR := Lib.hid hr; have HK := Lib.hid hK; have HF := Lib.hid hF
  clear hk hr hK hF
  go_enter Tryd.func19, Tryd.ntmps19
  go_wp2_with fail
  refine (of_any A n c key w HKY.out (by omega) HK.out HF.out).mono ?_
  rintro e w1 ⟨rfl, hb⟩
  have HB := Lib.hid hb
  have HZ := Lib.hid (heap_alloc_new w1 (.cells (bv (zer 64)).toArray 70))
  have HS := Lib.hid (below_setRow (Since.alloc hb (.cells (bv (zer 64)).toArray 70)) hb.size (bv (M.macBlock key)).toArray)
  have HX := Lib.hid (setRow_heap _ w1.heap.size _ (bv (M.macBlock key)).toArray 70 (0, 0) HZ.out)
  clear hb
  go_wp2_with (refine wpList_store_row rfl 70 (.tmp 5) (.tmp 8) rfl w1.heap.size (bv (M.macBlock key)).toArray rfl rfl 70 _ HZ.out (infoBlk _ (M.macBlock_length key)) (blk_size _ _ (zer_length 64) (M.macBlock_length key)) (bv_all _) ?_)
  change Calls _ _ _ ((w1.alloc (.cells (bv (zer 64)).toArray 70)).setRow w1.heap.size (bv (M.macBlock key)).toArray) _
  generalize (w1.alloc (.cells (bv (zer 64)).toArray 70)).setRow w1.heap.size (bv (M.macBlock key)).toArray = w2 at *
  refine (side_any 0x36#8 key B m d w1.heap.size bs w2 (HR.out.below HS.out) hm2 HX.out (HK.out.below HS.out) (HF.out.below HS.out)).mono ?_
  rintro e w3 ⟨g3, N3, c3, rfl, hN, ho, hb⟩
  have HS3 := Lib.hid (HS.out.trans (hb.mono HS.out.size)); have HX3 := Lib.hid (Since.at hb HX.out); have R3 := Lib.hid (RowRd.of_row ho)
  have hN3 : N3 ≤ 100000000000 := by rw [hN, M.sum_length]; omega
  clear hN ho hb HZ
  go_wp2_with fail
  refine (side_any 0x5c#8 key (some ⟨g3, 0, none⟩) N3 c3 w1.heap.size (M.sum (M.macUnder key 0x36#8 ++ bs)) w3 R3.out hN3 HX3.out (HK.out.below HS3.out) (HF.out.below HS3.out)).mono ?_
  rintro e w4 ⟨g4, N4, c4, rfl, hN, ho, hb⟩
  have HFIN := Lib.hid (show Made w (M.tag key bs) (.returned (.slice (some ⟨g4, 0, none⟩) N4 c4)) w4 from ⟨g4, N4, c4, rfl, hN, row_base ho HS3.out.size, HS3.out.trans (hb.mono HS3.out.size)⟩)
  clear hN ho hb
  go_wp2
  go_ret
  exact HFIN.out

/-! ### the reference's -/
theorem refSum_made {w : World} {A : Option Addr} {n c : Nat} {bs : List (BitVec 8)} (hr : RowRd w ⟨A, n, c⟩ bs) (hn : n ≤ 1000000000000) : Calls Tryd.prog 14 #[.slice A n c] w (Made w (M.sum bs)) :=
  (RefSum_any A n c bs w hr.rd hr.len hn hr.none).mono fun e w' ⟨g, cap, he, ho, hb⟩ => ⟨g, 32, cap, he, rfl, ho, hb⟩
/-- what stands at place j once k places are done -/
def unders (key : List (BitVec 8)) (n : BitVec 8) (k : Nat) : List (BitVec 8) := (M.macUnder key n).take k ++ zer (64 - k)
theorem unders_length (key : List (BitVec 8)) (n : BitVec 8) (k : Nat) (h : k ≤ 64) : (unders key n k).length = 64 := by
  unfold unders
  rw [List.length_append, List.length_take, M.macUnder_length, zer_length]; omega
theorem unders_at (key : List (BitVec 8)) (n : BitVec 8) (k : Nat) (h : k < 64) : (unders key n k)[k]? = some 0#8 := by
  unfold unders
  rw [List.getElem?_append_right (by rw [List.length_take, M.macUnder_length]; omega), List.length_take, M.macUnder_length, Nat.min_eq_left (by omega), Nat.sub_self]
  unfold zer
  rw [List.getElem?_replicate, if_pos (by omega)]
theorem unders_set (key : List (BitVec 8)) (n : BitVec 8) (k : Nat) (h : k < 64) (y : BitVec 8) (hy : (M.macUnder key n)[k]? = some y) : (unders key n k).set k y = unders key n (k + 1) := by
  apply List.ext_getElem?
  intro j
  have hl : (M.macUnder key n).length = 64 := M.macUnder_length key n
  by_cases e : j = k
  · subst e
    rw [List.getElem?_set_self (by rw [unders_length _ _ _ (by omega)]; exact h)]
    unfold unders
    rw [List.getElem?_append_left (by rw [List.length_take]; omega), List.getElem?_take, if_pos (by omega), hy]
  · rw [List.getElem?_set_ne (Ne.symm e)]
    unfold unders
    by_cases h1 : j < k
    · rw [List.getElem?_append_left (by rw [List.length_take]; omega), List.getElem?_append_left (by rw [List.length_take]; omega), List.getElem?_take, List.getElem?_take, if_pos h1, if_pos (by omega)]
    · rw [List.getElem?_append_right (by rw [List.length_take]; omega), List.getElem?_append_right (by rw [List.length_take]; omega), List.length_take, List.length_take, Nat.min_eq_left (by omega), Nat.min_eq_left (by omega)]
      unfold zer
      rw [List.getElem?_replicate, List.getElem?_replicate]
      by_cases h2 : j < 64
      · rw [if_pos (by omega), if_pos (by omega)]
      · rw [if_neg (by omega), if_neg (by omega)]
theorem under_at (key : List (BitVec 8)) (n : BitVec 8) (k : Nat) (h : k < 64) : (M.macUnder key n)[k]? = some (((M.keyOf key).getD k 0#8) ^^^ n) := by
  have hl := M.keyOf_le key
  unfold M.macUnder M.macBlock
  rw [List.getElem?_map]
  by_cases h1 : k < (M.keyOf key).length
  · rw [List.getElem?_append_left h1, List.getElem?_eq_getElem h1]
    simp [h1]
  · rw [List.getElem?_append_right (by omega), List.getElem?_replicate, if_pos (by omega)]
    simp [h1]

set_option maxHeartbeats 4000000 in
set_option maxRecDepth 100000 in
theorem runder_any (A : Option Addr) (n c : Nat) (key : List (BitVec 8)) (x : BitVec 8) (w : World) (hr : RowRd w ⟨A, n, c⟩ key) (hn : n ≤ 1000000000000) :
    Calls Tryd.prog 37 #[.slice A n c, B8 x] w (Made w (M.macUnder key x)) := by
  obtain ⟨i0, hi, hz0, hz1, hz2⟩ := info_parts infoByte
  have HR := Lib.hid hr; have HL := Lib.hid hr.len
  clear hr
  go_enter Tryd.func37, Tryd.ntmps37
  go_upto_if 11 with fail
  go_cut [5] (fun s5 wx => ∃ A2 n2 c2, s5 = .slice A2 n2 c2 ∧ RowRd wx ⟨A2, n2, c2⟩ (M.keyOf key) ∧ Since w wx)
  case first =>
    by_cases h3 : 64 < n
    · have p : (64 : Int) < (n : Int) := by omega
      have hk2 : M.keyOf key = M.sum key := by unfold M.keyOf; rw [if_pos (by rw [HL.out]; exact h3)]
      have HK2 := Lib.hid hk2
      clear hk2
      go_wp2_with fail
      refine (refSum_made HR.out hn).mono ?_
      rintro e w1 ⟨g, N, cap, rfl, hN, ho, hb⟩
      have HFIN := Lib.hid (show ∃ A2 n2 c2, Value.slice (some ⟨g, 0, none⟩) N cap = .slice A2 n2 c2 ∧ RowRd w1 ⟨A2, n2, c2⟩ (M.keyOf key) ∧ Since w w1 from ⟨_, _, _, rfl, by rw [HK2.out]; exact RowRd.of_row ho, hb⟩)
      clear hN ho hb
      go_wp2_with fail
      go_meet
      exact HFIN.out
    · have p : ¬ (64 : Int) < (n : Int) := by omega
      have hk2 : M.keyOf key = key := by unfold M.keyOf; rw [if_neg (by rw [HL.out]; exact h3)]
      have HK2 := Lib.hid hk2
      clear hk2
      go_wp2_with fail
      go_meet
      exact ⟨A, n, c, rfl, by rw [HK2.out]; exact HR.out, Below.refl _ _⟩
  case rest =>
    obtain ⟨A2, n2, c2, rfl, hr2, hs2⟩ := hcut
    have hl2 : (M.keyOf key).length = n2 := hr2.len
    have hle := M.keyOf_le key
    have hn2 : n2 ≤ 64 := by omega
    have HR2 := Lib.hid hr2; have HS2 := Lib.hid hs2; have HL2 := Lib.hid hl2
    clear hr2 hs2 hl2 hle
    go_wp2_with (at_make; refine wpList_make_full _ rfl _ _ 22 rfl w.heap.size 5 i0 (.int .u8 0) 1 Tryd.underlying22 hi hz0 hz1 _ _ _ _ 64 rfl rfl rfl rfl (by rw [hz2]; omega) (by unfold maxLen; omega) HS2.out.size ?_; intro w1 hown1 hgrow1)
    have hb1 := HS2.out.grown hgrow1 HS2.out.size (by simp)
    have HB1 := Lib.hid hb1
    have HO1 := Lib.hid (show w1.ownsRow w.heap.size 5 1 (.slice (some ⟨wc.heap.size, 0, none⟩) 64 64) 64 (bv (unders key x 0)) from made_zer hown1)
    have HSX := Lib.hid (show Since wc w1 from below_none hgrow1)
    clear hown1 hgrow1 hb1 HB1
    go_wp2
    go_loopw [7] (fun i wr => ∃ k : Nat, k ≤ 64 ∧ i = .int .i64 (k : Int) ∧ wr.ownsRow w.heap.size 5 1 (.slice (some ⟨wc.heap.size, 0, none⟩) 64 64) 64 (bv (unders key x k)) ∧ Since wc wr) (fun i _ => 64 - (intOf i).toNat)
    case atStart => exact ⟨0, by omega, rfl, HO1.out, HSX.out⟩
    case round =>
      clear HO1 HSX
      obtain ⟨k, hk, rfl, ho, hs⟩ := hrel
      have k0 : (0 : Int) ≤ (k : Int) := by omega
      rcases Nat.lt_or_ge k 64 with h1 | h1
      · have i1 : (k : Int) < 64 := by omega
        have hc : wr.cell? ⟨wc.heap.size, k, none⟩ = some (B8 0#8) := by
          rw [ho.cellAt k (by omega), bv, List.getElem?_map, unders_at key x k h1]; rfl
        have hf := ho.frozenAt k
        by_cases h2 : k < n2
        · have i2 : (k : Int) < (n2 : Int) := by omega
          obtain ⟨b, o, rfl, hcx⟩ := (Since.row hs HR2.out).rd k (by rw [HL2.out]; exact h2)
          have hy : (M.keyOf key)[k]'(by rw [HL2.out]; exact h2) = (M.keyOf key).getD k 0#8 := by simp [show k < (M.keyOf key).length by rw [HL2.out]; exact h2]
          obtain ⟨y, hyy⟩ : ∃ y, y = (M.keyOf key).getD k 0#8 := ⟨_, rfl⟩
          have hcx' : wr.cell? ⟨b, o + k, none⟩ = some (B8 y) := by rw [hcx, hy, hyy]
          have hua := under_at key x k h1
          rw [← hyy] at hua
          have HUA := Lib.hid hua
          have ho2 := (ho.stored k (B8 (y))).1
          have hc2 : (wr.setCell ⟨wc.heap.size, k, none⟩ (B8 (y))).cell? ⟨wc.heap.size, k, none⟩ = some (B8 (y)) := World.cell?_setCell_same _ _ _ hc
          have hf2 := ho2.frozenAt k
          have ho3 := (ho2.stored k (B8 (y ^^^ x))).1
          have HO3 := Lib.hid ho3; have HS3 := Lib.hid (Since.set (Since.set hs (Nat.le_refl wc.heap.size) k (B8 (y))) (Nat.le_refl wc.heap.size) k (B8 (y ^^^ x)))
          clear ho hs hcx hy ho2 ho3 hyy hua
          go_wp2_with (first
            | (with_reducible refine wpList_store_one rfl 5 (.tmp 29) (.tmp 28) rfl ⟨wc.heap.size, k, none⟩ (B8 (y)) _ rfl rfl rfl (by kernel_rfl) hc hf ?_)
            | (with_reducible refine wpList_store_one rfl 5 (.tmp 38) (.tmp 37) rfl ⟨wc.heap.size, k, none⟩ (B8 (y ^^^ x)) _ rfl rfl rfl (by kernel_rfl) hc2 hf2 ?_))
          go_roundw
          case rel =>
            refine ⟨k + 1, by omega, by go_num, ?_, HS3.out⟩
            have e2 : ((bv (unders key x k)).set k (B8 (y))).set k (B8 (y ^^^ x)) = bv (unders key x (k + 1)) := by
              rw [← unders_set key x k h1 _ HUA.out, List.set_set]; simp [bv]
            rw [← e2]; exact HO3.out
          case measure => simp [intOf]; omega
        · have i2 : ¬ (k : Int) < (n2 : Int) := by omega
          have hg0 : (M.keyOf key).getD k 0#8 = 0#8 := by simp [show ¬ k < (M.keyOf key).length by rw [HL2.out]; exact h2]
          have hu := under_at key x k h1
          rw [hg0, BitVec.zero_xor] at hu
          have ho3 := (ho.stored k (B8 x)).1
          have HO3 := Lib.hid ho3; have HS3 := Lib.hid (Since.set hs (Nat.le_refl wc.heap.size) k (B8 x)); have HU := Lib.hid hu
          clear ho hs ho3 hg0 hu
          go_wp2_with (with_reducible refine wpList_store_one rfl 5 (.tmp 38) (.tmp 37) rfl ⟨wc.heap.size, k, none⟩ (B8 x) _ rfl rfl rfl (by kernel_rfl) hc hf ?_)
          go_roundw
          case rel =>
            refine ⟨k + 1, by omega, by go_num, ?_, HS3.out⟩
            have e2 : (bv (unders key x k)).set k (B8 x) = bv (unders key x (k + 1)) := by
              rw [← unders_set key x k h1 _ HU.out]; simp [bv]
            rw [← e2]; exact HO3.out
          case measure => simp [intOf]; omega
      · have i1 : ¬ (k : Int) < 64 := by omega
        have hk64 : k = 64 := by omega
        have hu : unders key x 64 = M.macUnder key x := by unfold unders zer; simp [M.macUnder_length, List.take_of_length_le]
        rw [hk64, hu] at ho
        have HFIN := Lib.hid (show Made w (M.macUnder key x) (.returned (.slice (some ⟨wc.heap.size, 0, none⟩) 64 64)) wr from ⟨_, 64, 64, rfl, (M.macUnder_length key x).symm, ho, HS2.out.trans (hs.mono HS2.out.size)⟩)
        clear ho hs hu hk64
        go_wp2
        go_ret
        exact HFIN.out
end Go.Proofs.YtjnhfmicadcmnaaDoor.K
