/- The contract of barbicanlaw04.awake: the digests of the examples are as they must be. -/
import Derived.Test.YtjnhfmicadcmnaaDoorShaSum
import Derived.Lib.SlBytesConst
namespace Go.Proofs.YtjnhfmicadcmnaaDoor.K
open Go Go.RowKit

theorem sum_abc : ((M.sum [97#8, 98#8, 99#8]).getD 0 0 = 186#8 ∧ (M.sum [97#8, 98#8, 99#8]).getD 1 0 = 120#8) ∧ (M.sum [97#8, 98#8, 99#8]).getD 30 0 = 21#8 ∧ (M.sum [97#8, 98#8, 99#8]).getD 31 0 = 173#8 := by decide +kernel
theorem sum_none : (M.sum []).getD 0 0 = 227#8 ∧ (M.sum []).getD 31 0 = 85#8 := by decide +kernel

/-- a cell of a row of bytes -/
theorem own_cell {w : World} {base : Nat} {e : TypeId} {g c n : Nat} {bs : List (BitVec 8)} (h : w.ownsRow base e 1 (.slice (some ⟨g, 0, none⟩) n c) n (bv bs)) (i : Nat) (x : BitVec 8) (hi : i < bs.length) (hx : bs.getD i 0 = x) : w.cell? ⟨g, i, none⟩ = some (B8 x) := by
  obtain ⟨b, o, e, _, hc⟩ := (Rd.of_own h).lay (by omega)
  obtain ⟨rfl, rfl⟩ : g = b ∧ 0 = o := by simpa using e
  have := hc i hi
  rw [Nat.zero_add, hx] at this
  exact this

set_option maxHeartbeats 1000000 in
set_option maxRecDepth 100000 in
theorem awake4_any (w : World) (hK : HasK w) (hF : HasF w) :
    Calls Tryd.prog 10 #[] w fun e w' => e = .returned (.bool true) ∧ Below w.heap.size w w' := by
  have HK := Lib.hid hK; have HF := Lib.hid hF
  clear hK hF
  go_enter Tryd.func10, Tryd.ntmps10
  have hcv := Lib.run_convert_bytes_const w 22 5 #[.int .u8 97, .int .u8 98, .int .u8 99] 3 3 Tryd.underlying22 Tryd.underlying5
  go_wp2_with fail
  clear hcv
  have b1 : Below w.heap.size w (w.alloc (.cells #[.int .u8 97, .int .u8 98, .int .u8 99] 5 (3, 4))) := (Below.refl _ _).alloc (Nat.le_refl _) _
  have hr : Rd (w.alloc (.cells #[.int .u8 97, .int .u8 98, .int .u8 99] 5 (3, 4))) (some ⟨w.heap.size, 0, none⟩) [97#8, 98#8, 99#8] := Rd.of_block (heap_alloc_new w _) rfl
  refine (Sum_any _ 3 3 [97#8, 98#8, 99#8] _ hr rfl (by omega) (HK.out.below b1) (HF.out.below b1)).mono ?_
  rintro e w1 ⟨g, cap, rfl, hown, hb⟩
  have b2 : Below w.heap.size w w1 := b1.trans (hb.mono b1.size)
  have c0 : w1.cell? ⟨g, 0, none⟩ = some (.int .u8 186) := own_cell hown 0 _ (by rw [M.sum_length]; omega) sum_abc.1.1
  have c1 : w1.cell? ⟨g, 1, none⟩ = some (.int .u8 120) := own_cell hown 1 _ (by rw [M.sum_length]; omega) sum_abc.1.2
  have c30 : w1.cell? ⟨g, 30, none⟩ = some (.int .u8 21) := own_cell hown 30 _ (by rw [M.sum_length]; omega) sum_abc.2.1
  have c31 : w1.cell? ⟨g, 31, none⟩ = some (.int .u8 173) := own_cell hown 31 _ (by rw [M.sum_length]; omega) sum_abc.2.2
  clear hown hb hr b1
  go_wp2_with fail
  refine (Sum_any none 0 0 [] _ (Rd.of_nil _ _) rfl (by omega) (HK.out.below b2) (HF.out.below b2)).mono ?_
  rintro e w2 ⟨g2, cap2, rfl, hown, hb⟩
  have b3 : Below w.heap.size w w2 := b2.trans (hb.mono b2.size)
  replace c0 := (hb.cell (block_lt_of_cell c0)).trans c0
  replace c1 := (hb.cell (block_lt_of_cell c1)).trans c1
  replace c30 := (hb.cell (block_lt_of_cell c30)).trans c30
  replace c31 := (hb.cell (block_lt_of_cell c31)).trans c31
  have d0 : w2.cell? ⟨g2, 0, none⟩ = some (.int .u8 227) := own_cell hown 0 _ (by rw [M.sum_length]; omega) sum_none.1
  have d31 : w2.cell? ⟨g2, 31, none⟩ = some (.int .u8 85) := own_cell hown 31 _ (by rw [M.sum_length]; omega) sum_none.2
  clear hown hb b2
  go_wp2
  go_ret
  exact ⟨rfl, b3⟩
end Go.Proofs.YtjnhfmicadcmnaaDoor.K
