/- The contract of barbicanlaw05.awake. -/
import Derived.Test.YtjnhfmicadcmnaaDoorMacAwake
namespace Go.Proofs.YtjnhfmicadcmnaaDoor.K
open Go Go.RowKit

def jefeV : Array Value := #[.int .u8 74, .int .u8 101, .int .u8 102, .int .u8 101]
def yaWantV : Array Value := #[.int .u8 119, .int .u8 104, .int .u8 97, .int .u8 116, .int .u8 32, .int .u8 100, .int .u8 111, .int .u8 32, .int .u8 121, .int .u8 97, .int .u8 32, .int .u8 119, .int .u8 97, .int .u8 110, .int .u8 116, .int .u8 32, .int .u8 102, .int .u8 111, .int .u8 114, .int .u8 32, .int .u8 110, .int .u8 111, .int .u8 116, .int .u8 104, .int .u8 105, .int .u8 110, .int .u8 103, .int .u8 63]
theorem jefeV_eq : jefeV.toList = bv jefe := by rfl
theorem yaWantV_eq : yaWantV.toList = bv yaWant := by rfl

set_option maxHeartbeats 1000000 in
set_option maxRecDepth 100000 in
theorem awake5_any (w : World) (hK : HasK w) (hF : HasF w) :
    Calls Tryd.prog 18 #[] w fun e w' => e = .returned (.bool true) ∧ Since w w' := by
  have HK := Lib.hid hK; have HF := Lib.hid hF
  clear hK hF
  go_enter Tryd.func18, Tryd.ntmps18
  have hcv := fun (w : World) => Lib.run_convert_bytes_const w 22 5 #[.int .u8 74, .int .u8 101, .int .u8 102, .int .u8 101] 4 4 Tryd.underlying22 Tryd.underlying5
  have hcv2 := Lib.run_convert_bytes_const (w.alloc (.cells #[.int .u8 74, .int .u8 101, .int .u8 102, .int .u8 101] 5 (4, 5))) 22 5 #[.int .u8 119, .int .u8 104, .int .u8 97, .int .u8 116, .int .u8 32, .int .u8 100, .int .u8 111, .int .u8 32, .int .u8 121, .int .u8 97, .int .u8 32, .int .u8 119, .int .u8 97, .int .u8 110, .int .u8 116, .int .u8 32, .int .u8 102, .int .u8 111, .int .u8 114, .int .u8 32, .int .u8 110, .int .u8 111, .int .u8 116, .int .u8 104, .int .u8 105, .int .u8 110, .int .u8 103, .int .u8 63] 28 28 Tryd.underlying22 Tryd.underlying5
  rw [show (w.alloc (.cells #[.int .u8 74, .int .u8 101, .int .u8 102, .int .u8 101] 5 (4, 5))).heap.size = w.heap.size + 1 from Array.size_push _] at hcv2
  go_wp2_with fail
  clear hcv hcv2
  have hz1 : (w.alloc (.cells #[.int .u8 74, .int .u8 101, .int .u8 102, .int .u8 101] 5 (4, 5))).heap.size = w.heap.size + 1 := Array.size_push _
  have b1 : Since w (w.alloc (.cells #[.int .u8 74, .int .u8 101, .int .u8 102, .int .u8 101] 5 (4, 5))) := Below.alloc (Below.refl _ _) (Nat.le_refl _) _
  have rJ : RowRd (w.alloc (.cells #[.int .u8 74, .int .u8 101, .int .u8 102, .int .u8 101] 5 (4, 5))) ⟨some ⟨w.heap.size, 0, none⟩, 4, 4⟩ jefe := ⟨Rd.of_block (heap_alloc_new w _) (by rfl), rfl, fun h => by cases h⟩
  generalize w.alloc (.cells #[.int .u8 74, .int .u8 101, .int .u8 102, .int .u8 101] 5 (4, 5)) = w1 at *
  have b2 : Since w (w1.alloc (.cells #[.int .u8 119, .int .u8 104, .int .u8 97, .int .u8 116, .int .u8 32, .int .u8 100, .int .u8 111, .int .u8 32, .int .u8 121, .int .u8 97, .int .u8 32, .int .u8 119, .int .u8 97, .int .u8 110, .int .u8 116, .int .u8 32, .int .u8 102, .int .u8 111, .int .u8 114, .int .u8 32, .int .u8 110, .int .u8 111, .int .u8 116, .int .u8 104, .int .u8 105, .int .u8 110, .int .u8 103, .int .u8 63] 5 (28, 29))) := b1.alloc _
  have rY : RowRd (w1.alloc (.cells #[.int .u8 119, .int .u8 104, .int .u8 97, .int .u8 116, .int .u8 32, .int .u8 100, .int .u8 111, .int .u8 32, .int .u8 121, .int .u8 97, .int .u8 32, .int .u8 119, .int .u8 97, .int .u8 110, .int .u8 116, .int .u8 32, .int .u8 102, .int .u8 111, .int .u8 114, .int .u8 32, .int .u8 110, .int .u8 111, .int .u8 116, .int .u8 104, .int .u8 105, .int .u8 110, .int .u8 103, .int .u8 63] 5 (28, 29))) ⟨some ⟨w.heap.size + 1, 0, none⟩, 28, 28⟩ yaWant := by
    rw [← hz1]
    exact ⟨Rd.of_block (heap_alloc_new w1 _) (by rfl), rfl, fun h => by cases h⟩
  have rJ2 : RowRd (w1.alloc (.cells #[.int .u8 119, .int .u8 104, .int .u8 97, .int .u8 116, .int .u8 32, .int .u8 100, .int .u8 111, .int .u8 32, .int .u8 121, .int .u8 97, .int .u8 32, .int .u8 119, .int .u8 97, .int .u8 110, .int .u8 116, .int .u8 32, .int .u8 102, .int .u8 111, .int .u8 114, .int .u8 32, .int .u8 110, .int .u8 111, .int .u8 116, .int .u8 104, .int .u8 105, .int .u8 110, .int .u8 103, .int .u8 63] 5 (28, 29))) ⟨some ⟨w.heap.size, 0, none⟩, 4, 4⟩ jefe := rJ.below ((Below.refl _ _).alloc (Nat.le_refl _) _)
  clear rJ b1 hz1
  generalize (w1.alloc (.cells #[.int .u8 119, .int .u8 104, .int .u8 97, .int .u8 116, .int .u8 32, .int .u8 100, .int .u8 111, .int .u8 32, .int .u8 121, .int .u8 97, .int .u8 32, .int .u8 119, .int .u8 97, .int .u8 110, .int .u8 116, .int .u8 32, .int .u8 102, .int .u8 111, .int .u8 114, .int .u8 32, .int .u8 110, .int .u8 111, .int .u8 116, .int .u8 104, .int .u8 105, .int .u8 110, .int .u8 103, .int .u8 63] 5 (28, 29))) = w2 at *
  refine (tag_any _ _ 4 4 28 28 jefe yaWant w2 rJ2 rY (by omega) (by omega) (HK.out.below b2) (HF.out.below b2)).mono ?_
  rintro e w3 ⟨g, N, c, rfl, hN, ho, hb⟩
  rw [tag_jefe] at hN ho
  obtain rfl : N = 32 := hN
  have b3 : Since w w3 := b2.add hb
  have hgl : w2.heap.size ≤ g := (row_lt ho).1
  have HB23 := Lib.hid (show Since w2 w3 from hb); have RJ2 := Lib.hid rJ2; have RY2 := Lib.hid rY; have HZ2 := Lib.hid b2.size
  have rJ3 := rJ2.below hb
  have rY3 := rY.below hb
  have c30 : w3.cell? ⟨g, 30, none⟩ = some (.int .u8 56) := own_cell ho 30 56#8 (by decide) (by rfl)
  have c31 : w3.cell? ⟨g, 31, none⟩ = some (.int .u8 67) := own_cell ho 31 67#8 (by decide) (by rfl)
  have r8 := RowRd.of_row (own_take ho (k := 8) (by omega))
  have rT := RowRd.of_row ho
  have hc32 := (own_cap ho).1
  have R8 := Lib.hid r8; have RT := Lib.hid rT; have RJ := Lib.hid rJ3; have RY := Lib.hid rY3; have S3 := Lib.hid b3; have HO := Lib.hid ho
  clear hb rJ2 rY b2 rJ3 rY3 r8 rT b3 ho
  go_wp2_with fail
  have b4 : Since w (w3.alloc (.cells #[.int .u8 91, .int .u8 220, .int .u8 193, .int .u8 70, .int .u8 191, .int .u8 96, .int .u8 117, .int .u8 78] 5)) := S3.out.alloc _
  have c30 : (w3.alloc (.cells #[.int .u8 91, .int .u8 220, .int .u8 193, .int .u8 70, .int .u8 191, .int .u8 96, .int .u8 117, .int .u8 78] 5)).cell? ⟨g, 30, none⟩ = some (.int .u8 56) := (((Below.refl _ _).alloc (Nat.le_refl _) _ : Below w3.heap.size w3 _).cell (block_lt_of_cell c30)).trans c30
  have c31 : (w3.alloc (.cells #[.int .u8 91, .int .u8 220, .int .u8 193, .int .u8 70, .int .u8 191, .int .u8 96, .int .u8 117, .int .u8 78] 5)).cell? ⟨g, 31, none⟩ = some (.int .u8 67) := (((Below.refl _ _).alloc (Nat.le_refl _) _ : Below w3.heap.size w3 _).cell (block_lt_of_cell c31)).trans c31
  have b34 : Since w3 (w3.alloc (.cells #[.int .u8 91, .int .u8 220, .int .u8 193, .int .u8 70, .int .u8 191, .int .u8 96, .int .u8 117, .int .u8 78] 5)) := (Below.refl _ _).alloc (Nat.le_refl _) _
  refine (SameBytes_eq _ _ 8 8 c 8 (jefeTag.take 8) _ (R8.out.below b34) (row_lit w3 _ _ _ 8 8 (by rfl) (by rfl)) (by omega)).mono ?_
  rintro e w5 ⟨rfl, hb⟩
  have b5 : Since w w5 := b4.add hb
  have b35 : Since w3 w5 := b34.add hb
  replace c30 := (hb.cell (block_lt_of_cell c30)).trans c30
  replace c31 := (hb.cell (block_lt_of_cell c31)).trans c31
  have S5 := Lib.hid b5; have S35 := Lib.hid b35
  clear hb b4 b34 b5 b35
  go_wp2_with fail
  refine (fits_any _ _ _ 4 4 28 28 32 c jefe yaWant jefeTag _ (S35.out.row RJ.out) (S35.out.row RY.out) (S35.out.row RT.out) (by omega) (by omega) (by omega) (HK.out.below S5.out) (HF.out.below S5.out)).mono ?_
  rintro e w6 ⟨rfl, hb⟩
  rw [tag_jefe, decide_eq_true rfl]
  have S6 := Lib.hid (S5.out.trans (Below.mono hb S5.out.size)); have S36 := Lib.hid (S35.out.trans (Below.mono hb S35.out.size))
  replace c31 := (hb.cell (block_lt_of_cell c31)).trans c31
  have ho6 := row_kept HO.out S36.out
  have hf31 := ho6.frozenAt 31
  have S26 := Lib.hid (HB23.out.add S36.out); have HO6 := Lib.hid ho6
  clear hb c30 ho6 HO HB23 S36 S35 S5 S3 R8 RT RJ RY
  go_wp2_with fail
  rw [show Value.int .u8 (bits .xor .u8 67 1) = B8 66#8 by kernel_rfl]
  obtain ⟨ho7, _⟩ := HO6.out.stored 31 (B8 66#8)
  rw [show (bv jefeTag).set 31 (B8 66#8) = bv (jefeTag.set 31 66#8) by simp [bv, List.map_set]] at ho7
  have r7 := RowRd.of_row ho7
  have s27 : Since w2 (w6.setCell ⟨g, 31, none⟩ (B8 66#8)) := Since.set S26.out hgl 31 _
  have s7 : Since w (w6.setCell ⟨g, 31, none⟩ (B8 66#8)) := Since.set S6.out (Nat.le_trans HZ2.out hgl) 31 _
  have R7 := Lib.hid r7; have S7 := Lib.hid s7; have S27 := Lib.hid s27
  clear r7 s7 s27 ho7 HO6 S26 S6
  generalize w6.setCell ⟨g, 31, none⟩ (B8 66#8) = w7 at *
  refine (fits_any _ _ _ 4 4 28 28 32 c jefe yaWant _ w7 (S27.out.row RJ2.out) (S27.out.row RY2.out) R7.out (by omega) (by omega) (by omega) (HK.out.below S7.out) (HF.out.below S7.out)).mono ?_
  rintro e w8 ⟨rfl, hb⟩
  rw [tag_jefe, decide_eq_false (by decide)]
  have S8 := Lib.hid (S7.out.add hb)
  clear hb
  go_wp2_with fail
  go_ret
  exact ⟨rfl, S8.out⟩
end Go.Proofs.YtjnhfmicadcmnaaDoor.K
