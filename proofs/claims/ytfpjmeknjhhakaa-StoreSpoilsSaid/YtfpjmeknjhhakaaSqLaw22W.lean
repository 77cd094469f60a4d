/- The contract of the law's awake. -/
import Derived.Test.YtfpjmeknjhhakaaSqLaw22B
namespace Go.Proofs.Ytfpjmeknjhhakaa.K
open Go Go.RowKit Go.Maps

theorem sread_nil : S.sread [] = some (S.zero, 0) := rfl
def awc : S.Cl := ⟨3, 2, 0, 0⟩
theorem ack_ok (k : Int) (hk : M.inI64 k) : (ackE k).Ok := ⟨⟨by show -9223372036854775808 ≤ (1 : Int); omega, by show (1 : Int) ≤ 9223372036854775807; omega⟩, ⟨by show -9223372036854775808 ≤ (1 : Int); omega, by show (1 : Int) ≤ 9223372036854775807; omega⟩, hk, by simp [ackE]⟩
def ackCells (k : Int) : List Value := [.int .i64 1, .int .u8 4, .int .i64 1, .int .i64 k, .bool true, .slice none 0 0]
theorem ack6 : ∀ (ks : List Int) (i j : Nat) (hi : i < ks.length), j < 6 → (ks.flatMap ackCells)[i * 6 + j]? = (ackCells ks[i])[j]?
  | [], i, j, hi, hj => absurd hi (Nat.not_lt_zero _)
  | k :: ks, 0, j, hi, hj => by
    rw [List.flatMap_cons, Nat.zero_mul, Nat.zero_add, List.getElem?_append_left (show j < 6 from hj)]; rfl
  | k :: ks, i + 1, j, hi, hj => by
    rw [List.flatMap_cons, List.getElem?_append_right (show 6 ≤ (i + 1) * 6 + j by omega), show (i + 1) * 6 + j - (ackCells k).length = i * 6 + j by show (i + 1) * 6 + j - 6 = _; omega]
    exact ack6 ks i j (by simpa using hi) hj
/-- acks in a row that a literal made -/
theorem acks_rd (w : World) (ks : List Int) (cs : Array Value) (hcs : cs = (ks.flatMap ackCells).toArray) : EntsRd (w.alloc (.cells cs 81)) (some ⟨w.heap.size, 0, none⟩) (ks.map ackE) := by
  intro i hi
  rw [List.length_map] at hi
  have hb : (w.alloc (.cells cs 81)).heap[w.heap.size]? = some (.cells (ks.flatMap ackCells).toArray 81 (0, 0)) := by rw [heap_alloc_new, hcs]
  have hx : ∀ j, j < 6 → (ks.flatMap ackCells)[i * 6 + j]? = (ackCells ks[i])[j]? := fun j hj => ack6 ks i j hi hj
  refine ⟨w.heap.size, 0, rfl, none, 0, 0, ?_, ?_⟩
  · rw [List.getElem_map, Nat.zero_add]
    exact ⟨block_cell hb (hx 0 (by omega)), block_cell hb (hx 1 (by omega)), block_cell hb (hx 2 (by omega)), block_cell hb (hx 3 (by omega)), block_cell hb (hx 4 (by omega)), block_cell hb (hx 5 (by omega))⟩
  · rw [List.getElem_map]
    exact ⟨Rd.of_nil _ _, rfl, fun _ => rfl⟩
def aw1 : List F.Fr := [] ++ [S.kept awc] ++ S.puts 1 [ackE 1, ackE 2]
def aw2 : List F.Fr := aw1 ++ S.puts 2 [ackE 3]
theorem pb_aw1 : (F.pbytes aw1).length = 41 + 65 + 65 := by
  simp [aw1, S.puts, S.put, F.pbytes, F.one_length, S.kept, S.cdata_length, S.edata_length, ackE]
theorem pb_aw2 : (F.pbytes aw2).length = 41 + 65 + 65 + 65 := by
  rw [aw2, F.pbytes_append, List.length_append, pb_aw1]
  simp [S.puts, S.put, F.pbytes, F.one_length, S.edata_length, ackE]
theorem aw1_err : F.perr aw1 = 0 := by
  rw [F.perr_zero]
  intro f hf
  simp only [aw1, S.puts, List.nil_append, List.cons_append, List.mem_cons, List.not_mem_nil, or_false] at hf
  rcases hf with rfl | rfl | rfl
  · exact S.kept_err _
  · exact S.put_err _ _ (by simp [ackE])
  · exact S.put_err _ _ (by simp [ackE])
theorem aw1_do : S.sdos S.zero aw1 = some ⟨awc, [ackE 1, ackE 2]⟩ := by
  have h0 : S.may awc = true := by decide
  have h1 := S.sdo_kept S.zero awc h0
  have h2 := S.sdos_puts [ackE 1, ackE 2] (by intro e he; simp at he; rcases he with rfl | rfl <;> exact ack_ok _ ⟨by omega, by omega⟩) ⟨awc, []⟩ 1 (by omega) (by simp) (by simp)
  rw [if_neg (by simp)] at h2
  unfold aw1
  rw [List.nil_append, S.sdos_append]
  simp only [S.sdos, h1, Option.bind_some]
  rw [show (1 : Int) = ((1 : Nat) : Int) from rfl]
  exact h2
theorem aw1_read : S.sread (F.pbytes aw1) = some (⟨awc, [ackE 1, ackE 2]⟩, (F.pbytes aw1).length) := S.sread_put aw1 _ aw1_err aw1_do
theorem aw_crash : (F.pbytes aw2).take (crashAt (F.pbytes aw1).length 0 (F.pbytes aw2).length) = F.pbytes aw1 := by
  have h : crashAt (F.pbytes aw1).length 0 (F.pbytes aw2).length = (F.pbytes aw1).length := by unfold crashAt; simp
  rw [h, aw2, F.pbytes_append, List.take_left' rfl]
/-- all is as the document's example tells -/
def AwPost (w : World) (e : Ending) (w' : World) : Prop := e = .returned (.bool true) ∧ Since w w'
set_option maxHeartbeats 8000000 in
set_option maxRecDepth 100000 in
theorem awake22_any (w : World) : Calls Try.prog 27 #[] w (AwPost w) := by
  have HNEW := Lib.hid (newL w w [] 1048576 (Bank.nil (Below.refl _ _)) (by omega))
  go_enter Try.func27, Try.ntmps27
  go_wp2_with fail
  refine HNEW.out.mono ?_
  rintro e w1 ⟨D, R, rfl, h1⟩
  have HO := Lib.hid (openL w w1 D R 1048576 [] 0 [] [] S.zero 0 h1 (by simp) sread_nil rfl (Nat.le_refl _))
  clear h1 HNEW
  go_wp2_with fail
  refine HO.out.mono ?_
  rintro e w2 ⟨Z, rfl, h2⟩
  have HK := Lib.hid (keepL w w2 D R 1048576 [] 0 Z S.zero [] awc h2 (by decide) (by simp [F.pbytes]) (by omega) (by simp [S.zero]))
  clear h2 HO
  go_wp2_with fail
  refine HK.out.mono ?_
  rintro e w3 ⟨rfl, h3⟩
  have H3 := Lib.hid h3
  clear h3 HK
  go_wp2_with fail
  refine (ack_any 1 w3).mono ?_
  rintro e w4 ⟨rfl, hs4⟩
  have H4 := Lib.hid (H3.out.call hs4)
  clear hs4 H3
  go_wp2_with fail
  refine (ack_any 2 w4).mono ?_
  rintro e w5 ⟨rfl, hs5⟩
  have H5 := Lib.hid (H4.out.call hs5)
  clear hs5 H4
  have H5' := Lib.hid (H5.out.call (Since.alloc (Below.refl w5.heap.size w5) (.cells ([1, 2].flatMap ackCells).toArray 81)))
  have HA := Lib.hid (appL w _ D R 1048576 _ 0 Z ⟨awc, []⟩ [] 1 (some ⟨w5.heap.size, 0, none⟩) 2 2 [ackE 1, ackE 2] H5'.out rfl (acks_rd w5 [1, 2] _ rfl) (by intro e he; simp at he; rcases he with rfl | rfl <;> exact ack_ok _ ⟨by omega, by omega⟩) (by intro e he; simp at he; rcases he with rfl | rfl <;> simp [ackE]) (by
    have h := pb_aw1
    rw [aw1, F.pbytes_append, List.length_append] at h
    omega) (by omega) (by simp))
  clear H5 H5'
  go_wp2_with fail
  refine HA.out.mono ?_
  rintro e w6 (⟨h, _⟩ | ⟨_, rfl, h6⟩)
  · exfalso
    simp at h
  have H6 : Hid (LS w w6 D R 1048576 aw1 0 Z ⟨awc, [ackE 1, ackE 2]⟩ []) := Lib.hid h6
  clear h6 HA
  go_wp2_with fail
  refine (syncL w w6 D R 1048576 _ 0 Z _ [] H6.out).mono ?_
  rintro e w7 ⟨rfl, h7⟩
  have H7 := Lib.hid h7
  clear h7 H6
  go_wp2_with fail
  refine (ack_any 3 w7).mono ?_
  rintro e w8 ⟨rfl, hs8⟩
  have H8 := Lib.hid ((H7.out.call hs8).call (Since.alloc (Below.refl w8.heap.size w8) (.cells ([3].flatMap ackCells).toArray 81)))
  have HA := Lib.hid (appL w _ D R 1048576 _ _ Z ⟨awc, [ackE 1, ackE 2]⟩ [] 2 (some ⟨w8.heap.size, 0, none⟩) 1 1 [ackE 3] H8.out rfl (acks_rd w8 [3] _ rfl) (by intro e he; simp at he; subst he; exact ack_ok _ ⟨by omega, by omega⟩) (by intro e he; simp at he; subst he; simp [ackE]) (by
    have h := pb_aw2
    rw [aw2, F.pbytes_append, List.length_append] at h
    omega) (by omega) (by simp))
  clear H7 H8 hs8
  go_wp2_with fail
  refine HA.out.mono ?_
  rintro e w9 (⟨h, _⟩ | ⟨_, rfl, h9⟩)
  · exfalso
    simp at h
  have H9 : Hid (LS w w9 D R 1048576 aw2 (F.pbytes aw1).length Z ⟨awc, [ackE 1, ackE 3]⟩ []) := Lib.hid h9
  clear h9 HA
  go_wp2_with fail
  refine (entsL w w9 D R 1048576 _ _ Z _ [] H9.out (by simp) (by intro e he; simp at he; rcases he with rfl | rfl <;> simp [ackE])).mono ?_
  rintro e w10 ⟨A, n, c, ys, rfl, hy1, hy2, hB⟩
  have hn : n = 2 := by rw [← hy2, ← List.length_map (f := EV.e), hy1]; rfl
  subst hn
  have H10 := Lib.hid ((H9.out.add hB).df)
  have HY1 := Lib.hid hy1; have HY2 := Lib.hid hy2
  clear hy1 hy2 hB H9
  have HC := Lib.hid (crashD w w10 D R 1048576 _ _ _ 0 H10.out (by rw [pb_aw2]; omega) (by omega))
  rw [aw_crash, show ((0 : Nat) : Int) = 0 from rfl] at HC
  clear H10
  go_wp2_with fail
  refine HC.out.mono ?_
  rintro e w11 ⟨rfl, h11⟩
  have HO := Lib.hid (openL w w11 D R 1048576 _ _ _ aw1 ⟨awc, [ackE 1, ackE 2]⟩ (F.pbytes aw1).length h11 (by rw [pb_aw1]; omega) aw1_read (by rw [List.take_of_length_le (Nat.le_refl _)]) (Nat.le_refl _))
  clear h11 HC
  go_wp2_with fail
  refine HO.out.mono ?_
  rintro e w12 ⟨Z2, rfl, h12⟩
  have H12 := Lib.hid h12
  clear h12 HO
  go_wp2_with fail
  refine (entsL w w12 D R 1048576 _ _ Z2 _ _ H12.out (by simp) (by intro e he; simp at he; rcases he with rfl | rfl <;> simp [ackE])).mono ?_
  rintro e w13 ⟨A3, n3, c3, ys3, rfl, hy1, hy2, hB⟩
  have hn : n3 = 2 := by rw [← hy2, ← List.length_map (f := EV.e), hy1]; rfl
  subst hn
  have H13 := Lib.hid (H12.out.add hB)
  have r1 := outE_rd (L := []) (by have h := H13.out.bank; exact h.sub (List.sublist_append_right _ _)) HY1.out HY2.out
  have r2 := outE_rd H13.out.bank hy1 hy2
  obtain ⟨b1, o1, rfl, _, _, _, ⟨_, _, _, x1, _, _⟩, _⟩ := r1 1 (by simp)
  obtain ⟨b2, o2, rfl, _, _, _, ⟨_, _, _, x2, _, _⟩, _⟩ := r2 1 (by simp)
  clear hy1 hy2 hB H12 HY1 HY2
  have x1' : w13.cell? ⟨b1, o1 + 6 + 3, none⟩ = some (.int .i64 3) := x1
  have x2' : w13.cell? ⟨b2, o2 + 6 + 3, none⟩ = some (.int .i64 2) := x2
  clear x1 x2
  go_wp2_with fail
  refine (cellL w w13 D R 1048576 _ _ Z2 _ _ H13.out).mono ?_
  rintro e w14 ⟨rfl, hs14⟩
  have HFIN := Lib.hid (show AwPost w (.returned (.bool true)) w14 from ⟨rfl, H13.out.since.add hs14⟩)
  unfold awc
  clear hs14 H13
  go_wp2
  go_ret
  exact HFIN.out
end Go.Proofs.Ytfpjmeknjhhakaa.K
