/- The law MacNumbers as a function: it answers true. -/
import Derived.Test.YtjnhfmicadcmnaaDoorMacTags
namespace Go.Proofs.YtjnhfmicadcmnaaDoor.K
open Go Go.RowKit

theorem num_B8 (y : Int) : Value.int .u8 (y % 256) = B8 (BitVec.ofInt 8 y) := by
  rw [B8, BitVec.toNat_ofInt]; congr 1; omega
theorem rowRd_empty (w : World) : RowRd w ⟨none, 0, 0⟩ [] := ⟨Rd.of_nil _ _, rfl, fun _ => rfl⟩
/-- a part of a row -/
theorem rowRd_part {w : World} {g N c : Nat} {bs : List (BitVec 8)} (h : RowRd w ⟨some ⟨g, 0, none⟩, N, c⟩ bs) (lo len c' : Nat) (hl : lo + len ≤ N) : RowRd w ⟨some ⟨g, lo, none⟩, len, c'⟩ ((bs.drop lo).take len) := by
  have hN : bs.length = N := h.len
  refine ⟨fun j hj => ?_, by show _ = len; rw [List.length_take, List.length_drop]; omega, fun h => by cases h⟩
  rw [List.length_take, List.length_drop] at hj
  obtain ⟨b, o, e, hc⟩ := h.rd (lo + j) (by omega)
  obtain ⟨rfl, rfl⟩ : g = b ∧ 0 = o := by simpa using e
  refine ⟨g, lo, rfl, ?_⟩
  rw [Nat.zero_add] at hc
  rw [hc, List.getElem_take, List.getElem_drop]
theorem rowRd_beg {w : World} {g N c : Nat} {bs : List (BitVec 8)} (h : RowRd w ⟨some ⟨g, 0, none⟩, N, c⟩ bs) (len c' : Nat) (hl : len ≤ N) : RowRd w ⟨some ⟨g, 0, none⟩, len, c'⟩ (bs.take len) := by
  have := rowRd_part h 0 len c' (by omega)
  simpa using this
set_option maxHeartbeats 4000000 in
set_option maxRecDepth 100000 in
theorem macnums_any (w : World) (hK : HasK w) (hF : HasF w) :
    Calls Tryd.prog 8 #[] w fun e w' => e = .returned (.bool true) ∧ Since w w' := by
  obtain ⟨i0, hi, hz0, hz1, hz2⟩ := info_parts infoByte
  have HK := Lib.hid hK; have HF := Lib.hid hF
  clear hK hF
  go_enter Tryd.func8, Tryd.ntmps8
  go_wp2_with (at_make; refine wpList_make_full _ rfl _ _ 22 rfl w.heap.size 5 i0 (.int .u8 0) 1 Tryd.underlying22 hi hz0 hz1 _ _ _ _ 300 rfl rfl rfl rfl (by rw [hz2]; omega) (by unfold maxLen; omega) (Nat.le_refl _) ?_; intro w1 hown1 hgrow1)
  have HO1 := Lib.hid (show w1.ownsRow w.heap.size 5 1 (.slice (some ⟨w.heap.size, 0, none⟩) 300 300) 300 (bv (zer 300)) from made_zer hown1)
  have HSX := Lib.hid (show Since w w1 from below_none hgrow1)
  clear hown1 hgrow1
  go_wp2
  go_loopw [2] (fun i wr => ∃ (k : Nat) (bs : List (BitVec 8)), k ≤ 300 ∧ i = .int .i64 (k : Int) ∧ wr.ownsRow w.heap.size 5 1 (.slice (some ⟨w.heap.size, 0, none⟩) 300 300) 300 (bv bs) ∧ Since w wr) (fun i _ => 300 - (intOf i).toNat)
  case atStart => exact ⟨0, _, by omega, rfl, HO1.out, HSX.out⟩
  case round =>
    clear HO1 HSX w1
    obtain ⟨k, bs, hk, rfl, ho, hs⟩ := hrel
    have k0 : (0 : Int) ≤ (k : Int) := by omega
    rcases Nat.lt_or_ge k 300 with h1 | h1
    · have i1 : (k : Int) < 300 := by omega
      have hbl : bs.length = 300 := by have := ho.1; rw [bv_length] at this; omega
      have hc : wr.cell? ⟨w.heap.size, k, none⟩ = some (B8 (bs.getD k 0)) := by
        rw [ho.cellAt k (by omega), bv, List.getElem?_map]
        simp [hbl, h1]
      have hf := ho.frozenAt k
      have ho2 := (ho.stored k (B8 (BitVec.ofInt 8 (7 * (k : Int) + 1)))).1
      have e2 : (bv bs).set k (B8 (BitVec.ofInt 8 (7 * (k : Int) + 1))) = bv (bs.set k (BitVec.ofInt 8 (7 * (k : Int) + 1))) := by simp [bv, List.map_set]
      rw [e2] at ho2
      have HO2 := Lib.hid ho2; have HS2 := Lib.hid (Since.set hs (Nat.le_refl w.heap.size) k (B8 (BitVec.ofInt 8 (7 * (k : Int) + 1))))
      have HNB := Lib.hid (num_B8 (7 * (k : Int) + 1))
      clear ho hs ho2 e2 hbl
      go_wp2_with (with_reducible refine wpList_store_one rfl 5 (.tmp 17) (.tmp 16) rfl ⟨w.heap.size, k, none⟩ (B8 (BitVec.ofInt 8 (7 * (k : Int) + 1))) _ rfl HNB.out rfl (by kernel_rfl) hc hf ?_)
      go_roundw
      case rel => exact ⟨k + 1, _, by omega, by go_num, HO2.out, HS2.out⟩
      case measure => simp [intOf]; omega
    · have i1 : ¬ (k : Int) < 300 := by omega
      obtain ⟨wo, rfl⟩ : ∃ wo : World, wo = wr := ⟨_, rfl⟩
      have RA := Lib.hid (RowRd.of_row ho); have HS := Lib.hid hs; have HKW := Lib.hid (HK.out.below hs); have HFW := Lib.hid (HF.out.below hs)
      clear ho hs HK HF
      go_wp2
      go_loopw [3] (fun i wr => ∃ k : Nat, k ≤ 131 ∧ i = .int .i64 (k : Int) ∧ Since wo wr) (fun i _ => 131 - (intOf i).toNat)
      case atStart => exact ⟨0, by omega, rfl, Below.refl _ _⟩
      case round =>
        obtain ⟨n, hn, rfl, hsn⟩ := hrel
        have n0 : (0 : Int) ≤ (n : Int) := by omega
        rcases Nat.lt_or_ge n 131 with h2 | h2
        · have i2 : (n : Int) ≤ 130 := by omega
          have hmod : (n : Int) % 7 = ((n % 7 : Nat) : Int) := by omega
          have m1 : (0 : Int) ≤ (n : Int) % 7 := by omega
          have m2 : (n : Int) % 7 ≤ 300 := by omega
          have m3 : (n : Int) ≤ 300 := by omega
          have m4 : (n : Int) + 5 ≤ 300 := by omega
          have m5 : (n : Int) ≤ (n : Int) + 5 := by omega
          have m6 : n ≤ n + 5 := by omega
          have hsd : Since wo wr.drew := Since.drew hsn
          have ra := rowRd_beg (RA.out) n 300 (by omega)
          have rb := rowRd_beg (RA.out) ((n : Int) % 7).toNat 300 (by omega)
          have rc := rowRd_part (RA.out) n 5 (300 - n) (by omega)
          have rd := rowRd_beg (RA.out) 32 300 (by omega)
          have HSN := Lib.hid hsn
          clear hmod hsn
          go_wp2_with fail
          have t1 : (n : Int).tmod 7 = (n : Int) % 7 := Int.tmod_eq_emod_of_nonneg n0
          have t5 : ¬ 300 = n := by omega
          have t2 : IntKind.i64.wrap ((n : Int) + 5) = (n : Int) + 5 := IntWalk.i64_in _ (by omega)
          have t3 : ((n : Int) + 5).toNat = n + 5 := by omega
          have t4 : (0 : Int) ≤ (n : Int) + 5 := by omega
          have t7 : n + 5 - n = 5 := by omega
          go_region_held3 (fun w' => Since wo w')
            (first
              | with_reducible exact hse2
              | with_reducible exact hse1
              | with_reducible exact hsd
              | fail "keep")
            (first
              | (go_at_call 7; ((with_reducible refine (mactags_any (some ⟨w.heap.size, 0, none⟩) (some ⟨w.heap.size, 0, none⟩) none n 300 ((n : Int) % 7).toNat 300 0 0 _ _ [] _ (Since.row hsd ra) (Since.row hsd rb) (rowRd_empty _) (by omega) (by omega) (by omega) (HKW.out.below hsd) (HFW.out.below hsd)).mono ?_); rintro e w7 ⟨rfl, hb7⟩; have hse1 := Since.add hsd hb7))
              | (go_at_call 7; ((with_reducible refine (mactags_any (some ⟨w.heap.size, n, none⟩) (some ⟨w.heap.size, 0, none⟩) (some ⟨w.heap.size, 0, none⟩) 5 (300 - n) n 300 32 300 _ _ _ _ (Since.row hse1 rc) (Since.row hse1 ra) (Since.row hse1 rd) (by omega) (by omega) (by omega) (HKW.out.below hse1) (HFW.out.below hse1)).mono ?_); rintro e w8 ⟨rfl, hb8⟩; have hse2 := Since.add hse1 hb8))
              | fail "arm")
          have HSE := Lib.hid hse2
          clear hsd hse1 hse2 ra rb rc rd t1 t5 t2 t3 t4 t7 m1 m2 m3 m4 m5 m6
          go_wp2_with fail
          go_roundw
          case rel => exact ⟨n + 1, by omega, by go_num, HSE.out⟩
          case measure => simp [intOf]; omega
        · have i2 : ¬ (n : Int) ≤ 130 := by omega
          have re := rowRd_empty wr
          have SN := Lib.hid (HS.out.add hsn)
          have HK2 := Lib.hid (HKW.out.below hsn); have HF2 := Lib.hid (HFW.out.below hsn)
          clear hsn
          go_wp2_with fail
          refine (mactags_any none none none 0 0 0 0 0 0 [] [] [] wr re re re (by omega) (by omega) (by omega) HK2.out HF2.out).mono ?_
          rintro e w7 ⟨rfl, hb7⟩
          have S7 := Lib.hid (SN.out.add hb7); have HK7 := Lib.hid (HK2.out.below hb7); have HF7 := Lib.hid (HF2.out.below hb7)
          clear hb7
          go_wp2_with fail
          refine (awake5_any w7 HK7.out HF7.out).mono ?_
          rintro e w8 ⟨rfl, hb8⟩
          have S8 := Lib.hid (S7.out.add hb8)
          clear hb8
          go_wp2_with fail
          go_ret
          exact ⟨rfl, S8.out⟩
end Go.Proofs.YtjnhfmicadcmnaaDoor.K
