/- The contract of barbicanlaw05.MacFits: it tells true of any key, bytes and numbers. -/
import Derived.Test.YtjnhfmicadcmnaaDoorMacFitsS
namespace Go.Proofs.YtjnhfmicadcmnaaDoor.K
open Go Go.RowKit

set_option maxHeartbeats 4000000 in
set_option maxRecDepth 100000 in
theorem macfits_any (A B : Option Addr) (n c m d : Nat) (key bs : List (BitVec 8)) (at' bit : Int) (w : World) (hk : RowRd w ⟨A, n, c⟩ key) (hr : RowRd w ⟨B, m, d⟩ bs) (hn : n ≤ 9223372036854775807) (hm : m ≤ 9223372036854775807) (hK : HasK w) (hF : HasF w) :
    Calls Tryd.prog 9 #[.slice A n c, .slice B m d, .int .i64 at', .int .i64 bit] w fun e w' => e = .returned (.bool true) ∧ Since w w' := by
  have HK := Lib.hid hK; have HF := Lib.hid hF; have HKY := Lib.hid hk; have HR := Lib.hid hr
  have HLK := Lib.hid (show key.length = n from hk.len); have HLB := Lib.hid (show bs.length = m from hr.len)
  clear hK hF hk hr
  go_enter Tryd.func9, Tryd.ntmps9
  go_wp2_with fail
  refine (awake5_any w HK.out HF.out).mono ?_
  rintro e w1 ⟨rfl, hs⟩
  have S1 := Lib.hid hs
  clear hs
  by_cases h1 : n ≤ 4000
  case neg =>
    have i1 : (4000 : Int) < (n : Int) := by omega
    go_wp2_with fail
    go_ret
    exact ⟨rfl, S1.out⟩
  have i1 : ¬ (4000 : Int) < (n : Int) := by omega
  have d1 : decide ((4000 : Int) < (n : Int)) = false := by simpa using i1
  by_cases h2 : m ≤ 4000
  case neg =>
    have i2 : (4000 : Int) < (m : Int) := by omega
    go_wp2_with fail
    go_ret
    exact ⟨rfl, S1.out⟩
  have i2 : ¬ (4000 : Int) < (m : Int) := by omega
  have d2 : decide ((4000 : Int) < (m : Int)) = false := by simpa using i2
  have KY1 := Lib.hid (S1.out.row HKY.out); have RB1 := Lib.hid (S1.out.row HR.out); have HK1 := Lib.hid (HK.out.below S1.out); have HF1 := Lib.hid (HF.out.below S1.out)
  have V1 := Lib.hid (Bank.nil (Below.refl w1.heap.size w1))
  clear HKY HR HK HF
  go_wp2_with fail
  refine (tag_any _ _ n c m d key bs w1 KY1.out RB1.out (by omega) (by omega) HK1.out HF1.out).mono ?_
  rintro e w2 ⟨g2, N2, c2, rfl, hN2, ho2, hb2⟩
  obtain rfl : N2 = 32 := hN2
  have hc2 := (own_cap ho2).1
  have V2 := Lib.hid (V1.out.madeB hb2 ho2)
  have S2 := Lib.hid V2.out.since
  have R31 := Lib.hid (RowRd.of_row (own_take ho2 (k := 31) (by omega)))
  clear ho2 hb2 V1
  have R2 := Lib.hid (V2.out.row 0 rfl)
  have HLT := Lib.hid (M.tag_length key bs)
  go_wp2_with fail
  refine (fits_any _ _ _ n c m d 32 c2 key bs (M.tag key bs) w2 (S2.out.row KY1.out) (S2.out.row RB1.out) R2.out (by omega) (by omega) (by omega) (HK1.out.below S2.out) (HF1.out.below S2.out)).mono ?_
  rintro e w3 ⟨rfl, hb3⟩
  rw [decide_eq_true rfl]
  have V3 := Lib.hid (V2.out.call hb3)
  have S3 := Lib.hid V3.out.since
  have R31' := Lib.hid (Since.row hb3 R31.out)
  clear hb3 V2 S2 R31 R2
  go_wp2_with fail
  refine (fits_any _ _ _ n c m d 31 c2 key bs ((M.tag key bs).take 31) w3 (S3.out.row KY1.out) (S3.out.row RB1.out) R31'.out (by omega) (by omega) (by omega) (HK1.out.below S3.out) (HF1.out.below S3.out)).mono ?_
  rintro e w4 ⟨rfl, hb4⟩
  rw [decide_eq_false (fun h => by have h2 := congrArg List.length h; rw [List.length_take, HLT.out] at h2; simp at h2)]
  have V4 := Lib.hid (V3.out.call hb4)
  clear hb4 V3 S3 R31'
  have R4 := Lib.hid (V4.out.row 0 rfl)
  go_wp2_with fail
  refine (copy_made (w := w4) R4.out (by omega)).mono ?_
  rintro e w5 ⟨A5, c5, rfl, ho5, hb5⟩
  have V5 := Lib.hid (V4.out.madeB hb5 ho5)
  clear ho5 hb5 V4 R4
  have V5' := Lib.hid (V5.out.litV #[.int .u8 0] 5 (by decide))
  have R5' := Lib.hid (row_lit w5 #[.int .u8 0] 5 [0#8] 1 1 rfl rfl)
  go_wp2_with (at_builtin; refine wpList_append_bytesW V5'.out (by rfl) _ _ 22 rfl 5 infoByte Tryd.underlying22 1 _ _ _ _ rfl rfl _ _ _ _ rfl R5'.out (by omega) ?_; intro A6 n6 c6 w6 hn6 hB6; dsimp only [List.set] at hB6; have V6 := Lib.hid hB6; have hn6' := Nat.le_of_eq hn6; clear hB6 hn6)
  have S6 := Lib.hid V6.out.since
  have R6 := Lib.hid (V6.out.row 1 rfl)
  have HN6 := Lib.hid (show (M.tag key bs ++ [0#8]).length = n6 from R6.out.len)
  clear V5 V5' R5'
  refine (fits_any _ _ _ n c m d n6 c6 key bs (M.tag key bs ++ [0#8]) w6 (S6.out.row KY1.out) (S6.out.row RB1.out) R6.out (by omega) (by omega) (by omega) (HK1.out.below S6.out) (HF1.out.below S6.out)).mono ?_
  rintro e w7 ⟨rfl, hb7⟩
  rw [decide_eq_false (fun h => by have h2 := congrArg List.length h; rw [List.length_append, HLT.out] at h2; simp at h2)]
  have V7 := Lib.hid (V6.out.call hb7)
  have S7 := Lib.hid V7.out.since
  clear hb7 V6 S6 R6 HN6 hn6'
  go_wp2_with fail
  refine (fits_any _ _ none n c m d 0 0 key bs [] w7 (S7.out.row KY1.out) (S7.out.row RB1.out) (rowRd_nil _) (by omega) (by omega) (by omega) (HK1.out.below S7.out) (HF1.out.below S7.out)).mono ?_
  rintro e w8 ⟨rfl, hb8⟩
  rw [decide_eq_false (fun h => by have h2 := congrArg List.length h; rw [HLT.out] at h2; simp at h2)]
  have V8 := Lib.hid (V7.out.call hb8)
  clear hb8 V7 S7
  have R8 := Lib.hid (V8.out.row 2 rfl)
  go_wp2_with fail
  refine (copy_made (w := w8) R8.out (by omega)).mono ?_
  rintro e w9 ⟨A9, c9, rfl, ho9, hb9⟩
  have V9 := Lib.hid (V8.out.madeB hb9 ho9)
  have S9 := Lib.hid V9.out.since
  obtain ⟨g9, rfl⟩ := own_somes ho9 (by omega)
  have hp0 := pick_lo at' 32 (by omega)
  have hp1 := pick_hi at' 32 (by omega)
  obtain ⟨pk, hpk⟩ : ∃ pk : Nat, pick at' 32 = (pk : Int) := ⟨(pick at' 32).toNat, by omega⟩
  have hpk2 : pk < 32 := by omega
  have hq0 := pick_lo bit 8 (by omega)
  have hq1 := pick_hi bit 8 (by omega)
  obtain ⟨qk, hqk⟩ : ∃ qk : Nat, pick bit 8 = (qk : Int) := ⟨(pick bit 8).toNat, by omega⟩
  have hqk2 : qk < 8 := by omega
  have cu := own_cell ho9 pk ((M.tag key bs).getD pk 0) (by rw [M.tag_length]; omega) rfl
  have fu := ho9.frozenAt pk
  obtain ⟨ho10, _⟩ := ho9.stored pk (B8 ((M.tag key bs).getD pk 0 ^^^ (1#8 <<< qk)))
  have hg9 : w8.heap.size ≤ g9 := (row_lt ho9).1
  have PK := Lib.hid hpk; have QK := Lib.hid hqk
  have e10 : (bv (M.tag key bs)).set pk (B8 ((M.tag key bs).getD pk 0 ^^^ (1#8 <<< qk))) = bv ((M.tag key bs).set pk ((M.tag key bs).getD pk 0 ^^^ (1#8 <<< qk))) := by simp [bv, List.map_set]
  rw [e10] at ho10
  have HO10 := Lib.hid ho10; have S8 := Lib.hid V8.out.since
  have S89 := Lib.hid (show Since w8 w9 from hb9)
  clear ho9 hb9 ho10 e10 hpk hqk hp0 hp1 hq0 hq1
  go_wp2_with fail
  refine (Pick_any at' 32 _ (by omega) (by omega)).mono ?_
  rintro e w9' ⟨rfl, rfl⟩
  rw [PK.out]
  have i3 : (0 : Int) ≤ (pk : Int) := by omega
  have i4 : (pk : Int) < 32 := by omega
  have i5 : (0 : Int) ≤ (qk : Int) := by omega
  have i6 : (qk : Int) < 8 := by omega
  have hcvu : IntKind.u64.wrap (qk : Int) = (qk : Int) := by rw [wrap_u64']; omega
  have hshl : ∀ t, binOp .shl t (.int .u8 1) (.int .u64 (qk : Int)) = pure (B8 (1#8 <<< qk)) := fun t => by
    have := B8_shl' t (1#8) .u64 qk
    exact this
  go_wp2_with fail
  refine wp_region_still_tail 12 (by kernel_rfl) (by kernel_rfl) ?_
  simp only [List.take_succ_cons, List.take_zero, List.drop_succ_cons, List.drop_zero]
  repeat (first | still_step | (refine wpStill_step (fun K hK => ?_); go_simp; refine ⟨_, pick_still _ _ _ (by decide) (by decide), hK _ ?_⟩; clear hK K; rw [QK.out]))
  refine wpStill_nil ?_
  change wpList _ _ _ _ _ w9.drew
  have s10 : Since w8 (w9.drew.setCell ⟨g9, pk, none⟩ (B8 ((M.tag key bs).getD pk 0 ^^^ (1#8 <<< qk)))) := Since.set (Since.drew S89.out) hg9 _ _
  have r10 : RowRd (w9.drew.setCell ⟨g9, pk, none⟩ (B8 ((M.tag key bs).getD pk 0 ^^^ (1#8 <<< qk)))) ⟨some ⟨g9, 0, none⟩, 32, c9⟩ ((M.tag key bs).set pk ((M.tag key bs).getD pk 0 ^^^ (1#8 <<< qk))) := RowRd.of_row HO10.out
  have S10 := Lib.hid s10; have R10 := Lib.hid r10
  have HNE := Lib.hid (flip_ne (M.tag key bs) pk (by rw [M.tag_length]; exact hpk2) qk hqk2)
  clear s10 r10 hcvu hshl
  refine wpList_store_one rfl _ _ _ rfl ⟨g9, pk, none⟩ (B8 ((M.tag key bs).getD pk 0 ^^^ (1#8 <<< qk))) _ rfl rfl rfl (by kernel_rfl) cu fu ?_
  generalize w9.drew.setCell ⟨g9, pk, none⟩ (B8 ((M.tag key bs).getD pk 0 ^^^ (1#8 <<< qk))) = w10 at *
  clear cu fu V9 S9 S89 HO10 PK QK
  have T8 := Lib.hid (V8.out.row 2 rfl)
  have S18 := Lib.hid (Since.add S8.out S10.out)
  go_wp2_with fail
  refine (fits_any _ _ _ n c m d 32 c9 key bs _ w10 (S18.out.row KY1.out) (S18.out.row RB1.out) R10.out (by omega) (by omega) (by omega) (HK1.out.below S18.out) (HF1.out.below S18.out)).mono ?_
  rintro e w11 ⟨rfl, hb11⟩
  rw [decide_eq_false HNE.out]
  have S8b := Lib.hid (Since.add S10.out hb11)
  have S1b := Lib.hid (Since.add S18.out hb11)
  clear hb11 S10 R10 HNE S18
  have T11 := Lib.hid (S8b.out.row T8.out); have KY11 := Lib.hid (S1b.out.row KY1.out); have RB11 := Lib.hid (S1b.out.row RB1.out); have HK11 := Lib.hid (HK1.out.below S1b.out); have HF11 := Lib.hid (HF1.out.below S1b.out)
  have SW := Lib.hid (Since.add S1.out S1b.out)
  clear S8b T8 V8 S8 R8 S1b KY1 RB1 HK1 HF1 S1
  by_cases h64 : 64 < n
  · have j1 : (64 : Int) < (n : Int) := by omega
    go_wp2_with fail
    refine (Sum_any A n c key w11 KY11.out.rd HLK.out (by omega) HK11.out HF11.out).mono ?_
    rintro e w12 ⟨g12, c12, rfl, ho12, hb12⟩
    have RS := Lib.hid (RowRd.of_row ho12); have S12 := Lib.hid (show Since w11 w12 from hb12)
    clear ho12 hb12
    go_wp2_with fail
    refine (tag_any _ _ 32 c12 m d (M.sum key) bs w12 RS.out (S12.out.row RB11.out) (by omega) (by omega) (HK11.out.below S12.out) (HF11.out.below S12.out)).mono ?_
    rintro e w13 ⟨g13, N13, c13, rfl, hN13, ho13, hb13⟩
    obtain rfl : N13 = 32 := hN13
    rw [M.tag_sum key bs (by rw [HLK.out]; exact h64)] at ho13
    have R13 := Lib.hid (RowRd.of_row ho13); have S13 := Lib.hid (S12.out.add hb13)
    clear ho13 hb13 S12 RS
    go_wp2_with fail
    refine (same_made (w0 := w13) R13.out (S13.out.row T11.out) (by omega) (Below.refl _ _)).mono ?_
    rintro e w14 ⟨rfl, hb14⟩
    have SE := Lib.hid (SW.out.add (S13.out.add hb14))
    clear hb14 S13 R13
    go_wp2_with fail
    go_ret
    exact ⟨rfl, SE.out⟩
  · have j1 : ¬ (64 : Int) < (n : Int) := by omega
    have hn64 : n ≤ 64 := by omega
    have hsub : (64 : Int) - (n : Int) = ((64 - n : Nat) : Int) := by omega
    have HSUB := Lib.hid hsub
    clear hsub
    go_wp2_with fail
    refine (copy_made (w := w11) KY11.out (by omega)).mono ?_
    rintro e w12 ⟨A12, c12, rfl, ho12, hb12⟩
    have V12 := Lib.hid ((Bank.nil (Below.refl w11.heap.size w11)).madeB hb12 ho12)
    have E64 := Lib.hid (show n + (64 - n) = 64 by omega)
    clear ho12 hb12
    go_wp2_with (at_builtin; refine wpList_append_zeros V12.out rfl _ _ 22 3 rfl 5 infoByte Tryd.underlying22 Tryd.underlying3 0 _ _ _ _ rfl rfl (64 - n) _ rfl HSUB.out (by omega) ?_; intro A13 c13 w13 hB13; dsimp only [List.set] at hB13; rw [E64.out] at hB13 ⊢; have V13 := Lib.hid hB13; clear hB13)
    have S13 := Lib.hid V13.out.since
    have R13 := Lib.hid (V13.out.row 0 rfl)
    clear V12 E64
    go_wp2_with fail
    refine (tag_any _ _ 64 c13 m d (key ++ zer (64 - n)) bs w13 R13.out (S13.out.row RB11.out) (by omega) (by omega) (HK11.out.below S13.out) (HF11.out.below S13.out)).mono ?_
    rintro e w14 ⟨g14, N14, c14, rfl, hN14, ho14, hb14⟩
    obtain rfl : N14 = 32 := hN14
    rw [show key ++ zer (64 - n) = key ++ List.replicate (64 - key.length) 0#8 by rw [HLK.out]; rfl, M.tag_pad key bs (by rw [HLK.out]; exact hn64)] at ho14
    have R14 := Lib.hid (RowRd.of_row ho14); have S14 := Lib.hid (S13.out.add hb14)
    clear ho14 hb14 S13 R13 V13
    go_wp2_with fail
    refine (same_made (w0 := w14) R14.out (S14.out.row T11.out) (by omega) (Below.refl _ _)).mono ?_
    rintro e w15 ⟨rfl, hb15⟩
    have SE := Lib.hid (SW.out.add (S14.out.add hb15))
    clear hb15 S14 R14
    go_wp2_with fail
    go_ret
    exact ⟨rfl, SE.out⟩
end Go.Proofs.YtjnhfmicadcmnaaDoor.K
