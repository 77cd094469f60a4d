/- The law WireNumbers as a function: it answers true. -/
import Derived.Test.YtjnhfmicadcmnaaWireNums
namespace Go.Proofs.Ytjnhfmicadcmnaa.K
open Go Go.RowKit

def numsV : Array Value := #[.int .i64 (-9223372036854775808), .int .i64 (-1), .int .i64 0, .int .i64 1, .int .i64 2, .int .i64 3, .int .i64 4, .int .i64 5, .int .i64 6, .int .i64 255, .int .i64 256, .int .i64 2147483648, .int .i64 4294967296, .int .i64 9223372036854775807]
theorem kind_eq (y : Int) : Value.int .u8 (IntKind.u8.wrap y) = B8 (BitVec.ofInt 8 y) := by
  have h : IntKind.u8.wrap y = ((BitVec.ofInt 8 y).toNat : Int) := by
    rw [IntKind.wrap_u8', BitVec.toNat_ofInt]; omega
  rw [B8, h]
def NRel1 (w : World) (i : Value) (wr : World) : Prop := ∃ k : Nat, k ≤ 14 ∧ i = .int .i64 (k : Int) ∧ Since w wr
set_option maxHeartbeats 8000000 in
set_option maxRecDepth 100000 in
theorem wnumbers_any (w : World) : Calls Try.prog 6 #[] w fun e w' => e = .returned (.bool true) ∧ Below w.heap.size w w' := by
  have h0 : Below w.heap.size w (w.alloc (.cells numsV 3)) := (Below.refl _ _).alloc (Nat.le_refl _) _
  have hn0 : Nums (w.alloc (.cells numsV 3)) (some ⟨w.heap.size, 0, none⟩) 14 := nums_of (World.ownsRow_lit (base := w.heap.size) (size := 1) w numsV 14 (Nat.le_refl _) (by unfold maxLen; omega) rfl) (by decide)
  have H0 := Lib.hid h0; have HN0 := Lib.hid hn0
  clear h0 hn0
  go_enter Try.func6, Try.ntmps6
  go_upto_region 2 with fail
  change Code.wp _ _ _ _ (w.alloc (.cells numsV 3))
  have hw0z : w.heap.size < (w.alloc (.cells numsV 3)).heap.size := by simp
  generalize w.alloc (.cells numsV 3) = w0 at *
  go_wp2
  go_loopw [2] (fun i wr => NRel1 w0 i wr) (fun i _ => 14 - (intOf i).toNat)
  case atStart => exact ⟨0, by omega, rfl, Below.refl _ _⟩
  case round =>
    obtain ⟨k, hk, rfl, hs⟩ := hrel
    have k0 : (0 : Int) ≤ (k : Int) := by omega
    have HS := Lib.hid hs
    clear hs
    by_cases hlt : k < 14
    · have i1 : (k : Int) < 14 := by omega
      obtain ⟨ob, oo, z, hA, hc0⟩ := HN0.out k hlt
      obtain ⟨rfl, rfl⟩ : w.heap.size = ob ∧ 0 = oo := by simpa using hA
      rw [Nat.zero_add] at hc0
      have hc := cellS hc0 HS.out
      clear hA hc0
      go_wp2_with fail
      refine (rnum_made z wr).mono ?_
      rintro e w1 ⟨g, N, c, rfl, hN, ho, hb⟩
      have hN8 : N = 8 := hN
      subst hN8
      have HB1 := Lib.hid ((Bank.nil (Below.refl wr.heap.size wr)).madeB hb ho)
      have hc1 := cellS hc hb
      have HS1 := Lib.hid (Since.add HS.out hb)
      clear hN ho hb
      go_upto_region 6 with fail
      go_cut [56] (fun s56 wx => s56 = .bool false ∧ RowRd wx ⟨some ⟨g, 0, none⟩, 8, c⟩ (M.num z) ∧ Since wr wx)
      case first =>
        have hB := HB1.out.drew
        go_region_held3 (fun w' => w'.cell? ⟨w.heap.size, k, none⟩ = some (.int .i64 z))
          (first
            | with_reducible exact cellS hc hB.since
            | with_reducible exact cellS hc (Bank.litV hB _ _ (by decide)).since
            | with_reducible exact cellS hc (Bank.litV2 hB _ _ _ _ (by decide) (by decide)).since)
          (first
            | (go_at_call 3; rw [kind_eq (IntKind.i64.wrap ((k : Int) * 20))]; (first | ((with_reducible refine calls_bank (hB) ?_); intro hB) | ((with_reducible refine calls_bank (Bank.drew hB) ?_); intro hB) | ((with_reducible refine calls_bank (Bank.litV hB _ _ (by decide)) ?_); intro hB) | ((with_reducible refine calls_bank (Bank.litV2 hB _ _ _ _ (by decide) (by decide)) ?_); intro hB)); refine (wputs_any z _ 8 c (M.num z) ⟨z, BitVec.ofInt 8 (IntKind.i64.wrap ((k : Int) * 20)), IntKind.i64.wrap (-z), IntKind.i64.wrap (z + 1), ((k : Int).tmod 2 == 0), M.num z⟩ _ 8 c _ (hB.row 0 rfl) (hB.row 0 rfl) (by decide) (by decide)).mono ?_; rintro e w2 ⟨rfl, hb2⟩; have hB := hB.call hb2; clear hb2)
            | (go_at_call 4; (first | ((with_reducible refine calls_bank (hB) ?_); intro hB) | ((with_reducible refine calls_bank (Bank.drew hB) ?_); intro hB) | ((with_reducible refine calls_bank (Bank.litV hB _ _ (by decide)) ?_); intro hB) | ((with_reducible refine calls_bank (Bank.litV2 hB _ _ _ _ (by decide) (by decide)) ?_); intro hB)); refine (wreads_any _ _ _ _ _ _ _ _ (hB.row 2 rfl) (nums_of (hB.at 0 rfl) rfl) (by omega) (by decide)).mono ?_; rintro e w4 ⟨rfl, hb4⟩; have hRk := RowRd.below (by first | exact hRk | exact hRk.below ((Below.refl _ _).alloc (Nat.le_refl _) _)) hb4; have hB := hB.call hb4; clear hb4)
            | ((first | ((with_reducible refine step_bank (hB) ?_); intro hB) | ((with_reducible refine step_bank (Bank.drew hB) ?_); intro hB) | ((with_reducible refine step_bank (Bank.litV hB _ _ (by decide)) ?_); intro hB) | ((with_reducible refine step_bank (Bank.litV2 hB _ _ _ _ (by decide) (by decide)) ?_); intro hB)); refine step_append_bytesK hB (by rfl) _ _ 22 rfl 5 infoByte Try.underlying22 1 g 8 c (M.num z) rfl rfl _ _ _ [1, 2, 3, 4] rfl (RowRd.of_row (bs := [1, 2, 3, 4]) (hB.at 0 rfl)) (by decide) (by decide) ?_; intro A' n' c' w3 hn' hB hRk; have hn'' := Nat.le_of_eq hn'; clear hn'; dsimp only [List.set] at hB)
            | ((first | ((with_reducible refine step_bank (hB) ?_); intro hB) | ((with_reducible refine step_bank (Bank.drew hB) ?_); intro hB) | ((with_reducible refine step_bank (Bank.litV hB _ _ (by decide)) ?_); intro hB) | ((with_reducible refine step_bank (Bank.litV2 hB _ _ _ _ (by decide) (by decide)) ?_); intro hB)); refine step_append_bytesK hB (by rfl) _ _ 22 rfl 5 infoByte Try.underlying22 2 g 8 c (M.num z) rfl rfl _ _ _ [1, 2, 3, 4] rfl (RowRd.of_row (bs := [1, 2, 3, 4]) (hB.at 1 rfl)) (by decide) (by decide) ?_; intro A' n' c' w3 hn' hB hRk; have hn'' := Nat.le_of_eq hn'; clear hn'; dsimp only [List.set] at hB)
            | ((first | ((with_reducible refine step_bank (hB) ?_); intro hB) | ((with_reducible refine step_bank (Bank.drew hB) ?_); intro hB) | ((with_reducible refine step_bank (Bank.litV hB _ _ (by decide)) ?_); intro hB) | ((with_reducible refine step_bank (Bank.litV2 hB _ _ _ _ (by decide) (by decide)) ?_); intro hB)); refine step_append_bytesK hB (by rfl) _ _ 22 rfl 5 infoByte Try.underlying22 2 g 8 c (M.num z) rfl rfl _ _ _ [1, 2, 3, 4] rfl (RowRd.of_row (bs := [1, 2, 3, 4]) (hB.at 0 rfl)) (by decide) (by decide) ?_; intro A' n' c' w3 hn' hB hRk; have hn'' := Nat.le_of_eq hn'; clear hn'; dsimp only [List.set] at hB; have hB := hB.swap))
        all_goals
          have HFIN := Lib.hid (show RowRd w4 ⟨some ⟨g, 0, none⟩, 8, c⟩ (M.num z) ∧ Since wr w4 from ⟨hRk, hB.since⟩)
          clear hB hRk
          go_wp2_with fail
          go_meet
          exact ⟨rfl, HFIN.out⟩
      case rest =>
        obtain ⟨rfl, hRb, hsx⟩ := hcut
        have HRB := Lib.hid hRb; have HSW := Lib.hid (Since.add HS.out hsx)
        clear hRb hsx hc hc1 HB1 HS1 HS
        generalize hwi : wc = wi at *
        clear hwi
        go_wp2
        go_loopw [4, 5] (fun i _ wr => ∃ j : Nat, j ≤ 6 ∧ i = .int .i64 (j : Int) ∧ Since wi wr) (fun i _ _ => 6 - (intOf i).toNat)
        case atStart => exact ⟨0, by omega, rfl, Below.refl _ _⟩
        case round =>
          obtain ⟨j, hj, rfl, hsj⟩ := hrel
          have j0 : (0 : Int) ≤ (j : Int) := by omega
          have HSJ := Lib.hid hsj
          clear hsj
          by_cases hjt : j < 6
          · have j1 : (j : Int) < 6 := by omega
            go_wp2_with fail
            refine (rentry_made (w0 := wr.alloc (.cells #[.int .u8 5, .int .u8 6] 5)) (e := ⟨1, 2#8, 3, 4, true, [5, 6]⟩) (row_lit wr _ _ [5, 6] 2 2 rfl rfl) (by omega) (Below.refl _ _)).mono ?_
            rintro e' w2 ⟨ge, Ne, ce, rfl, hNe, hoe, hbe⟩
            obtain rfl : Ne = 50 := hNe
            obtain ⟨cur, hcur, hBg, hnc, hcm, hcl, htk⟩ := own_parts hoe
            have hal := (Below.refl wr.heap.size wr).alloc (Nat.le_refl _) (.cells #[.int .u8 5, .int .u8 6] 5)
            have HS2 := Lib.hid (Since.add hal hbe)
            have hgx : wr.heap.size ≤ ge := Nat.le_trans hal.size hBg
            have HCUR := Lib.hid hcur; have HTK := Lib.hid htk; have HCL := Lib.hid hcl
            have hcm' : ce ≤ 9223372036854775807 := by unfold maxLen at hcm; omega
            have HCM := Lib.hid hcm
            have p0 : (0 : Int) ≤ 8 * (j : Int) := by omega
            have p1 : 8 * (j : Int) ≤ 50 := by omega
            have p2 : 8 * (j : Int) ≤ (ce : Int) := by omega
            have p3 : (8 * (j : Int)).toNat = 8 * j := by omega
            have p4 : ¬ ce = 8 * j := by omega
            have RBX := Lib.hid (Since.row (Since.add HSJ.out HS2.out) HRB.out)
            clear hoe hbe hcur hBg hcm hcl htk hal
            go_wp2_with (refine wpList_copy_splice rfl (.tmp 67) (.tmp 68) 22 22 rfl 5 Try.underlying22 infoByteSz _ _ (50 - 8 * j) (ce - 8 * j) 8 c rfl rfl ge (8 * j) cur 5 HCUR.out (bv (M.num z)) ?_ (fun _ => ⟨rfl, _, rfl, RBX.out.rd.cells _ rfl⟩) ?_ (bv_one _) wr.heap.size wr HS2.out hgx ?_)
            · rw [bv_length, M.num_length]; exact (Nat.min_eq_left (by omega)).symm
            · rw [bv_length, M.num_length, HCL.out]; omega
            intro w3 hg3 hb3
            have ho3 := own_copied (B := wr.heap.size) hgx hnc HCM.out HCL.out HTK.out hg3 (by rw [M.num_length]; omega) rfl
            have BK3 := Lib.hid ((Bank.nil (show Since wr w3 from hb3)).add ho3 (Nat.le_refl _) (fun _ h => by cases h))
            clear hg3 hb3 ho3 HCUR HTK HCL HCM p0 p1 p2 p3 p4 RBX HS2
            go_wp2_with fail
            have BK3' := Lib.hid (BK3.out.litV #[.int .i64 2, .int .i64 0] 3 (by decide))
            refine (wreads_any _ 50 ce _ _ 2 2 _ (BK3'.out.row 1 rfl) (nums_of (BK3'.out.at 0 rfl) rfl) (by omega) (by omega)).mono ?_
            rintro e' w4 ⟨rfl, hb4⟩
            have BK4 := Lib.hid (BK3'.out.call hb4)
            clear hb4 BK3 BK3'
            go_wp2_with (at_builtin; refine wpList_append_bytesW BK4.out (by rfl) _ _ 22 rfl 5 infoByte Try.underlying22 1 _ _ _ _ rfl rfl _ _ _ _ rfl (BK4.out.row 1 rfl) (by omega) ?_; intro A5 n5 c5 w5 hn5 hB5; dsimp only [List.set] at hB5; have BK5 := Lib.hid hB5; have hn5' := Nat.le_of_eq hn5; clear hB5 hn5)
            have BK5' := Lib.hid (BK5.out.litV #[.int .i64 2, .int .i64 2, .int .i64 2] 3 (by decide))
            refine (wreads_any _ n5 c5 _ _ 3 3 _ (BK5'.out.row 2 rfl) (nums_of (BK5'.out.at 0 rfl) rfl) (by omega) (by omega)).mono ?_
            rintro e' w6 ⟨rfl, hb6⟩
            have HS6 := Lib.hid (HSJ.out.trans ((BK5'.out.since.add hb6).mono HSJ.out.size))
            clear hb6 BK5 BK5' BK4
            go_wp2_with fail
            go_roundw
            case rel => exact ⟨j + 1, by omega, by go_num, HS6.out⟩
            case measure => simp [intOf]; omega
          · have j1 : ¬ (j : Int) < 6 := by omega
            have HS7 := Lib.hid (Since.add HSW.out HSJ.out)
            go_wp2_with fail
            go_roundw
            case rel => exact ⟨k + 1, by omega, by go_num, HS7.out⟩
            case measure => simp [intOf]; omega
    · have i1 : ¬ (k : Int) < 14 := by omega
      go_wp2_with fail
      refine (rentry_made (w0 := wr.alloc (.cells #[.int .u8 9, .int .u8 8, .int .u8 7] 5)) (e := ⟨7, 1#8, 0, 0, true, [9, 8, 7]⟩) (row_lit wr _ _ [9, 8, 7] 3 3 rfl rfl) (by omega) (Below.refl _ _)).mono ?_
      rintro e' w2 ⟨ge, Ne, ce, rfl, hNe, hoe, hbe⟩
      obtain rfl : Ne = 51 := hNe
      have hroom := row_room hoe
      have hce1 := hroom.1
      have hce2 := hroom.2.1
      have hal := (Below.refl wr.heap.size wr).alloc (Nat.le_refl _) (.cells #[.int .u8 9, .int .u8 8, .int .u8 7] 5)
      have HS2 := Lib.hid (Since.add HS.out (Since.add hal hbe)); have RE := Lib.hid (RowRd.of_row hoe)
      clear hoe hbe hroom hal HS
      by_cases hc51 : ce = 51
      · subst hc51
        go_wp2
        go_loopw [7] (fun i wx => ∃ j : Nat, j ≤ 52 ∧ i = .int .i64 (j : Int) ∧ Since w2 wx) (fun i _ => 52 - (intOf i).toNat)
        case atStart => exact ⟨0, by omega, rfl, Below.refl _ _⟩
        case round =>
          obtain ⟨j, hj, rfl, hsj⟩ := hrel
          have j0 : (0 : Int) ≤ (j : Int) := by omega
          have HSJ := Lib.hid hsj
          clear hsj
          by_cases hjt : j ≤ 51
          · have R1 := Lib.hid (row_take (Since.row HSJ.out RE.out) hjt)
            have R2 := Lib.hid (row_drop (Since.row HSJ.out RE.out) hjt (by decide))
            by_cases h51 : j = 51
            · subst h51
              have R3 := Lib.hid (show RowRd wr ⟨some ⟨ge, 0, none⟩, 0, 0⟩ _ from R2.out (some ⟨ge, 0, none⟩) (.inl ⟨rfl, rfl⟩))
              go_wp2_with fail
              have BK0 := Lib.hid ((Bank.nil (Below.refl wr.heap.size wr)).litV #[.int .i64 2, .int .i64 1] 3 (by decide))
              refine (wreads_any _ 51 51 _ _ 2 2 _ (Since.row BK0.out.since R1.out) (nums_of (BK0.out.at 0 rfl) rfl) (by omega) (by omega)).mono ?_
              rintro e' w3 ⟨rfl, hb3⟩
              have S3 := Lib.hid (BK0.out.since.add hb3)
              clear hb3 BK0
              go_wp2_with fail
              have BK1 := Lib.hid ((Bank.nil S3.out).litV #[.int .i64 0, .int .i64 0, .int .i64 0, .int .i64 0, .int .i64 0, .int .i64 1, .int .i64 0] 3 (by decide))
              refine (wreads_any _ 51 51 _ _ 7 7 _ (Since.row BK1.out.since R1.out) (nums_of (BK1.out.at 0 rfl) rfl) (by omega) (by omega)).mono ?_
              rintro e' w4 ⟨rfl, hb4⟩
              have S4 := Lib.hid (BK1.out.since.add hb4)
              clear hb4 BK1 S3
              go_wp2_with fail
              have BK2 := Lib.hid ((Bank.nil S4.out).litV #[.int .i64 1, .int .i64 2] 3 (by decide))
              refine (wreads_any _ 0 0 _ _ 2 2 _ (Since.row BK2.out.since R3.out) (nums_of (BK2.out.at 0 rfl) rfl) (by omega) (by omega)).mono ?_
              rintro e' w5 ⟨rfl, hb5⟩
              have S5 := Lib.hid (HSJ.out.trans ((BK2.out.since.add hb5).mono HSJ.out.size))
              clear hb5 BK2 S4
              go_wp2_with fail
              go_roundw
              case rel => exact ⟨51 + 1, by omega, by go_num, S5.out⟩
              case measure => simp [intOf]
            · have j1 : (j : Int) ≤ 51 := by omega
              have hne : ¬ 51 = j := by omega
              have R3 := Lib.hid (R2.out (some ⟨ge, j, none⟩) (.inr ⟨hne, rfl⟩))
              go_wp2_with fail
              have BK0 := Lib.hid ((Bank.nil (Below.refl wr.heap.size wr)).litV #[.int .i64 2, .int .i64 1] 3 (by decide))
              refine (wreads_any _ j 51 _ _ 2 2 _ (Since.row BK0.out.since R1.out) (nums_of (BK0.out.at 0 rfl) rfl) (by omega) (by omega)).mono ?_
              rintro e' w3 ⟨rfl, hb3⟩
              have S3 := Lib.hid (BK0.out.since.add hb3)
              clear hb3 BK0
              go_wp2_with fail
              have BK1 := Lib.hid ((Bank.nil S3.out).litV #[.int .i64 0, .int .i64 0, .int .i64 0, .int .i64 0, .int .i64 0, .int .i64 1, .int .i64 0] 3 (by decide))
              refine (wreads_any _ j 51 _ _ 7 7 _ (Since.row BK1.out.since R1.out) (nums_of (BK1.out.at 0 rfl) rfl) (by omega) (by omega)).mono ?_
              rintro e' w4 ⟨rfl, hb4⟩
              have S4 := Lib.hid (BK1.out.since.add hb4)
              clear hb4 BK1 S3
              go_wp2_with fail
              have BK2 := Lib.hid ((Bank.nil S4.out).litV #[.int .i64 1, .int .i64 2] 3 (by decide))
              refine (wreads_any _ (51 - j) (51 - j) _ _ 2 2 _ (Since.row BK2.out.since R3.out) (nums_of (BK2.out.at 0 rfl) rfl) (by omega) (by omega)).mono ?_
              rintro e' w5 ⟨rfl, hb5⟩
              have S5 := Lib.hid (HSJ.out.trans ((BK2.out.since.add hb5).mono HSJ.out.size))
              clear hb5 BK2 S4
              go_wp2_with fail
              go_roundw
              case rel => exact ⟨j + 1, by omega, by go_num, S5.out⟩
              case measure => simp [intOf]; omega
          · have j1 : ¬ (j : Int) ≤ 51 := by omega
            go_wp2_with fail
            have BK0 := Lib.hid ((Bank.nil (Below.refl wr.heap.size wr)).litV #[.int .i64 0, .int .i64 1, .int .i64 2] 3 (by decide))
            refine (wreads_any none 0 0 [] _ 3 3 _ ⟨Rd.of_nil _ _, rfl, fun _ => rfl⟩ (nums_of (BK0.out.at 0 rfl) rfl) (by omega) (by omega)).mono ?_
            rintro e' w3 ⟨rfl, hb3⟩
            have S3 := Lib.hid (BK0.out.since.add hb3)
            clear hb3 BK0
            go_wp2_with fail
            refine (awake_any _).mono ?_
            rintro e' w4 ⟨rfl, hb4⟩
            have SZ := Lib.hid (H0.out.trans ((Since.add (Since.add HS2.out HSJ.out) (Since.add S3.out hb4)).mono H0.out.size))
            clear hb4
            go_wp2
            go_ret
            exact ⟨rfl, SZ.out⟩
      · skip
        go_wp2
        go_loopw [7] (fun i wx => ∃ j : Nat, j ≤ 52 ∧ i = .int .i64 (j : Int) ∧ Since w2 wx) (fun i _ => 52 - (intOf i).toNat)
        case atStart => exact ⟨0, by omega, rfl, Below.refl _ _⟩
        case round =>
          obtain ⟨j, hj, rfl, hsj⟩ := hrel
          have j0 : (0 : Int) ≤ (j : Int) := by omega
          have HSJ := Lib.hid hsj
          clear hsj
          by_cases hjt : j ≤ 51
          · have R1 := Lib.hid (row_take (Since.row HSJ.out RE.out) hjt)
            have R2 := Lib.hid (row_drop (Since.row HSJ.out RE.out) hjt hce1)
            have j1 : (j : Int) ≤ 51 := by omega
            have j2 : (j : Int) ≤ (ce : Int) := by omega
            have hne : ¬ ce = j := by omega
            have R3 := Lib.hid (R2.out (some ⟨ge, j, none⟩) (.inr ⟨hne, rfl⟩))
            go_wp2_with fail
            have BK0 := Lib.hid ((Bank.nil (Below.refl wr.heap.size wr)).litV #[.int .i64 2, .int .i64 1] 3 (by decide))
            refine (wreads_any _ j ce _ _ 2 2 _ (Since.row BK0.out.since R1.out) (nums_of (BK0.out.at 0 rfl) rfl) (by omega) (by omega)).mono ?_
            rintro e' w3 ⟨rfl, hb3⟩
            have S3 := Lib.hid (BK0.out.since.add hb3)
            clear hb3 BK0
            go_wp2_with fail
            have BK1 := Lib.hid ((Bank.nil S3.out).litV #[.int .i64 0, .int .i64 0, .int .i64 0, .int .i64 0, .int .i64 0, .int .i64 1, .int .i64 0] 3 (by decide))
            refine (wreads_any _ j ce _ _ 7 7 _ (Since.row BK1.out.since R1.out) (nums_of (BK1.out.at 0 rfl) rfl) (by omega) (by omega)).mono ?_
            rintro e' w4 ⟨rfl, hb4⟩
            have S4 := Lib.hid (BK1.out.since.add hb4)
            clear hb4 BK1 S3
            go_wp2_with fail
            have BK2 := Lib.hid ((Bank.nil S4.out).litV #[.int .i64 1, .int .i64 2] 3 (by decide))
            refine (wreads_any _ (51 - j) (ce - j) _ _ 2 2 _ (Since.row BK2.out.since R3.out) (nums_of (BK2.out.at 0 rfl) rfl) (by omega) (by omega)).mono ?_
            rintro e' w5 ⟨rfl, hb5⟩
            have S5 := Lib.hid (HSJ.out.trans ((BK2.out.since.add hb5).mono HSJ.out.size))
            clear hb5 BK2 S4
            go_wp2_with fail
            go_roundw
            case rel => exact ⟨j + 1, by omega, by go_num, S5.out⟩
            case measure => simp [intOf]; omega
          · have j1 : ¬ (j : Int) ≤ 51 := by omega
            go_wp2_with fail
            have BK0 := Lib.hid ((Bank.nil (Below.refl wr.heap.size wr)).litV #[.int .i64 0, .int .i64 1, .int .i64 2] 3 (by decide))
            refine (wreads_any none 0 0 [] _ 3 3 _ ⟨Rd.of_nil _ _, rfl, fun _ => rfl⟩ (nums_of (BK0.out.at 0 rfl) rfl) (by omega) (by omega)).mono ?_
            rintro e' w3 ⟨rfl, hb3⟩
            have S3 := Lib.hid (BK0.out.since.add hb3)
            clear hb3 BK0
            go_wp2_with fail
            refine (awake_any _).mono ?_
            rintro e' w4 ⟨rfl, hb4⟩
            have SZ := Lib.hid (H0.out.trans ((Since.add (Since.add HS2.out HSJ.out) (Since.add S3.out hb4)).mono H0.out.size))
            clear hb4
            go_wp2
            go_ret
            exact ⟨rfl, SZ.out⟩
end Go.Proofs.Ytjnhfmicadcmnaa.K
