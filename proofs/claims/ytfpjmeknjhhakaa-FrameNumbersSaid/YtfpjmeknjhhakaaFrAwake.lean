/- The contract of the law's awake. -/
import Derived.Test.YtfpjmeknjhhakaaFrScans
import Derived.Test.YtfpjmeknjhhakaaFrPut
import Derived.Lib.SlBytesConst
namespace Go.Proofs.Ytfpjmeknjhhakaa.K
open Go Go.RowKit

def awk : List (BitVec 8) := F.pbytes [⟨7, [97#8]⟩]
theorem awk_len : awk.length = 10 := by decide +kernel
theorem awk_err : F.perr [⟨7, [97#8]⟩] = 0 := by decide +kernel
theorem awk_at : awk[0]? = some 7#8 ∧ awk[4]? = some 1#8 ∧ awk[9]? = some 97#8 := by decide +kernel
theorem awk_scan : F.scan awk = ([⟨7, [97#8]⟩], 10, false) := by decide +kernel
theorem awk_cut : F.scan (awk.take 9) = ([], 0, false) := by decide +kernel
theorem awk_bad : F.scan (awk.set 9 98#8) = ([], 0, true) := by decide +kernel
theorem awk_sum : F.fsum [49#8, 50#8, 51#8, 52#8, 53#8, 54#8, 55#8, 56#8, 57#8] = 3808858755#32 := by decide +kernel
theorem awk_ones (w : World) (t t2 : TypeId) : Ones ((w.alloc (.cells #[.int .u8 97] t (1, 2))).alloc (.cells #[.int .i64 7, .slice (some ⟨w.heap.size, 0, none⟩) 1 1] t2)) (some ⟨w.heap.size + 1, 0, none⟩) [⟨7, [97#8]⟩] := by
  intro i hi
  obtain rfl : i = 0 := by simp at hi; omega
  refine ⟨w.heap.size + 1, 0, rfl, some ⟨w.heap.size, 0, none⟩, 1, 1, ?_, by show M.inI64 (7 : Int); exact ⟨by decide, by decide⟩, ?_, Nat.le_refl _, by omega⟩
  · intro j u hu
    have := cells_lit2 (w.alloc (.cells #[.int .u8 97] t (1, 2))) (.int .i64 7) (.slice (some ⟨w.heap.size, 0, none⟩) 1 1) t2 j u hu
    rw [World.size_alloc] at this
    rcases j with _ | _ | j
    · simpa [Addr.add] using this
    · simpa [Addr.add] using this
    · simp at hu
  · exact ⟨Rd.of_block (heap_alloc_keep _ (heap_alloc_new w _)) rfl, rfl, fun h => by cases h⟩
theorem bv_at {l : List (BitVec 8)} {i : Nat} {x : BitVec 8} (h : l[i]? = some x) : (bv l)[i]? = some (B8 x) := by simp [bv, h]
theorem own_cap {w : World} {base : Nat} {e : TypeId} {A : Option Addr} {n c : Nat} {xs : List Value} (h : w.ownsRow base e 1 (.slice A n c) n xs) : n ≤ c := by
  rcases h.2 with ⟨h0, h1⟩ | ⟨g, cap, cur, hv, hb, hg, h4, h5⟩
  · cases h0; exact Nat.zero_le _
  · simp only [Value.slice.injEq, true_and] at hv
    obtain ⟨_, rfl⟩ := hv
    first | omega | exact h4
theorem own_cap63 {w : World} {base : Nat} {e : TypeId} {A : Option Addr} {n c : Nat} {xs : List Value} (h : w.ownsRow base e 1 (.slice A n c) n xs) : c ≤ 9223372036854775807 := by
  rcases h.2 with ⟨h0, h1⟩ | ⟨g, cap, cur, hv, hb, hg, h4, h5, h6⟩
  · cases h0; exact Nat.zero_le _
  · simp only [Value.slice.injEq, true_and] at hv
    obtain ⟨_, rfl⟩ := hv
    unfold maxLen at h5
    omega
theorem own_free {w : World} {base : Nat} {e : TypeId} {g n c : Nat} {xs : List Value} (h : w.ownsRow base e 1 (.slice (some ⟨g, 0, none⟩) n c) n xs) (j : Nat) : w.frozen? ⟨g, j, none⟩ = false := by
  rcases h.2 with ⟨h0, h1⟩ | ⟨g', cap, cur, hv, hb, hg, h4, h5⟩
  · cases h0
  · simp only [Value.slice.injEq, Option.some.injEq, Addr.mk.injEq, and_true, true_and] at hv
    obtain ⟨rfl, rfl⟩ := hv
    exact frozen_of_row w g j cur e hg
theorem rowRd_set {w : World} {g n c : Nat} {bs : List (BitVec 8)} (h : RowRd w ⟨some ⟨g, 0, none⟩, n, c⟩ bs) (j : Nat) (x : BitVec 8) : RowRd (w.setCell ⟨g, j, none⟩ (B8 x)) ⟨some ⟨g, 0, none⟩, n, c⟩ (bs.set j x) := by
  refine ⟨fun k hk => ⟨g, 0, rfl, ?_⟩, by rw [List.length_set]; exact h.len, fun h => by cases h⟩
  rw [List.length_set] at hk
  obtain ⟨b', o', e, hc⟩ := h.rd k hk
  obtain ⟨rfl, rfl⟩ : g = b' ∧ 0 = o' := by simpa using e
  rw [Nat.zero_add] at hc ⊢
  rw [List.getElem_set]
  by_cases hjk : j = k
  · subst hjk
    rw [if_pos rfl]
    exact World.cell?_setCell_same' _ _ _ (by rw [hc]; rfl)
  · rw [if_neg hjk, World.cell?_setCell_other, hc]
    intro e
    exact hjk (by first | (simp at e; done) | simpa using e)
theorem awk_out : pout [⟨7, [97#8]⟩] = awk := by unfold pout; rw [if_pos awk_err]; rfl
set_option maxHeartbeats 8000000 in
set_option maxRecDepth 100000 in
theorem awake_any (w : World) : Calls Try.prog 12 #[] w (Says w) := by
  have hcv := Lib.run_convert_bytes_const w 27 5 #[.int .u8 97] 1 1 Try.underlying27 Try.underlying5
  go_enter Try.func12, Try.ntmps12
  go_wp2_with fail
  clear hcv
  have hs0 : Below w.heap.size w ((w.alloc (.cells #[.int .u8 97] 5 (1, 2))).alloc (.cells #[.int .i64 7, .slice (some ⟨w.heap.size, 0, none⟩) 1 1] 36)) := ((Below.refl _ _).alloc (Nat.le_refl _) _).alloc (by simp) _
  refine (put_any _ 1 1 [⟨7, [97#8]⟩] _ (awk_ones w _ _) rfl (by decide +kernel)).mono ?_
  rintro e w1 ⟨A1, N1, c1, rfl, hN, ho, hsi⟩
  rw [awk_out] at hN ho
  rw [awk_err]
  have HN10 := Lib.hid (show N1 = 10 from hN.trans awk_len)
  have n10 : ((N1 : Int) != 10) = false := by rw [HN10.out]; rfl
  have n0 : (0 : Int) < (N1 : Int) := by have := HN10.out; omega
  have n4 : (4 : Int) < (N1 : Int) := by have := HN10.out; omega
  have n9 : (9 : Int) < (N1 : Int) := by have := HN10.out; omega
  have n9' : 9 < N1 := by omega
  have n63 : N1 ≤ 100 := by have := HN10.out; omega
  obtain ⟨g, rfl⟩ := own_somes' ho (by omega)
  have S1 := Lib.hid (show Below w.heap.size w w1 from hs0.trans (hsi.mono hs0.size))
  have x0 : w1.cell? ⟨g, 0, none⟩ = some (.int .u8 7) := (ho.cellAt 0 (by omega)).trans (bv_at awk_at.1)
  have x4 : w1.cell? ⟨g, 4, none⟩ = some (.int .u8 1) := (ho.cellAt 4 (by omega)).trans (bv_at awk_at.2.1)
  have x9 : w1.cell? ⟨g, 9, none⟩ = some (.int .u8 97) := (ho.cellAt 9 (by omega)).trans (bv_at awk_at.2.2)
  have HO := Lib.hid ho
  clear hs0 hsi ho hN
  go_wp2_with fail
  have hc10 : N1 ≤ c1 := own_cap HO.out
  have hc63 : c1 ≤ 9223372036854775807 := own_cap63 HO.out
  have HR1 := Lib.hid (RowRd.of_row HO.out)
  have hg1 : g < w1.heap.size := block_lt_of_cell x0
  refine (scan_any (some ⟨g, 0, none⟩) N1 c1 awk w1 HR1.out hc10 hc63 (by rw [awk_len]; omega) (fun a e => by cases e; exact hg1)).mono ?_
  rintro e w2 ⟨ps, Fa, cF, u, sp, rfl, hsc, hu, hps, hB⟩
  rw [awk_scan] at hsc
  obtain ⟨hp1, rfl, rfl⟩ : [⟨7, [97#8]⟩] = ps.map FR.fr ∧ 10 = u ∧ false = sp := by
    simp only [Prod.mk.injEq] at hsc
    exact hsc
  have hpl : ps.length = 1 := by simpa using (congrArg List.length hp1).symm
  rw [hpl]
  have S2 := Lib.hid (show Below w.heap.size w w2 from S1.out.trans (hB.since.mono S1.out.size))
  have HR2 := Lib.hid (Since.row hB.since HR1.out)
  have hg2 : g < w2.heap.size := Nat.lt_of_lt_of_le hg1 hB.since.size
  have HRC := Lib.hid (show RowRd w2 ⟨some ⟨g, 0, none⟩, 9, c1⟩ (awk.take 9) by simpa using rowRd_cut HR2.out 0 9 c1 (by omega))
  have t9 : (9 : Int) ≤ (c1 : Int) := by omega
  have t9' : 9 ≤ c1 := by omega
  clear hsc hp1 hu hps hB x0 x4 x9 S1 HR1 HO hg1
  go_wp2_with fail
  refine (scan_any (some ⟨g, 0, none⟩) 9 c1 (awk.take 9) w2 HRC.out (by omega) hc63 (by rw [List.length_take, awk_len]; omega) (fun a e => by cases e; exact hg2)).mono ?_
  rintro e w3 ⟨ps2, Fa2, cF2, u2, sp2, rfl, hsc, hu, hps, hB⟩
  rw [awk_cut] at hsc
  obtain ⟨hp1, rfl, rfl⟩ : [] = ps2.map FR.fr ∧ 0 = u2 ∧ false = sp2 := by
    simp only [Prod.mk.injEq] at hsc
    exact hsc
  have hpl2 : ps2.length = 0 := by simpa using (congrArg List.length hp1).symm
  rw [hpl2]
  have S3 := Lib.hid (show Below w.heap.size w w3 from S2.out.trans (hB.since.mono S2.out.size))
  have HR3 := Lib.hid (Since.row hB.since HR2.out)
  have HBL := Lib.hid (Bank.lit0 (Bank.nil (Below.refl w3.heap.size w3)) 5)
  have HRL := Lib.hid (Since.row HBL.out.since HR3.out)
  clear hsc hp1 hu hps hB HR2 hg2 HRC S2
  go_upto_region 6 with fail
  go_wp2_with (at_builtin; (refine wpList_append_bytes HBL.out rfl _ _ 27 rfl 5 infoByte Try.underlying27 0 _ _ _ [] rfl rfl _ _ _ _ rfl HRL.out (by omega) ?_; intro A4 m4 c4 w4 hm4 hB4; dsimp only [List.set] at hB4; rw [List.nil_append] at hB4; have HM4 := Lib.hid (show m4 = 10 by have := HN10.out; omega); have m49 : (9 : Int) < (m4 : Int) := (by omega); have m49' : 9 < m4 := (by omega); clear hm4; have ho4 := hB4.at 0 rfl; obtain ⟨g4, hA4⟩ := own_somes' ho4 (by have := HM4.out; show 0 < m4; omega); subst hA4; have y9 : w4.cell? ⟨g4, 9, none⟩ = some (.int .u8 97) := (ho4.cellAt 9 (by show 9 < m4 * 1; omega)).trans (bv_at awk_at.2.2); have f9 : w4.frozen? ⟨g4, 9, none⟩ = false := own_free ho4 9; clear ho4; have HB4 := Lib.hid hB4; clear hB4))
  have HR4 := Lib.hid (rowRd_set (HB4.out.row 0 rfl) 9 98#8)
  have hc4 : m4 ≤ c4 := own_cap (HB4.out.at 0 rfl)
  have hc463 : c4 ≤ 9223372036854775807 := own_cap63 (HB4.out.at 0 rfl)
  have hg34 : w3.heap.size ≤ g4 := (row_lt (HB4.out.at 0 rfl)).1
  have hg4 : g4 < w4.heap.size := block_lt_of_cell y9
  have S4 := Lib.hid (show Since w (w4.setCell ⟨g4, 9, none⟩ (B8 98#8)) from Since.set (S3.out.trans (HB4.out.since.mono S3.out.size)) (Nat.le_trans S3.out.size hg34) 9 _)
  have hg5 : g4 < (w4.setCell ⟨g4, 9, none⟩ (B8 98#8)).heap.size := by simpa using hg4
  clear y9 f9 HB4 hg34 HBL HRL HR3
  generalize hw5 : w4.setCell ⟨g4, 9, none⟩ (B8 98#8) = w5 at *
  rw [show w4.setCell ⟨g4, 9, none⟩ (.int .u8 98) = w5 from hw5]
  clear hw5
  refine (scan_any (some ⟨g4, 0, none⟩) m4 c4 (awk.set 9 98#8) w5 HR4.out hc4 hc463 (by rw [List.length_set, awk_len]; omega) (fun a e => by cases e; exact hg5)).mono ?_
  rintro e w6 ⟨ps3, Fa3, cF3, u3, sp3, rfl, hsc, hu, hps, hB⟩
  rw [awk_bad] at hsc
  obtain ⟨hp1, rfl, rfl⟩ : [] = ps3.map FR.fr ∧ 0 = u3 ∧ true = sp3 := by
    simp only [Prod.mk.injEq] at hsc
    exact hsc
  have S6 := Lib.hid (show Below w.heap.size w w6 from S4.out.trans (hB.since.mono S4.out.size))
  clear hsc hp1 hu hps hB
  have hcv := Lib.run_convert_bytes_const w6 27 5 #[.int .u8 49, .int .u8 50, .int .u8 51, .int .u8 52, .int .u8 53, .int .u8 54, .int .u8 55, .int .u8 56, .int .u8 57] 9 9 Try.underlying27 Try.underlying5
  go_wp2_with fail
  clear hcv
  have HS7 := Lib.hid (Since.alloc S6.out (.cells #[.int .u8 49, .int .u8 50, .int .u8 51, .int .u8 52, .int .u8 53, .int .u8 54, .int .u8 55, .int .u8 56, .int .u8 57] 5 (9, 10)))
  have R9 := Lib.hid (show RowRd (w6.alloc (.cells #[.int .u8 49, .int .u8 50, .int .u8 51, .int .u8 52, .int .u8 53, .int .u8 54, .int .u8 55, .int .u8 56, .int .u8 57] 5 (9, 10))) ⟨some ⟨w6.heap.size, 0, none⟩, 9, 9⟩ [49#8, 50#8, 51#8, 52#8, 53#8, 54#8, 55#8, 56#8, 57#8] from ⟨Rd.of_block (heap_alloc_new w6 _) (by rfl), rfl, fun h => by cases h⟩)
  generalize w6.alloc (.cells #[.int .u8 49, .int .u8 50, .int .u8 51, .int .u8 52, .int .u8 53, .int .u8 54, .int .u8 55, .int .u8 56, .int .u8 57] 5 (9, 10)) = w7 at *
  refine (fsum_any _ 9 9 _ w7 R9.out (by omega)).mono ?_
  rintro e w8 ⟨rfl, rfl⟩
  rw [awk_sum]
  rw [show W32 3808858755#32 = .int .u32 3808858755 from rfl]
  go_wp2_with fail
  go_ret
  exact ⟨rfl, HS7.out⟩
end Go.Proofs.Ytfpjmeknjhhakaa.K
