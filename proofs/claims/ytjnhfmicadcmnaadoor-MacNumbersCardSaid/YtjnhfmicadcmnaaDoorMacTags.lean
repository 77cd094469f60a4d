/- The contract of barbicanlaw05.MacTags: it tells true of any key, bytes and tag. -/
import Derived.Test.YtjnhfmicadcmnaaDoorMacAwake5
import Derived.Test.YtjnhfmicadcmnaaDoorLit
namespace Go.Proofs.YtjnhfmicadcmnaaDoor.K
open Go Go.RowKit

theorem ne_flag (b : Bool) : (b != b) = false := by cases b <;> rfl
set_option maxHeartbeats 2000000 in
set_option maxRecDepth 100000 in
theorem mactags_any (A B C : Option Addr) (n c m d k l : Nat) (key bs tg : List (BitVec 8)) (w : World) (hk : RowRd w ⟨A, n, c⟩ key) (hr : RowRd w ⟨B, m, d⟩ bs) (ht : RowRd w ⟨C, k, l⟩ tg) (hn : n ≤ 9223372036854775807) (hm : m ≤ 9223372036854775807) (hk9 : k ≤ 9223372036854775807) (hK : HasK w) (hF : HasF w) :
    Calls Tryd.prog 7 #[.slice A n c, .slice B m d, .slice C k l] w fun e w' => e = .returned (.bool true) ∧ Since w w' := by
  have HK := Lib.hid hK; have HF := Lib.hid hF; have HKY := Lib.hid hk; have HR := Lib.hid hr; have HT := Lib.hid ht
  have HLK := Lib.hid (show key.length = n from hk.len); have HLB := Lib.hid (show bs.length = m from hr.len); have HLT := Lib.hid (show tg.length = k from ht.len)
  clear hK hF hk hr ht
  by_cases h1 : n ≤ 4000
  · have i1 : ¬ (4000 : Int) < (n : Int) := by omega
    have d1 : decide ((4000 : Int) < (n : Int)) = false := by simpa using i1
    by_cases h2 : m ≤ 4000
    · have i2 : ¬ (4000 : Int) < (m : Int) := by omega
      have d2 : decide ((4000 : Int) < (m : Int)) = false := by simpa using i2
      by_cases h3 : k ≤ 4000
      · have i3 : ¬ (4000 : Int) < (k : Int) := by omega
        have d3 : decide ((4000 : Int) < (k : Int)) = false := by simpa using i3
        go_enter Tryd.func7, Tryd.ntmps7
        go_wp2_with fail
        refine (lent_from w A n c key HKY.out (by omega) (Below.refl _ _)).mono ?_
        rintro e w1 ⟨g1, rfl, _, hg1, hs1⟩
        have S1 := Lib.hid hs1; have G1 := Lib.hid hg1
        clear hs1 hg1
        go_wp2_with fail
        refine (lent_from w B m d bs HR.out (by omega) S1.out).mono ?_
        rintro e w2 ⟨g2, rfl, _, hg2, hs2⟩
        have S2 := Lib.hid (S1.out.add hs2); have G2 := Lib.hid hg2; have G1' := Lib.hid (Since.at hs2 G1.out)
        clear hs2 hg2 S1 G1
        go_wp2_with fail
        refine (lent_from w C k l tg HT.out (by omega) S2.out).mono ?_
        rintro e w3 ⟨g3, rfl, _, hg3, hs3⟩
        have S3 := Lib.hid (S2.out.add hs3); have G3 := Lib.hid hg3; have G2' := Lib.hid (Since.at hs3 G2.out); have G1 := Lib.hid (Since.at hs3 G1'.out)
        clear hs3 hg3 S2 G2 G1'
        have RK := Lib.hid (lent_row G1.out HLK.out); have RB := Lib.hid (lent_row G2'.out HLB.out); have RT := Lib.hid (lent_row G3.out HLT.out)
        have B3 := Lib.hid (Bank.nil (Below.refl w3.heap.size w3))
        go_wp2_with fail
        refine (tag_any _ _ n (n + 12) m (m + 12) key bs w3 RK.out RB.out (by omega) (by omega) (HK.out.below S3.out) (HF.out.below S3.out)).mono ?_
        rintro e w4 ⟨g4, N4, c4, rfl, hN4, ho4, hb4⟩
        obtain rfl : N4 = 32 := hN4
        have B4 := Lib.hid (B3.out.madeB hb4 ho4)
        have S4 := Lib.hid B4.out.since
        have SS4 := Lib.hid (S3.out.add S4.out)
        clear ho4 hb4 B3
        go_wp2_with fail
        refine (tag_any _ _ n (n + 12) m (m + 12) key bs w4 (S4.out.row RK.out) (S4.out.row RB.out) (by omega) (by omega) (HK.out.below SS4.out) (HF.out.below SS4.out)).mono ?_
        rintro e w5 ⟨g5, N5, c5, rfl, hN5, ho5, hb5⟩
        obtain rfl : N5 = 32 := hN5
        have B5 := Lib.hid (B4.out.madeB hb5 ho5)
        have S5 := Lib.hid B5.out.since
        have SS5 := Lib.hid (S3.out.add S5.out)
        clear ho5 hb5 B4 S4 SS4
        go_wp2_with fail
        refine (rtag_any A B n c m d key bs w5 (SS5.out.row HKY.out) (SS5.out.row HR.out) (by omega) (by omega)).mono ?_
        rintro e w6 ⟨g6, N6, c6, rfl, hN6, ho6, hb6⟩
        obtain rfl : N6 = 32 := hN6
        have B6 := Lib.hid (B5.out.madeB hb6 ho6)
        have S6 := Lib.hid B6.out.since
        have SS6 := Lib.hid (S3.out.add S6.out)
        clear ho6 hb6 B5 S5 SS5
        have R4 := Lib.hid (B6.out.row 2 rfl); have R6 := Lib.hid (B6.out.row 0 rfl)
        go_wp2_with fail
        refine (same_made R4.out R6.out (by omega) (Below.refl _ _)).mono ?_
        rintro e w7 ⟨rfl, hb7⟩
        have B7 := Lib.hid (B6.out.call hb7)
        have S7 := Lib.hid B7.out.since
        have SS7 := Lib.hid (S3.out.add S7.out)
        clear hb7 B6 S6 SS6 R4 R6
        go_wp2_with fail
        refine (fits_any _ _ _ n (n + 12) m (m + 12) k (k + 12) key bs tg w7 (S7.out.row RK.out) (S7.out.row RB.out) (S7.out.row RT.out) (by omega) (by omega) (by omega) (HK.out.below SS7.out) (HF.out.below SS7.out)).mono ?_
        rintro e w8 ⟨rfl, hb8⟩
        have B8 := Lib.hid (B7.out.call hb8)
        have S8 := Lib.hid B8.out.since
        have SS8 := Lib.hid (S3.out.add S8.out)
        clear hb8 B7 S7 SS7
        go_wp2_with fail
        refine (rfits_any A B C n c m d k l key bs tg w8 (SS8.out.row HKY.out) (SS8.out.row HR.out) (SS8.out.row HT.out) (by omega) (by omega) (by omega)).mono ?_
        rintro e w9 ⟨rfl, hb9⟩
        have hne := ne_flag (decide (M.tag key bs = tg))
        have B9 := Lib.hid (B8.out.call hb9)
        have S9 := Lib.hid B9.out.since
        have SS9 := Lib.hid (S3.out.add S9.out)
        clear hb9 B8 S8 SS8
        have R4 := Lib.hid (B9.out.row 2 rfl)
        generalize decide (M.tag key bs = tg) = qf at *
        go_wp2_with fail
        refine (fits_any _ _ _ n (n + 12) m (m + 12) 32 c4 key bs (M.tag key bs) w9 (S9.out.row RK.out) (S9.out.row RB.out) R4.out (by omega) (by omega) (by omega) (HK.out.below SS9.out) (HF.out.below SS9.out)).mono ?_
        rintro e w10 ⟨rfl, hb10⟩
        rw [decide_eq_true rfl]
        have B10 := Lib.hid (B9.out.call hb10)
        have S10 := Lib.hid B10.out.since
        clear hb10 B9 S9 SS9 R4 hne
        go_wp2_with fail
        refine (kept_made (w0 := w3) G1.out (S3.out.row HKY.out) (by omega) S10.out).mono ?_
        rintro e w11 ⟨rfl, hb11⟩
        have B11 := Lib.hid (B10.out.call hb11)
        have S11 := Lib.hid B11.out.since
        clear hb11 B10 S10
        go_wp2_with fail
        refine (kept_made (w0 := w3) G2'.out (S3.out.row HR.out) (by omega) S11.out).mono ?_
        rintro e w12 ⟨rfl, hb12⟩
        have B12 := Lib.hid (B11.out.call hb12)
        have S12 := Lib.hid B12.out.since
        clear hb12 B11 S11
        go_wp2_with fail
        refine (kept_made (w0 := w3) G3.out (S3.out.row HT.out) (by omega) S12.out).mono ?_
        rintro e w13 ⟨rfl, hb13⟩
        have B13 := Lib.hid (B12.out.call hb13).drop
        clear hb13 B12 S12
        go_wp2_with fail
        refine (apart_lit (w0 := w3) [(⟨some ⟨g4, 0, none⟩, 32, c4⟩, M.tag key bs), (⟨some ⟨g5, 0, none⟩, 32, c5⟩, M.tag key bs)] _ 2 2 rfl rfl B13.out (by simp) (by intro p hp; simp at hp; rcases hp with rfl | rfl <;> simp)).mono ?_
        rintro e w14 ⟨rfl, hs14⟩
        have SS14 := Lib.hid (S3.out.add hs14)
        clear hs14 B13
        go_wp2_with fail
        refine (awake5_any w14 (HK.out.below SS14.out) (HF.out.below SS14.out)).mono ?_
        rintro e w15 ⟨rfl, hs15⟩
        have SS15 := Lib.hid (SS14.out.add hs15)
        clear hs15
        go_wp2_with fail
        go_ret
        exact ⟨rfl, SS15.out⟩
      · have i3 : (4000 : Int) < (k : Int) := by omega
        go_enter Tryd.func7, Tryd.ntmps7
        go_wp2_with fail
        refine (awake5_any w HK.out HF.out).mono ?_
        rintro e w1 ⟨rfl, hs⟩
        have SS := Lib.hid hs
        clear hs
        go_wp2_with fail
        go_ret
        exact ⟨rfl, SS.out⟩
    · have i2 : (4000 : Int) < (m : Int) := by omega
      go_enter Tryd.func7, Tryd.ntmps7
      go_wp2_with fail
      refine (awake5_any w HK.out HF.out).mono ?_
      rintro e w1 ⟨rfl, hs⟩
      have SS := Lib.hid hs
      clear hs
      go_wp2_with fail
      go_ret
      exact ⟨rfl, SS.out⟩
  · have i1 : (4000 : Int) < (n : Int) := by omega
    go_enter Tryd.func7, Tryd.ntmps7
    go_wp2_with fail
    refine (awake5_any w HK.out HF.out).mono ?_
    rintro e w1 ⟨rfl, hs⟩
    have SS := Lib.hid hs
    clear hs
    go_wp2_with fail
    go_ret
    exact ⟨rfl, SS.out⟩
end Go.Proofs.YtjnhfmicadcmnaaDoor.K
