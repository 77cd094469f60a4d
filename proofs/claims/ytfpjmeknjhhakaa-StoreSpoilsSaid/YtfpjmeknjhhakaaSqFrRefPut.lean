/- The contracts of the reference's one and Put. -/
import Derived.Test.YtfpjmeknjhhakaaSq8
namespace Go.Proofs.Ytfpjmeknjhhakaa.K
open Go Go.RowKit

theorem rsum_since {w0 : World} {A : Option Addr} {n c : Nat} {bs : List (BitVec 8)} (hr : RowRd w0 ⟨A, n, c⟩ bs) (hn : n ≤ 9223372036854775807) : Calls Try.prog 21 #[.slice A n c] w0 fun e w' => e = .returned (W32 (F.fsum bs)) ∧ Below w0.heap.size w0 w' :=
  (rsum_any A n c bs w0 hr hn).mono fun e w' ⟨he, q, hw⟩ => ⟨he, by subst hw; exact below_drewN (Below.refl _ _) q⟩
set_option maxHeartbeats 4000000 in
set_option maxRecDepth 100000 in
theorem rone_any (k : Int) (A : Option Addr) (n c : Nat) (bs : List (BitVec 8)) (w : World) (hr : RowRd w ⟨A, n, c⟩ bs) (hn : n ≤ 100000000000) :
    Calls Try.prog 46 #[.agg #[.int .i64 k, .slice A n c]] w (Made w (F.one ⟨k, bs⟩)) := by
  have hbx : Box2 (w.alloc (.cells #[.int .i64 k, .slice A n c] 46)) w.heap.size k A n c := ⟨by rw [World.cell?_alloc_new]; rfl, by rw [World.cell?_alloc_new]; rfl⟩
  have hs0 : Since w (w.alloc (.cells #[.int .i64 k, .slice A n c] 46)) := (Below.refl _ _).alloc (Nat.le_refl _) _
  have HBX := Lib.hid hbx; have HS0 := Lib.hid hs0; have HR := Lib.hid (hr.below hs0); have HL := Lib.hid (show bs.length = n from hr.len)
  have hcv := fun w (n : Nat) => conv_int_W32 (P := Try.prog) w 3 40 n Try.underlying3 Try.underlying40
  have hcv2 := fun w (y : Int) => conv_kind (P := Try.prog) w 3 5 y Try.underlying3 Try.underlying5
  clear hbx hs0 hr
  go_enter Try.func46, Try.ntmps46
  go_upto_region 1 with fail
  change Code.wp _ _ _ _ (w.alloc (.cells #[.int .i64 k, .slice A n c] 46))
  generalize w.alloc (.cells #[.int .i64 k, .slice A n c] 46) = w0 at *
  go_cut [3] (fun s3 wx => ∃ A3 n3 c3, s3 = .slice A3 n3 c3 ∧ Bank w0 wx [rowAcc A3 n3 c3 (F.five ⟨k, bs⟩)])
  case first =>
    have hB := Bank.nil (Below.refl w0.heap.size w0)
    obtain ⟨x0, x1⟩ := HBX.out
    obtain ⟨y0, y1⟩ := box2_since HBX.out (Since.alloc (Below.refl w0.heap.size w0) (.cells #[B8 (BitVec.ofInt 8 k)] 5))
    go_region_law (first
      | (go_simp; go_at_call 80; (first | ((with_reducible refine calls_bank (Bank.drew hB) ?_); intro hB) | ((with_reducible refine calls_bank (Bank.drew (Bank.litV hB _ _ (by simp))) ?_); intro hB)); refine (rfour_any _ _).mono ?_; rintro e w1 ⟨g1, N1, c1, rfl, hN1, ho1, hb1⟩; obtain rfl : N1 = 4 := hN1; have hB := hB.madeB hb1 ho1; clear ho1 hb1; obtain ⟨x0, x1⟩ := box2_since HBX.out hB.since)
      | ((first | ((with_reducible refine step_bank hB ?_); intro hB) | ((with_reducible refine step_bank (Bank.litV hB _ _ (by simp)) ?_); intro hB)); refine step_append_bytes hB rfl _ _ 27 rfl 5 infoByte Try.underlying27 0 _ _ _ [BitVec.ofInt 8 k] rfl rfl _ _ _ _ rfl (hB.row 1 rfl) (by omega) ?_; intro A4 n4 c4 w4 hn4 hB; have hn4' := Nat.le_of_eq hn4; clear hn4; dsimp only [List.set] at hB; have hB := hB.swap.drop)
      | ((first | ((with_reducible refine step_bank hB ?_); intro hB) | ((with_reducible refine step_bank (Bank.litV hB _ _ (by simp)) ?_); intro hB)); refine step_append_bytes hB rfl _ _ 27 rfl 5 infoByte Try.underlying27 1 _ _ _ [BitVec.ofInt 8 k] rfl rfl _ _ _ _ rfl (hB.row 0 rfl) (by omega) ?_; intro A4 n4 c4 w4 hn4 hB; have hn4' := Nat.le_of_eq hn4; clear hn4; dsimp only [List.set] at hB; have hB := hB.drop)
      | fail "arm")
    all_goals
      have HFIN := Lib.hid (show ∃ A3 n3 c3, Value.slice A4 n4 c4 = .slice A3 n3 c3 ∧ Bank w0 w4 [rowAcc A3 n3 c3 (F.five ⟨k, bs⟩)] from ⟨A4, n4, c4, rfl, by
        rw [show F.five ⟨k, bs⟩ = [BitVec.ofInt 8 k] ++ F.be4 (BitVec.ofNat 32 n) by unfold F.five; rw [HL.out]; rfl]; exact hB⟩)
      clear hB x0 x1 y0 y1 hn4'
      go_wp2_with fail
      go_meet
      exact HFIN.out
  case rest =>
    obtain ⟨A3, n3, c3, rfl, hB⟩ := hcut
    have hn3 : n3 = 5 := (RowRd.of_row (hB.at 0 rfl)).len.symm
    have HN3 := Lib.hid hn3
    have hn3' : n3 ≤ 5 := by omega
    clear hn3
    generalize hwc : wc = w1 at *
    clear hwc
    go_upto_region 2 with fail
    go_cut [4] (fun s4 wx => s4 = W32 (F.fsum (F.five ⟨k, bs⟩ ++ bs)) ∧ Bank w0 wx [rowAcc A3 n3 c3 (F.five ⟨k, bs⟩)])
    case first =>
      obtain ⟨x0, x1⟩ := box2_since HBX.out hB.since
      obtain ⟨y0, y1⟩ := box2_since HBX.out (hB.since.alloc (.cells #[] 5))
      go_region_law (first
        | (go_simp; go_at_call 21; refine (rsum_since (hB.row 0 rfl) (by omega)).mono ?_; rintro e w3 ⟨rfl, hb3⟩; have hB := hB.call hb3; clear hb3)
        | ((first | ((with_reducible refine step_bank (Bank.lit0 hB _) ?_); intro hB) | ((with_reducible refine step_bank (Bank.drew (Bank.lit0 hB _)) ?_); intro hB)); refine step_append_bytes hB rfl (.tmp 15) (.tmp 16) 27 rfl 5 infoByte Try.underlying27 0 _ _ _ [] rfl rfl _ _ _ _ rfl (hB.row 1 rfl) (by omega) ?_; intro A4 n4 c4 w4 hn4 hB; have hn4' := Nat.le_of_eq hn4; clear hn4; dsimp only [List.set] at hB; rw [List.nil_append] at hB; obtain ⟨x0, x1⟩ := box2_since HBX.out hB.since)
        | (refine step_append_bytes hB rfl (.tmp 17) (.tmp 19) 27 rfl 5 infoByte Try.underlying27 0 _ _ _ _ rfl rfl _ _ _ _ rfl (Since.row hB.since HR.out) (by omega) ?_; intro A5 n5 c5 w5 hn5 hB; have hn5' := Nat.le_of_eq hn5; clear hn5; dsimp only [List.set] at hB)
        | fail "arm")
      all_goals
        have HFIN := Lib.hid (show Bank w0 w3 [rowAcc A3 n3 c3 (F.five ⟨k, bs⟩)] from hB.drop)
        clear hB x0 x1 y0 y1 hn4' hn5'
        go_wp2_with fail
        go_meet
        exact ⟨rfl, HFIN.out⟩
    case rest =>
      obtain ⟨rfl, hB2⟩ := hcut
      have hB := hB2
      clear hB2
      obtain ⟨x0, x1⟩ := box2_since HBX.out hB.since
      generalize hwc : wc = w2 at *
      clear hwc
      go_wp2_with fail
      go_region_law (first
        | (go_simp; go_at_call 80; ((with_reducible refine calls_bank (Bank.drew hB) ?_); intro hB); refine (rfour_any _ _).mono ?_; rintro e w3 ⟨g3, N3, c3', rfl, hN3, ho3, hb3⟩; obtain rfl : N3 = 4 := hN3; have hB := hB.madeB hb3 ho3; clear ho3 hb3; obtain ⟨x0, x1⟩ := box2_since HBX.out hB.since)
        | (refine step_append_bytes hB rfl (.tmp 22) (.tmp 24) 27 rfl 5 infoByte Try.underlying27 1 _ _ _ _ rfl rfl _ _ _ _ rfl (hB.row 0 rfl) (by omega) ?_; intro A4 n4 c4 w4 hn4 hB; have hn4' := Nat.le_of_eq hn4; clear hn4; dsimp only [List.set] at hB; obtain ⟨x0, x1⟩ := box2_since HBX.out hB.since)
        | (refine step_append_bytes hB rfl (.tmp 25) (.tmp 27) 27 rfl 5 infoByte Try.underlying27 1 _ _ _ _ rfl rfl _ _ _ _ rfl (Since.row hB.since HR.out) (by omega) ?_; intro A5 n5 c5 w5 hn5 hB; have hn5' := Lib.hid hn5; clear hn5; dsimp only [List.set] at hB)
        | fail "arm")
      all_goals
        have ho := hB.at 1 rfl
        rw [show F.five ⟨k, bs⟩ ++ F.be4 (F.fsum (F.five ⟨k, bs⟩ ++ bs)) ++ bs = F.one ⟨k, bs⟩ by simp [F.one, List.append_assoc]] at ho
        have hl := (RowRd.of_row ho).len
        obtain ⟨g5, rfl⟩ := own_somes' ho (by rw [← show (F.one ⟨k, bs⟩).length = n5 from hl, F.one_length]; omega)
        have HFIN := Lib.hid (show Made w (F.one ⟨k, bs⟩) (.returned (.slice (some ⟨g5, 0, none⟩) n5 c5)) w5 from ⟨g5, n5, c5, rfl, hl.symm, row_base ho HS0.out.size, HS0.out.add hB.since⟩)
        clear hB ho hl x0 x1 hn4' hn5'
        go_wp2_with fail
        go_ret
        exact HFIN.out
end Go.Proofs.Ytfpjmeknjhhakaa.K
