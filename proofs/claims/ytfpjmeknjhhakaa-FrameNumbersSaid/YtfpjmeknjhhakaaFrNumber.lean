/- The contracts of the numbers that frames hold. -/
import Derived.Test.YtfpjmeknjhhakaaFrStart
import Derived.Deep.QuietTactic
import Derived.BigQuiet
namespace Go.Proofs.Ytfpjmeknjhhakaa.K
open Go Go.RowKit

/-- a number, so many of its bytes taken in -/
def nums (bs : List (BitVec 8)) (at' : Nat) : Nat → F.W
  | 0 => 0#32
  | j + 1 => (nums bs at' j <<< 8) ||| (bs.getD (at' + j) 0).setWidth 32
theorem nums_four (bs : List (BitVec 8)) (at' : Nat) : nums bs at' 4 = F.num4 (bs.drop at') := by
  unfold F.num4
  rw [← F.of4_loop]
  simp [nums]
set_option maxHeartbeats 1000000 in
theorem number_any (S : Nat) (at' : Nat) (b o n c : Nat) (bs : List (BitVec 8)) (w : World) (hS : w.cell? ⟨S, 0, none⟩ = some (.slice (some ⟨b, o, none⟩) n c)) (hr : RowRd w ⟨some ⟨b, o, none⟩, n, c⟩ bs) (hn : at' + 4 ≤ n) (hc : n ≤ c) (hc2 : c ≤ 9223372036854775807) :
    Calls Try.prog 151 #[.pointer (some ⟨S, 0, none⟩), .int .i64 (at' : Int)] w fun e w' => e = .returned (W32 (F.num4 (bs.drop at'))) ∧ w = w' := by
  have hcv := fun w (x : BitVec 8) => conv_B8_W32 (P := Try.prog) w 5 40 x Try.underlying5 Try.underlying40
  have a0 : (0 : Int) ≤ (at' : Int) := by omega
  have a1 : (at' : Int) ≤ (at' : Int) + 4 := by omega
  have a2 : (at' : Int) + 4 ≤ (c : Int) := by omega
  have a3 : ¬ c = at' := by omega
  have a4 : ((at' : Int) + 4).toNat = at' + 4 := by omega
  have a5 : at' + 4 - at' = 4 := by omega
  have a6 : (at' : Int) + 4 ≤ 9223372036854775807 := by omega
  have HR := Lib.hid hr; have HL := Lib.hid (show bs.length = n from hr.len)
  clear hr
  go_enter Try.func151, Try.ntmps151
  go_wp2
  go_loop [5, 7, 17] (fun v _ i => ∃ j : Nat, j ≤ 4 ∧ i = .int .i64 (j : Int) ∧ v = W32 (nums bs at' j)) (fun _ _ i => 4 - (intOf i).toNat)
  case atStart => exact ⟨0, by omega, rfl, rfl⟩
  case round =>
    obtain ⟨j, hj, rfl, rfl⟩ := hrel
    have j0 : (0 : Int) ≤ (j : Int) := by omega
    by_cases hlt : j < 4
    · have i1 : (j : Int) < 4 := by omega
      have hkl : at' + j < bs.length := by rw [HL.out]; omega
      obtain ⟨b', o', e, hcx⟩ := HR.out.rd (at' + j) hkl
      obtain ⟨rfl, rfl⟩ : b = b' ∧ o = o' := by simpa using e
      have hg : bs[at' + j] = bs.getD (at' + j) 0 := by simp [hkl]
      have hcell : w.cell? ⟨b, o + at' + j, none⟩ = some (B8 (bs.getD (at' + j) 0)) := by rw [← hg, ← hcx, Nat.add_assoc]
      clear e hcx hg hkl
      have HE := Lib.hid (show nums bs at' (j + 1) = (nums bs at' j <<< 8) ||| (bs.getD (at' + j) 0).setWidth 32 from rfl)
      generalize bs.getD (at' + j) 0 = y at *
      generalize nums bs at' j = u at *
      go_wp2
      go_round
      case rel => exact ⟨j + 1, by omega, by go_num, by rw [HE.out]⟩
      case measure => simp [intOf]; omega
    · have i1 : ¬ (j : Int) < 4 := by omega
      obtain rfl : j = 4 := by omega
      go_wp2
      go_ret
      exact ⟨by rw [← nums_four]; rfl, rfl⟩
set_option maxHeartbeats 1000000 in
theorem rnumber_any (b o n c : Nat) (bs : List (BitVec 8)) (w : World) (hr : RowRd w ⟨some ⟨b, o, none⟩, n, c⟩ bs) (hn : 4 ≤ n) (hc : n ≤ 9223372036854775807) :
    Calls Try.prog 78 #[.slice (some ⟨b, o, none⟩) n c] w fun e w' => e = .returned (W32 (F.num4 bs)) ∧ ∃ q, w' = w.drewN q := by
  have hcv := fun w (x : BitVec 8) => conv_B8_W32 (P := Try.prog) w 5 40 x Try.underlying5 Try.underlying40
  have hl : bs.length = n := hr.len
  have cell : ∀ j, j < 4 → w.cell? ⟨b, o + j, none⟩ = some (B8 (bs.getD j 0)) := fun j hj => by
    obtain ⟨b', o', e, hcx⟩ := hr.rd j (by omega)
    obtain ⟨rfl, rfl⟩ : b = b' ∧ o = o' := by simpa using e
    rw [hcx]; simp [show j < bs.length by omega]
  have c0 : w.cell? ⟨b, o, none⟩ = some (B8 (bs.getD 0 0)) := cell 0 (by omega)
  have c1 := cell 1 (by omega)
  have c2 := cell 2 (by omega)
  have c3 := cell 3 (by omega)
  have HE := Lib.hid (show F.num4 bs = F.of4 (bs.getD 0 0) (bs.getD 1 0) (bs.getD 2 0) (bs.getD 3 0) from rfl)
  generalize bs.getD 0 0 = x0 at *
  generalize bs.getD 1 0 = x1 at *
  generalize bs.getD 2 0 = x2 at *
  generalize bs.getD 3 0 = x3 at *
  have i0 : (0 : Int) < (n : Int) := by omega
  have i1 : (1 : Int) < (n : Int) := by omega
  have i2 : (2 : Int) < (n : Int) := by omega
  have i3 : (3 : Int) < (n : Int) := by omega
  have k0 : 0 < n := by omega
  have k1 : 1 < n := by omega
  have k2 : 2 < n := by omega
  have k3 : 3 < n := by omega
  clear cell hr hl
  go_enter Try.func78, Try.ntmps78
  go_wp2
  go_quiet (fail)
  go_wp2
  go_ret
  exact ⟨by rw [HE.out]; rfl, _, rfl⟩
end Go.Proofs.Ytfpjmeknjhhakaa.K
