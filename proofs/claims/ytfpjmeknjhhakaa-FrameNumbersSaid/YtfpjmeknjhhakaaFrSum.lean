/- The contracts of frame's sums, and of the reference's. -/
import Derived.Test.YtfpjmeknjhhakaaFrWords
import Derived.Test.YtfpjmeknjhhakaaFrMath
import Derived.Test.YtfpjmeknjhhakaaRowRead
namespace Go.Proofs.Ytfpjmeknjhhakaa.K
open Go Go.RowKit

theorem csteps_succ (k : Nat) (w : F.W) : F.csteps (k + 1) w = F.cstep (F.csteps k w) := by rw [F.csteps_add]; rfl
set_option maxHeartbeats 1000000 in
theorem turned_any (x : BitVec 32) (w : World) :
    Calls Try.prog 103 #[W32 x] w fun e w' => e = .returned (W32 (F.csteps 8 x)) ∧ w = w' := by
  have h1 : ∀ t (x : BitVec 32), binOp .and t (W32 x) (.int .u32 1) = pure (W32 (x &&& 1#32)) := fun t x => W32_and t x 1#32
  have h2 : ∀ t (x : BitVec 32), binOp .and t (.int .u32 2197175160) (W32 x) = pure (W32 (F.poly &&& x)) := fun t x => W32_and t F.poly x
  go_enter Try.func103, Try.ntmps103
  go_wp2
  go_loop [0, 3] (fun v i => ∃ k : Nat, k ≤ 8 ∧ i = .int .i64 (k : Int) ∧ v = W32 (F.csteps k x)) (fun _ i => 8 - (intOf i).toNat)
  case atStart => exact ⟨0, by omega, rfl, rfl⟩
  case round =>
    obtain ⟨k, hk, rfl, rfl⟩ := hrel
    by_cases hlt : k < 8
    · have i1 : (k : Int) < 8 := by omega
      go_wp2
      go_round
      case rel => exact ⟨k + 1, by omega, by go_num, by rw [csteps_succ, ← F.cstep_eq]⟩
      case measure => simp [intOf]; omega
    · have i1 : ¬ (k : Int) < 8 := by omega
      obtain rfl : k = 8 := by omega
      go_wp2
      go_ret
      exact ⟨rfl, rfl⟩
theorem crc_take (x : BitVec 32) (bs : List (BitVec 8)) (k : Nat) (h : k < bs.length) : F.crc x (bs.take (k + 1)) = F.cbyte (F.crc x (bs.take k)) bs[k] := by
  rw [List.take_succ_eq_append_getElem h, F.crc_append]; rfl
set_option maxHeartbeats 1000000 in
theorem more_any (x : BitVec 32) (A : Option Addr) (n c : Nat) (bs : List (BitVec 8)) (w : World) (hr : RowRd w ⟨A, n, c⟩ bs) (hn : n ≤ 9223372036854775807) :
    Calls Try.prog 50 #[W32 x, .slice A n c] w fun e w' => e = .returned (W32 (F.crc x bs)) ∧ w = w' := by
  have h1 : ∀ t (x : BitVec 32), binOp .and t (W32 x) (.int .u32 255) = pure (W32 (x &&& 255#32)) := fun t x => W32_and t x 255#32
  have hcv := fun w (x : BitVec 8) => conv_B8_W32 (P := Try.prog) w 5 40 x Try.underlying5 Try.underlying40
  have HR := Lib.hid hr; have HL := Lib.hid (show bs.length = n from hr.len)
  clear hr
  go_enter Try.func50, Try.ntmps50
  go_wp2
  go_loop [0, 6, 9] (fun v _ i => ∃ k : Nat, k ≤ n ∧ i = .int .i64 (k : Int) ∧ v = W32 (F.crc x (bs.take k))) (fun _ _ i => n - (intOf i).toNat)
  case atStart => exact ⟨0, by omega, rfl, rfl⟩
  case round =>
    obtain ⟨k, hk, rfl, rfl⟩ := hrel
    have k0 : (0 : Int) ≤ (k : Int) := by omega
    by_cases hlt : k < n
    · have i1 : (k : Int) < (n : Int) := by omega
      have hkl : k < bs.length := by rw [HL.out]; exact hlt
      obtain ⟨b, o, hA, hc⟩ := HR.out.rd k hkl
      have hct := Lib.hid (crc_take x bs k hkl)
      have hA' : A = some ⟨b, o, none⟩ := hA
      subst hA'
      generalize bs[k] = y at *
      clear hA
      go_wp2_with (go_at_call 103; refine (turned_any _ _).mono ?_; rintro e w' ⟨rfl, rfl⟩)
      go_round
      case rel => exact ⟨k + 1, by omega, by go_num, by rw [hct.out, F.cbyte_eq]⟩
      case measure => simp [intOf]; omega
    · have i1 : ¬ (k : Int) < (n : Int) := by omega
      have hk2 : k = n := by omega
      have HE := Lib.hid (show bs.take k = bs from List.take_of_length_le (by rw [HL.out]; omega))
      clear hk2
      go_wp2
      go_ret
      exact ⟨by rw [HE.out]; rfl, rfl⟩
theorem fsum_any (A : Option Addr) (n c : Nat) (bs : List (BitVec 8)) (w : World) (hr : RowRd w ⟨A, n, c⟩ bs) (hn : n ≤ 9223372036854775807) :
    Calls Try.prog 20 #[.slice A n c] w fun e w' => e = .returned (W32 (F.fsum bs)) ∧ w = w' := by
  have HR := Lib.hid hr
  clear hr
  go_enter Try.func20, Try.ntmps20
  go_wp2_with fail
  refine (more_any (~~~0#32) A n c bs w HR.out hn).mono ?_
  rintro e w' ⟨rfl, rfl⟩
  go_wp2
  go_ret
  exact ⟨rfl, rfl⟩
set_option maxHeartbeats 2000000 in
theorem rsum_any (A : Option Addr) (n c : Nat) (bs : List (BitVec 8)) (w : World) (hr : RowRd w ⟨A, n, c⟩ bs) (hn : n ≤ 9223372036854775807) :
    Calls Try.prog 21 #[.slice A n c] w fun e w' => e = .returned (W32 (F.fsum bs)) ∧ ∃ q, w' = w.drewN q := by
  have h1 : ∀ t (x : BitVec 32), binOp .and t (W32 x) (.int .u32 1) = pure (W32 (x &&& 1#32)) := fun t x => W32_and t x 1#32
  have h2 : ∀ t (x : BitVec 32), binOp .xor t (W32 x) (.int .u32 2197175160) = pure (W32 (x ^^^ F.poly)) := fun t x => W32_xor t x F.poly
  have h3 : ∀ t (x : BitVec 32), binOp .eql t (W32 x) (.int .u32 1) = pure (.bool (x == 1#32)) := fun t x => W32_eql t x 1#32
  have hcv := fun w (x : BitVec 8) => conv_B8_W32 (P := Try.prog) w 5 40 x Try.underlying5 Try.underlying40
  have HR := Lib.hid hr; have HL := Lib.hid (show bs.length = n from hr.len)
  clear hr
  go_enter Try.func21, Try.ntmps21
  go_wp2
  go_loop [3, 4, 5, 6] (fun v i _ _ => ∃ k : Nat, k ≤ n ∧ i = .int .i64 (k : Int) ∧ v = W32 (F.crc (~~~0#32) (bs.take k))) (fun _ i _ _ => n - (intOf i).toNat)
  case atStart => exact ⟨0, by omega, rfl, rfl⟩
  case round =>
    obtain ⟨k, hk, rfl, rfl⟩ := hrel
    have k0 : (0 : Int) ≤ (k : Int) := by omega
    by_cases hlt : k < n
    · have i1 : (k : Int) < (n : Int) := by omega
      have hkl : k < bs.length := by rw [HL.out]; exact hlt
      obtain ⟨b, o, hA, hc⟩ := HR.out.rd k hkl
      have hct := Lib.hid (crc_take (~~~0#32) bs k hkl)
      have hA' : A = some ⟨b, o, none⟩ := hA
      subst hA'
      generalize bs[k] = y at *
      clear hA
      go_wp2
      go_loop [3, 5, 6] (fun v i _ => ∃ j : Nat, j ≤ 8 ∧ i = .int .i64 (j : Int) ∧ v = W32 (F.csteps j (F.crc (~~~0#32) (bs.take k) ^^^ y.setWidth 32))) (fun _ i _ => 8 - (intOf i).toNat)
      case atStart => exact ⟨0, by omega, rfl, rfl⟩
      case round =>
        obtain ⟨j, hj, rfl, rfl⟩ := hrel
        by_cases hlt2 : j < 8
        · have j1 : (j : Int) < 8 := by omega
          have hst : F.csteps (j + 1) (F.crc (~~~0#32) (bs.take k) ^^^ y.setWidth 32) = F.cstep (F.csteps j (F.crc (~~~0#32) (bs.take k) ^^^ y.setWidth 32)) := csteps_succ _ _
          generalize F.csteps j (F.crc (~~~0#32) (bs.take k) ^^^ y.setWidth 32) = u at *
          have hst := Lib.hid hst
          by_cases hb : u.getLsbD 0 = true
          · have hu : ((u &&& 1#32) == 1#32) = true := by
              have h4 : u &&& 1#32 = 1#32 := by
                apply BitVec.eq_of_getLsbD_eq; intro i hi
                rw [BitVec.getLsbD_and, BitVec.getLsbD_one]
                cases i with
                | zero => simpa using hb
                | succ i => simp
              rw [h4]; rfl
            have hcs := Lib.hid (show F.cstep u = (u >>> 1) ^^^ F.poly by unfold F.cstep; rw [hb]; rfl)
            clear hb
            go_wp2
            go_round
            case rel => exact ⟨j + 1, by omega, by go_num, by rw [hst.out, hcs.out]⟩
            case measure => simp [intOf]; omega
          · have hb' : u.getLsbD 0 = false := by simpa using hb
            have hu : ((u &&& 1#32) == 1#32) = false := by
              have h4 : u &&& 1#32 = 0#32 := by
                apply BitVec.eq_of_getLsbD_eq; intro i hi
                rw [BitVec.getLsbD_and, BitVec.getLsbD_one]
                cases i with
                | zero => simpa using hb'
                | succ i => simp
              rw [h4]; rfl
            have hcs := Lib.hid (show F.cstep u = u >>> 1 by unfold F.cstep; rw [hb']; simp)
            clear hb hb'
            go_wp2
            go_round
            case rel => exact ⟨j + 1, by omega, by go_num, by rw [hst.out, hcs.out]⟩
            case measure => simp [intOf]; omega
        · have j1 : ¬ (j : Int) < 8 := by omega
          obtain rfl : j = 8 := by omega
          go_wp2
          go_round
          case rel => exact ⟨k + 1, by omega, by go_num, by rw [hct.out]; rfl⟩
          case measure => simp [intOf]; omega
    · have i1 : ¬ (k : Int) < (n : Int) := by omega
      have HE := Lib.hid (show bs.take k = bs from List.take_of_length_le (by rw [HL.out]; omega))
      go_wp2
      go_ret
      exact ⟨by rw [HE.out]; rfl, 0, rfl⟩
end Go.Proofs.Ytfpjmeknjhhakaa.K
