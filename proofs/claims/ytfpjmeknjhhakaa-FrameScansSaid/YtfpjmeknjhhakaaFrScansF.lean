/- The contract of the law FrameScans. -/
import Derived.Test.YtfpjmeknjhhakaaFrAwake
namespace Go.Proofs.Ytfpjmeknjhhakaa.K
open Go Go.RowKit

set_option maxHeartbeats 4000000 in
set_option maxRecDepth 100000 in
theorem fscans_any (A : Option Addr) (n c : Nat) (bs : List (BitVec 8)) (w : World) (hr : RowRd w ⟨A, n, c⟩ bs) (hn : n ≤ c) (hc : c ≤ 9223372036854775807) (hA : ∀ a, A = some a → a.block < w.heap.size) :
    Calls Try.prog 4 #[.slice A n c] w (Says w) := by
  have HR := Lib.hid hr; have HA := Lib.hid hA
  clear hr hA
  by_cases h2 : n ≤ 20000
  · have i2 : ¬ (20000 : Int) < (n : Int) := by omega
    go_enter Try.func4, Try.ntmps4
    go_wp2_with fail
    refine (fsum_any A n c bs w HR.out (by omega)).mono ?_
    rintro e w' ⟨rfl, rfl⟩
    go_wp2_with fail
    refine (rsum_any A n c bs w HR.out (by omega)).mono ?_
    rintro e w1 ⟨rfl, q, rfl⟩
    have heq : ∀ t, binOp .eql t (W32 (F.fsum bs)) (W32 (F.fsum bs)) = pure (.bool true) := fun t => by
      have := W32_eql t (F.fsum bs) (F.fsum bs)
      rw [this]; simp
    have S1 := Lib.hid (Since.drewN (Below.refl w.heap.size w) q)
    generalize w.drewN q = w1 at *
    go_wp2_with fail
    refine (scans_any A n c bs w1 (Since.row S1.out HR.out) hn hc (by omega) (fun a e => Nat.lt_of_lt_of_le (HA.out a e) S1.out.size)).mono ?_
    rintro e w2 ⟨rfl, hb⟩
    have S2 := Lib.hid (S1.out.add hb)
    clear hb
    go_wp2_with fail
    refine (awake_any w2).mono ?_
    rintro e w3 ⟨rfl, hb⟩
    have S3 := Lib.hid (S2.out.add hb)
    clear hb
    go_wp2_with fail
    go_ret
    exact ⟨rfl, S3.out⟩
  · have i2 : (20000 : Int) < (n : Int) := by omega
    go_enter Try.func4, Try.ntmps4
    go_wp2_with fail
    refine (awake_any w).mono ?_
    rintro e w1 ⟨rfl, hb⟩
    have HB := Lib.hid hb
    clear hb
    go_wp2_with fail
    go_ret
    exact ⟨rfl, HB.out⟩
end Go.Proofs.Ytfpjmeknjhhakaa.K
