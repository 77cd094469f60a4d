/- Contracts of the reference's prime, root, roots, turned, moved. -/
import Derived.Test.YtjnhfmicadcmnaaDoorRefTimes
import Derived.Test.YtjnhfmicadcmnaaDoorLent
namespace Go.Proofs.YtjnhfmicadcmnaaDoor.K
open Go Go.RowKit

theorem turned_any (x : BitVec 64) (n : Int) (w : World) (h0 : 0 < n) (h1 : n < 32) :
    Calls Tryd.prog 30 #[W64 x, .int .u64 n] w fun e w' => e = .returned (W64 (((x >>> n.toNat) ||| (x <<< (32 - n).toNat)) &&& M.mask)) ∧ w = w' := by
  have hc : n ≤ 32 := by omega
  have hc2 : (0 : Int) ≤ n := by omega
  go_enter Tryd.func30, Tryd.ntmps30
  go_wp2
  go_ret
  exact ⟨rfl, rfl⟩
theorem moved_any (x : BitVec 64) (n : Int) (w : World) (h0 : 0 ≤ n) :
    Calls Tryd.prog 43 #[W64 x, .int .u64 n] w fun e w' => e = .returned (W64 (x >>> n.toNat)) ∧ w = w' := by
  go_enter Tryd.func43, Tryd.ntmps43
  go_wp2
  go_ret
  exact ⟨rfl, rfl⟩

theorem primeFrom_hit {n f k : Nat} (h : k * k ≤ n) (hm : n % k = 0) : M.primeFrom n (f + 1) k = false := by rw [M.primeFrom, if_pos h, if_pos hm]
theorem primeFrom_on {n f k : Nat} (h : k * k ≤ n) (hm : n % k ≠ 0) : M.primeFrom n (f + 1) k = M.primeFrom n f (k + 1) := by rw [M.primeFrom, if_pos h, if_neg hm]
theorem primeFrom_end {n f k : Nat} (h : ¬ k * k ≤ n) : M.primeFrom n f k = decide (1 < n) := by
  cases f with
  | zero => rfl
  | succ f => rw [M.primeFrom, if_neg h]
set_option maxHeartbeats 1000000 in
set_option maxRecDepth 100000 in
theorem prime_any (n : Nat) (w : World) (hn : n ≤ 100000) :
    Calls Tryd.prog 41 #[.int .u64 (n : Int)] w fun e w' => e = .returned (.bool (M.prime n)) ∧ w = w' := by
  go_enter Tryd.func41, Tryd.ntmps41
  go_wp2
  go_loop [3] (fun v => ∃ j : Nat, j ≤ n ∧ v = .int .u64 ((j + 2 : Nat) : Int) ∧ M.primeFrom n (n - j) (j + 2) = M.prime n) (fun v => n + 2 - (intOf v).toNat)
  case atStart => exact ⟨0, Nat.zero_le _, rfl, rfl⟩
  case round =>
    obtain ⟨j, hj, rfl, hp⟩ := hrel
    obtain ⟨k, hk⟩ : ∃ k, k = j + 2 := ⟨_, rfl⟩
    rw [← hk] at hp
    rw [← hk]
    have hk1 : 2 ≤ k := by omega
    have hk2 : k ≤ 100002 := by omega
    obtain ⟨q, hq⟩ : ∃ q, q = k * k := ⟨_, rfl⟩
    have hq2 : q ≤ 20000000000 := by rw [hq]; exact Nat.le_trans (Nat.mul_le_mul hk2 hk2) (by omega)
    have hqw : IntKind.u64.wrap ((k : Int) * (k : Int)) = (q : Int) := by rw [← Int.natCast_mul, ← hq]; exact IntWalk.u64_in _ (by omega)
    have HQ := Lib.hid hq; have HK := Lib.hid hk; have HP := Lib.hid hp
    clear hq hk hp
    by_cases h1 : q ≤ n
    · have d1 : decide (q ≤ n) = true := by simpa using h1
      have p1 : (q : Int) ≤ (n : Int) := by omega
      have hjn : j < n := by
        have := HQ.out; have := HK.out
        have h3 : k * 1 ≤ k * k := Nat.mul_le_mul_left k (by omega)
        omega
      have ef : n - j = (n - (j + 1)) + 1 := by omega
      have EF := Lib.hid ef; clear ef
      obtain ⟨r, hr⟩ : ∃ r, r = n % k := ⟨_, rfl⟩
      have hrw : (n : Int) % (k : Int) = (r : Int) := by rw [hr]; omega
      have HR := Lib.hid hr; clear hr
      have k0 : ¬ (k : Int) = 0 := by omega
      have k1 : ((k : Int) == 0) = false := by simp; omega
      by_cases h2 : r = 0
      · have e0 : ((r : Int) == 0) = true := by simp [h2]
        have H2 := Lib.hid h2; clear h2
        go_wp2
        go_ret
        refine ⟨?_, rfl⟩
        rw [← HP.out, EF.out, primeFrom_hit (by rw [← HQ.out]; exact h1) (by rw [← HR.out]; exact H2.out)]; rfl
      · have e0 : ((r : Int) == 0) = false := by simp; omega
        have H2 := Lib.hid h2; clear h2
        go_wp2
        go_round
        case rel =>
          refine ⟨j + 1, by omega, by rw [HK.out]; go_num, ?_⟩
          rw [← HP.out, EF.out, primeFrom_on (by rw [← HQ.out]; exact h1) (by rw [← HR.out]; exact H2.out), HK.out]
        case measure => have := HK.out; simp [intOf]; omega
    · have d1 : decide (q ≤ n) = false := by simpa using h1
      have p1 : ¬ (q : Int) ≤ (n : Int) := by omega
      go_wp2
      go_ret
      refine ⟨?_, rfl⟩
      rw [← HP.out, primeFrom_end (by rw [← HQ.out]; exact h1)]
      show Ending.returned (.bool (decide ((n : Int) > 1))) = _
      congr 2
      rw [decide_eq_decide]; omega
end Go.Proofs.YtjnhfmicadcmnaaDoor.K
