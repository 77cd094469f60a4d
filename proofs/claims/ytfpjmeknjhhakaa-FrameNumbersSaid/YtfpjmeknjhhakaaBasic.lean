/- Contracts of the small functions that only reckon. -/
import Derived.Test.YtfpjmeknjhhakaaWords
import Derived.Test.YtfpjmeknjhhakaaShaMath
import Derived.Test.YtfpjmeknjhhakaaRows
namespace Go.Proofs.Ytfpjmeknjhhakaa.K
open Go Go.RowKit

/-- barbicankit.mark, as the walk has it. -/
def markI (k i : Int) : Int := wrap64 (wrap64 (1000003 * wrap64 (k + 7)) + i)
def markB (k i : Int) : BitVec 8 := BitVec.ofInt 8 (IntKind.u64.wrap (IntKind.u64.wrap (wrap64 (wrap64 (1000003 * wrap64 (k + 7)) + i)) * 11400714819323198485) / 72057594037927936)
theorem markB_eq (k i : Int) : Value.int .u8 (IntKind.u64.wrap (IntKind.u64.wrap (wrap64 (wrap64 (1000003 * wrap64 (k + 7)) + i)) * 11400714819323198485) / 72057594037927936 % 256) = B8 (markB k i) := by
  simp only [B8, markB, BitVec.toNat_ofInt, Value.int.injEq, true_and]
  omega

theorem mark_any (k i : Int) (w : World) :
    Calls Try.prog 81 #[.int .i64 k, .int .i64 i] w fun e w' => e = .returned (.int .i64 (markI k i)) ∧ w = w' := by
  go_enter Try.func81, Try.ntmps81
  go_wp2
  go_ret
  exact ⟨rfl, rfl⟩
theorem markByte_any (k i : Int) (w : World) :
    Calls Try.prog 47 #[.int .i64 k, .int .i64 i] w fun e w' => e = .returned (B8 (markB k i)) ∧ w = w' := by
  go_enter Try.func47, Try.ntmps47
  go_wp2
  go_ret
  exact ⟨by rw [← markB_eq]; rfl, rfl⟩

/-- barbicankit.Pick: any number brought into 0 to n - 1 (n from 1 on). -/
def pick (x n : Int) : Int := x % n
theorem pick_lo (x n : Int) (h : 1 ≤ n) : 0 ≤ pick x n := Int.emod_nonneg _ (by omega)
theorem pick_hi (x n : Int) (h : 1 ≤ n) : pick x n < n := Int.emod_lt_of_pos _ (by omega)
theorem Pick_any (x n : Int) (w : World) (hn : 1 ≤ n) (hn2 : n ≤ 4611686018427387904) :
    Calls Try.prog 26 #[.int .i64 x, .int .i64 n] w fun e w' => e = .returned (.int .i64 (pick x n)) ∧ w = w' := by
  have h1 : -n < x.tmod n := by have := Int.lt_tmod_of_pos x (show (0:Int) < n by omega); omega
  have h2 : x.tmod n < n := Int.tmod_lt_of_pos x (by omega)
  go_enter Try.func26, Try.ntmps26
  go_wp2
  · go_ret
    rename_i h
    refine ⟨?_, rfl⟩
    have e : x.tmod n + n = pick x n := by
      unfold pick
      have := Int.emod_nonneg x (show n ≠ 0 by omega)
      have h5 := Int.tmod_eq_emod (a := x) (b := n)
      split at h5 <;> omega
    show Ending.returned (Value.int .i64 (x.tmod n + n)) = _
    rw [e]
  · go_ret
    rename_i h
    refine ⟨?_, rfl⟩
    have e : x.tmod n = pick x n := by
      unfold pick
      have h5 := Int.tmod_eq_emod (a := x) (b := n)
      have h6 := Int.emod_lt_of_pos x (show (0 : Int) < n by omega)
      split at h5 <;> omega
    show Ending.returned (Value.int .i64 (x.tmod n)) = _
    rw [e]


set_option maxHeartbeats 400000 in
theorem SameBytes_any (A B : Option Addr) (n m c d : Nat) (xs ys : List (BitVec 8)) (w : World) (hx : Rd w A xs) (hy : Rd w B ys) (hn : xs.length = n) (hm : ys.length = m) (hn2 : n ≤ 4611686018427387904) (hm2 : m ≤ 4611686018427387904) :
    Calls Try.prog 17 #[.slice A n c, .slice B m d] w fun e w' => e = .returned (.bool (decide (xs = ys))) ∧ ∃ k, w' = w.drewN k := by
  subst hn hm
  by_cases hl : xs.length = ys.length
  · have hne : ((xs.length : Int) != (ys.length : Int)) = false := by simp; omega
    have HL := Lib.hid hl; clear hl
    go_enter Try.func17, Try.ntmps17
    go_wp2
    go_loopw [5] (fun i wr => ∃ k : Nat, k ≤ xs.length ∧ i = .int .i64 k ∧ (∀ j, j < k → xs[j]? = ys[j]?) ∧ ∃ q, wr = w.drewN q) (fun i _ => xs.length - (intOf i).toNat)
    case atStart => exact ⟨0, Nat.zero_le _, rfl, fun j hj => absurd hj (Nat.not_lt_zero _), 0, rfl⟩
    case round =>
      obtain ⟨k, hk, rfl, hpre, q, rfl⟩ := hrel
      by_cases hlt : k < xs.length
      · obtain ⟨b, o, rfl, hcx⟩ := hx k hlt
        obtain ⟨b', o', rfl, hcy⟩ := hy k (by have := HL.out; omega)
        have i1 : (0 : Int) ≤ (k : Int) := by omega
        have i2 : (k : Int) < (xs.length : Int) := by omega
        have i3 : (k : Int) < (ys.length : Int) := by have := HL.out; omega
        have HP := Lib.hid hpre
        clear hx hy hpre
        go_wp2
        go_quiet (fail)
        go_wp2
        · go_ret
          have hne : (xs[k] != ys[k]) = true := by assumption
          refine ⟨?_, _, World.drewN_drewN _ _ _⟩
          rw [decide_eq_false (fun e => by subst e; simp at hne)]; rfl
        · have heq : (xs[k] != ys[k]) = false := by assumption
          go_roundw
          case rel =>
            refine ⟨k + 1, by omega, by go_num, fun j hj => ?_, _, rfl⟩
            by_cases e : j = k
            · subst e
              rw [List.getElem?_eq_getElem hlt, List.getElem?_eq_getElem (by have := HL.out; omega)]
              simpa using heq
            · exact HP.out j (by omega)
          case measure => simp [intOf]; omega
      · have hge : ¬ ((k : Int) < (xs.length : Int)) := by omega
        obtain rfl : k = xs.length := by omega
        have HP := Lib.hid hpre; clear hpre
        go_wp2
        go_ret
        refine ⟨?_, _, rfl⟩
        rw [decide_eq_true]; · rfl
        apply List.ext_getElem? 
        intro j
        by_cases hj : j < xs.length
        · exact HP.out j hj
        · rw [List.getElem?_eq_none (by omega), List.getElem?_eq_none (by have := HL.out; omega)]
  · have hne : ((xs.length : Int) != (ys.length : Int)) = true := by simp; omega
    go_enter Try.func17, Try.ntmps17
    go_wp2
    go_ret
    exact ⟨by rw [decide_eq_false (fun e => hl (by rw [e]))]; rfl, 0, rfl⟩
end Go.Proofs.Ytfpjmeknjhhakaa.K
