/- The contract of barbicankit.EntriesOf. -/
import Derived.Test.YtjnhfmicadcmnaaOpen
namespace Go.Proofs.Ytjnhfmicadcmnaa.K
open Go Go.RowKit

def esum (es : List M.Ent) (k : Nat) : Nat := ((es.take k).map fun e => e.data.length / 8).sum
theorem esum_succ (es : List M.Ent) (k : Nat) (h : k < es.length) : esum es (k + 1) = esum es k + es[k].data.length / 8 := by
  unfold esum
  rw [List.take_succ_eq_append_getElem h, List.map_append, List.sum_append]
  simp
theorem esum_le (es : List M.Ent) (k i : Nat) (hk : k ≤ es.length) (hi : i < k) : es[i].data.length / 8 ≤ esum es k := by
  induction k with
  | zero => omega
  | succ k ih =>
    rw [esum_succ es k (by omega)]
    by_cases h : i = k
    · subst h; omega
    · have := ih (by omega) (by omega); omega
/-- so many entries and eighths of bytes; or more than most -/
def EOf (w : World) (most n : Nat) (es : List M.Ent) (e : Ending) (w' : World) : Prop := ∃ r : Nat, e = .returned (.int .i64 (r : Int)) ∧ (r ≤ most → n + esum es n ≤ most) ∧ w = w'
set_option maxHeartbeats 1000000 in
set_option maxRecDepth 100000 in
theorem EntriesOf_any (A : Option Addr) (n c : Nat) (es : List M.Ent) (most : Nat) (w : World) (hE : Ents w A es) (hl : es.length = n) (hn : n ≤ 9223372036854775807) (hmost : most ≤ 100000) :
    Calls Try.prog 37 #[.slice A n c, .int .i64 (most : Int)] w (EOf w most n es) := by
  have HE := Lib.hid hE; have HL := Lib.hid hl
  clear hE hl
  go_enter Try.func37, Try.ntmps37
  go_wp2
  go_loop [5, 6] (fun v i => ∃ k r : Nat, k ≤ n ∧ i = .int .i64 (k : Int) ∧ v = .int .i64 (r : Int) ∧ r = n + esum es k ∧ r ≤ 9223372036854775807) (fun _ i => n - (intOf i).toNat)
  case atStart => exact ⟨0, n, by omega, rfl, rfl, by simp [esum], hn⟩
  case round =>
    obtain ⟨k, r, hk, rfl, rfl, hr, hrm⟩ := hrel
    have HR := Lib.hid hr
    have k0 : (0 : Int) ≤ (k : Int) := by omega
    clear hr
    by_cases hkn : k < n
    · have i1 : (k : Int) < (n : Int) := by omega
      by_cases hrl : r ≤ most
      · have i2 : (r : Int) ≤ (most : Int) := by omega
        obtain ⟨b, o, rfl, A', m, c', hc, _, _, _, hrd, h1, h2⟩ := HE.out k (by rw [HL.out]; exact hkn)
        have c5 := hc 5 _ rfl
        have hkl : k < es.length := by rw [HL.out]; exact hkn
        have hm : es[k].data.length = m := hrd.len
        have HM := Lib.hid hm
        have m0 : (0 : Int) ≤ (m : Int) := by omega
        have q0 : (0 : Int) ≤ (m : Int) / 8 := by omega
        have q1 : (r : Int) + (m : Int) / 8 ≤ 9223372036854775807 := by omega
        have q2 : -9223372036854775808 ≤ (r : Int) + (m : Int) / 8 := by omega
        clear hc hrd hm
        go_wp2
        go_round
        case rel =>
          refine ⟨k + 1, r + m / 8, by omega, by go_num, by rw [show ((r + m / 8 : Nat) : Int) = (r : Int) + (m : Int) / 8 by omega], ?_, by omega⟩
          rw [HR.out, esum_succ es k (by rw [HL.out]; exact hkn), HM.out]; omega
        case measure => simp [intOf]; omega
      · have i2 : ¬ (r : Int) ≤ (most : Int) := by omega
        go_wp2
        go_ret
        exact ⟨r, rfl, fun h => absurd h hrl, rfl⟩
    · have i1 : ¬ (k : Int) < (n : Int) := by omega
      have hkk : k = n := by omega
      have HK := Lib.hid hkk
      clear hkk
      go_wp2
      go_ret
      exact ⟨r, rfl, fun h => by have := HR.out; rw [HK.out] at this; omega, rfl⟩
end Go.Proofs.Ytjnhfmicadcmnaa.K
