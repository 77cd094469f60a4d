/- The contracts of wire.Join and wire.Bytes, and of the reference's Bytes. -/
import Derived.Test.YtjnhfmicadcmnaaWireNum
import Derived.Test.YtjnhfmicadcmnaaAppendAny
import Derived.Test.YtjnhfmicadcmnaaParts
namespace Go.Proofs.Ytjnhfmicadcmnaa.K
open Go Go.RowKit

set_option maxHeartbeats 1000000 in
set_option maxRecDepth 100000 in
theorem join_any (S : Option Addr) (m cS : Nat) (r : Nat → Rw) (f : Nat → List (BitVec 8)) (w : World) (hp : Parts w S m r f) (hm : m ≤ 1000000) (hN : (joined f m).length ≤ 100000000000000) :
    Calls Try.prog 17 #[.slice S m cS] w fun e w' => ∃ A N c, e = .returned (.slice A N c) ∧ N = (joined f m).length ∧ w'.ownsRow w.heap.size 5 1 (.slice A N c) N (bv (joined f m)) ∧ Below w.heap.size w w' := by
  obtain ⟨i0, hi, hz0, hz1, hz2⟩ := info_parts infoByte
  have HP := Lib.hid hp; have HN := Lib.hid hN
  clear hp hN
  go_enter Try.func17, Try.ntmps17
  go_wp2
  go_loopw [3, 5, 8] (fun v _ i wr => ∃ (k N c : Nat) (A : Option Addr), k ≤ m ∧ i = .int .i64 (k : Int) ∧ v = .slice A N c ∧ N = (joined f k).length ∧ wr.ownsRow w.heap.size 5 1 v N (bv (joined f k)) ∧ Below w.heap.size w wr) (fun _ _ i _ => m - (intOf i).toNat)
  case atStart => exact ⟨0, 0, 0, none, by omega, rfl, rfl, rfl, World.ownsRow_nil _ _ _ _, Below.refl _ _⟩
  case round =>
    obtain ⟨k, N, c, A, hk, rfl, rfl, hNk, hown, hb⟩ := hrel
    have k0 : (0 : Int) ≤ (k : Int) := by omega
    have HO := Lib.hid hown; have HNK := Lib.hid hNk
    have hNb : N ≤ 100000000000000 := by have := joined_le f hk; have := HN.out; omega
    clear hown hNk
    rcases Nat.lt_or_ge k m with h1 | h1
    · have i1 : (k : Int) < (m : Int) := by omega
      obtain ⟨⟨b, o, rfl, hc⟩, hrd, hln, hnn⟩ := (HP.out.below hb) k h1
      obtain ⟨A2, n2, c2, hr⟩ : ∃ A n c, r k = ⟨A, n, c⟩ := ⟨_, _, _, rfl⟩
      rw [hr] at hc hrd hln hnn
      have hc' : wr.cell? ⟨b, o + k, none⟩ = some (.slice A2 n2 c2) := hc
      have hl2 : (bv (f k)).length = n2 * 1 := by rw [bv_length, hln]; show n2 = _; omega
      have hcs := hrd.cells
      have hnn2 : A2 = none → n2 = 0 ∧ c2 = 0 := fun h => ⟨by
        have h' : (⟨A2, n2, c2⟩ : Rw).A = none := h
        rw [h'] at hrd
        rw [hrd.empty] at hln; exact hln.symm, hnn h⟩
      have hNt : N + n2 ≤ 100000000000000 := by
        have := joined_le f (show k + 1 ≤ m by omega)
        rw [joined, List.length_append, hln] at this
        have h' : (⟨A2, n2, c2⟩ : Rw).n = n2 := rfl
        have := HNK.out; have := HN.out; omega
      have HL2 := Lib.hid hl2; have HCS := Lib.hid hcs; have HNN := Lib.hid hnn2; have HLN := Lib.hid hln
      clear hc hrd hln hnn hr hl2 hcs hnn2
      go_wp2_with (at_builtin; refine wpList_append_any _ rfl _ _ 22 rfl w.heap.size 5 i0 (.int .u8 0) 1 1 Try.underlying22 hi hz0 hz1 hz2 rfl (by decide) _ N (bv (joined f k)) rfl HO.out A2 n2 c2 (bv (f k)) rfl HNN.out HL2.out HCS.out (bv_one _) (by unfold maxLen; omega) (by omega) hb.size ?_; intro v3 w3 hown3 hgrow3; rw [← bv_append] at hown3; obtain ⟨B3, d3, rfl⟩ := row_slice hown3; have hb3 : Below w.heap.size w w3 := hb.grown hgrow3 hb.size (fun k hk => (HO.out.lt k hk).1); have HB3 := Lib.hid hb3; have HO3 := Lib.hid hown3; clear hb3 hown3 hgrow3)
      go_roundw
      case rel =>
        refine ⟨k + 1, N + n2, d3, B3, by omega, by go_num, rfl, ?_, HO3.out, HB3.out⟩
        rw [joined, List.length_append, ← HNK.out, HLN.out]
      case measure => simp [intOf]; omega
    · have i1 : ¬ (k : Int) < (m : Int) := by omega
      have hkm : k = m := by omega
      have o := HO.out
      have hn := HNK.out
      rw [hkm] at o hn
      have HO2 := Lib.hid o; have HN2 := Lib.hid hn
      clear hkm o hn
      go_wp2
      go_ret
      exact ⟨A, N, c, rfl, HN2.out, HO2.out, hb⟩
end Go.Proofs.Ytjnhfmicadcmnaa.K
