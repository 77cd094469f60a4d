/- The contract of mac.digest, and of a tag's closure. -/
import Derived.Test.YtjnhfmicadcmnaaDoorMacOf
import Derived.Test.YtjnhfmicadcmnaaDoorLit
namespace Go.Proofs.YtjnhfmicadcmnaaDoor.K
open Go Go.RowKit

set_option maxHeartbeats 1000000 in
set_option maxRecDepth 100000 in
theorem digest_any (S : Option Addr) (m cS : Nat) (r : Nat → Rw) (f : Nat → List (BitVec 8)) (w : World) (hp : Parts w S m r f) (hm : m ≤ 1000000) (hN : (joined f m).length ≤ 1000000000000) (hK : HasK w) (hF : HasF w) :
    Calls Tryd.prog 35 #[.slice S m cS] w fun e w' => ∃ g cap, e = .returned (.slice (some ⟨g, 0, none⟩) 32 cap) ∧ w'.ownsRow w.heap.size 5 1 (.slice (some ⟨g, 0, none⟩) 32 cap) 32 (bv (M.sum (joined f m))) ∧ Below w.heap.size w w' := by
  obtain ⟨i0, hi, hz0, hz1, hz2⟩ := info_parts infoByte
  have HP := Lib.hid hp; have HN := Lib.hid hN; have HK := Lib.hid hK; have HF := Lib.hid hF
  clear hp hN hK hF
  go_enter Tryd.func35, Tryd.ntmps35
  go_wp2
  go_loopw [3, 5, 8] (fun v _ i wr => ∃ (k N c : Nat) (A : Option Addr), k ≤ m ∧ i = .int .i64 (k : Int) ∧ v = .slice A N c ∧ N = (joined f k).length ∧ wr.ownsRow w.heap.size 5 1 v N (bv (joined f k)) ∧ Below w.heap.size w wr) (fun _ _ i _ => m - (intOf i).toNat)
  case atStart => exact ⟨0, 0, 0, none, by omega, rfl, rfl, rfl, World.ownsRow_nil _ _ _ _, Below.refl _ _⟩
  case round =>
    obtain ⟨k, N, c, A, hk, rfl, rfl, hNk, hown, hb⟩ := hrel
    have k0 : (0 : Int) ≤ (k : Int) := by omega
    have HO := Lib.hid hown; have HNK := Lib.hid hNk
    have hNb : N ≤ 100000000000000 := by have := joined_le f hk; have := HN.out; omega
    clear hown hNk
    rcases Nat.lt_or_ge k m with h1 | h1
    · have i1 : (k : Int) < (m : Int) := by omega
      obtain ⟨⟨b, o, rfl, hc⟩, hrd, hln, hnn⟩ := (HP.out.below hb) k h1
      obtain ⟨A2, n2, c2, hr⟩ : ∃ A n c, r k = ⟨A, n, c⟩ := ⟨_, _, _, rfl⟩
      rw [hr] at hc hrd hln hnn
      have hc' : wr.cell? ⟨b, o + k, none⟩ = some (.slice A2 n2 c2) := hc
      have hl2 : (bv (f k)).length = n2 * 1 := by rw [bv_length, hln]; show n2 = _; omega
      have hcs := hrd.cells
      have hnn2 : A2 = none → n2 = 0 ∧ c2 = 0 := fun h => ⟨by
        have h' : (⟨A2, n2, c2⟩ : Rw).A = none := h
        rw [h'] at hrd
        rw [hrd.empty] at hln; exact hln.symm, hnn h⟩
      have hNt : N + n2 ≤ 100000000000000 := by
        have := joined_le f (show k + 1 ≤ m by omega)
        rw [joined, List.length_append, hln] at this
        have h' : (⟨A2, n2, c2⟩ : Rw).n = n2 := rfl
        have := HNK.out; have := HN.out; omega
      have HL2 := Lib.hid hl2; have HCS := Lib.hid hcs; have HNN := Lib.hid hnn2; have HLN := Lib.hid hln
      clear hc hrd hln hnn hr hl2 hcs hnn2
      go_wp2_with (at_builtin; refine wpList_append_any _ rfl _ _ 22 rfl w.heap.size 5 i0 (.int .u8 0) 1 1 Tryd.underlying22 hi hz0 hz1 hz2 rfl (by decide) _ N (bv (joined f k)) rfl HO.out A2 n2 c2 (bv (f k)) rfl HNN.out HL2.out HCS.out (bv_one _) (by unfold maxLen; omega) (by omega) hb.size ?_; intro v3 w3 hown3 hgrow3; rw [← bv_append] at hown3; obtain ⟨B3, d3, rfl⟩ := row_slice hown3; have hb3 : Below w.heap.size w w3 := hb.grown hgrow3 hb.size (fun k hk => (HO.out.lt k hk).1); have HB3 := Lib.hid hb3; have HO3 := Lib.hid hown3; clear hb3 hown3 hgrow3)
      go_roundw
      case rel =>
        refine ⟨k + 1, N + n2, d3, B3, by omega, by go_num, rfl, ?_, HO3.out, HB3.out⟩
        rw [joined, List.length_append, ← HNK.out, HLN.out]
      case measure => simp [intOf]; omega
    · have i1 : ¬ (k : Int) < (m : Int) := by omega
      have hkm : k = m := by omega
      have o := HO.out
      have hn := HNK.out
      rw [hkm] at o hn
      have hN12 : N ≤ 1000000000000 := by have := HN.out; omega
      have HR2 := Lib.hid (RowRd.of_row o); have HB := Lib.hid hb
      clear hkm o hn hb
      go_wp2_with fail
      refine (Sum_any A N c (joined f m) wr HR2.out.rd HR2.out.len hN12 (HK.out.below HB.out) (HF.out.below HB.out)).mono ?_
      rintro e w1 ⟨g, cap, rfl, ho, hb⟩
      have HO2 := Lib.hid (row_base ho HB.out.size); have HB2 := Lib.hid (HB.out.trans (hb.mono HB.out.size))
      clear ho hb
      go_wp2
      go_ret
      exact ⟨g, cap, rfl, HO2.out, HB2.out⟩
/-- a digest of a literal list -/
theorem digest_lit (l : List RB) (w : World) (cs : Array Value) (k c : Nat) (hcs : cs = (l.map fun p => p.1.v).toArray) (hk : k = l.length) (hl : ∀ p ∈ l, RowRd w p.1 p.2) (hm : l.length ≤ 1000) (hN : (flat l).length ≤ 1000000000000) (hK : HasK w) (hF : HasF w) :
    Calls Tryd.prog 35 #[.slice (some ⟨w.heap.size, 0, none⟩) k c] (w.alloc (.cells cs 22)) (Made (w.alloc (.cells cs 22)) (M.sum (flat l))) := by
  subst hcs hk
  have hj : joined (bytesAt l) l.length = flat l := joined_all l
  have hal := (Below.refl w.heap.size w).alloc (Nat.le_refl _) (.cells (l.map fun p => p.1.v).toArray 22)
  refine (digest_any _ l.length c (rowsOf l) (bytesAt l) _ (parts_of l rfl hl) (by omega) (by rw [hj]; exact hN) (hK.below hal) (hF.below hal)).mono ?_
  rintro e w' ⟨g, cap, he, ho, hb⟩
  rw [hj] at ho
  exact ⟨g, 32, cap, he, rfl, ho, hb⟩
end Go.Proofs.YtjnhfmicadcmnaaDoor.K
