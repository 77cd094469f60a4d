/- The contract of barbicanlaw04.ShaKnown: a thousand letters have the digest that is known of old. -/
import Derived.Test.YtjnhfmicadcmnaaDoorShaAwake
import Derived.Test.YtjnhfmicadcmnaaDoorRefRoots
import Derived.Test.YtjnhfmicadcmnaaDoorBasic
namespace Go.Proofs.YtjnhfmicadcmnaaDoor.K
open Go Go.RowKit

def knownList : List (BitVec 8) := [0x41#8, 0xed#8, 0xec#8, 0xe4#8, 0x2d#8, 0x63#8, 0xe8#8, 0xd9#8, 0xbf#8, 0x51#8, 0x5a#8, 0x9b#8, 0xa6#8, 0x93#8, 0x2e#8, 0x1c#8, 0x20#8, 0xcb#8, 0xc9#8, 0xf5#8, 0xa5#8, 0xd1#8, 0x34#8, 0x64#8, 0x5a#8, 0xdb#8, 0x5d#8, 0xb1#8, 0xb9#8, 0x73#8, 0x7e#8, 0xa3#8]
theorem sum_known : M.sum (List.replicate 1000 97#8) = knownList := by decide +kernel

theorem bv_grow (k : Nat) (x : BitVec 8) : bv (List.replicate k x) ++ [B8 x] = bv (List.replicate (k + 1) x) := by
  rw [List.replicate_succ', bv_append]; rfl

theorem Rd.own_or {w : World} {base : Nat} {e : TypeId} {v : Value} {n : Nat} {bs : List (BitVec 8)} (h : w.ownsRow base e 1 v n (bv bs)) (hn : 0 < n) : ∃ g cap, v = .slice (some ⟨g, 0, none⟩) n cap ∧ base ≤ g ∧ g < w.heap.size ∧ Rd w (some ⟨g, 0, none⟩) bs := by
  obtain ⟨hl, h0 | ⟨g, cap, cur, hv, hb, hg, r⟩⟩ := h
  · omega
  · subst hv
    exact ⟨g, cap, rfl, hb, (Array.getElem?_eq_some_iff.1 hg).1, Rd.of_own ⟨hl, .inr ⟨g, cap, cur, rfl, hb, hg, r⟩⟩⟩

set_option maxHeartbeats 1000000 in
set_option maxRecDepth 100000 in
theorem known_any (w : World) (hK : HasK w) (hF : HasF w) :
    Calls Tryd.prog 6 #[] w fun e w' => e = .returned (.bool true) ∧ Below w.heap.size w w' := by
  obtain ⟨i0, hi, hz0, hz1, hz2⟩ := info_parts infoByte
  have HK := Lib.hid hK; have HF := Lib.hid hF
  clear hK hF
  go_enter Tryd.func6, Tryd.ntmps6
  go_wp2_with fail
  refine (awake4_any _ HK.out HF.out).mono ?_
  rintro e w1 ⟨rfl, hb1⟩
  obtain ⟨N, hN⟩ : ∃ N, N = 1000 := ⟨_, rfl⟩
  have HN := Lib.hid hN; clear hN
  go_wp2
  go_loopw [1, 2] (fun v i wr => ∃ (k c : Nat) (A : Option Addr), k ≤ 1000 ∧ i = .int .i64 (k : Int) ∧ v = .slice A k c ∧ wr.ownsRow w1.heap.size 5 1 v k (bv (List.replicate k 97#8)) ∧ Below w.heap.size w wr ∧ w1.heap.size ≤ wr.heap.size) (fun _ i _ => 1000 - (intOf i).toNat)
  case atStart => exact ⟨0, 0, none, by omega, rfl, rfl, World.ownsRow_nil _ _ _ _, hb1, Nat.le_refl _⟩
  case round =>
    obtain ⟨k, c, A, hk, rfl, rfl, hown, hb, hsz⟩ := hrel
    rcases Nat.lt_or_ge k 1000 with h1 | h1
    · have i1 : (k : Int) < 1000 := by omega
      have HOWN := Lib.hid hown; clear hown
      go_wp2_with (at_builtin; refine wpList_append_own _ rfl _ _ 22 rfl w1.heap.size 5 i0 (.int .u8 0) 1 1 Tryd.underlying22 hi hz0 hz1 hz2 rfl (by decide) _ _ _ rfl (HOWN.out.alloc _) ⟨wr.heap.size, 0, none⟩ 1 1 [.int .u8 97] rfl rfl (cell_last _ _ _) (by intro u hu; simp at hu; subst hu; rfl) (by unfold maxLen; omega) (by omega) (by simp; omega) ?_; intro v' w3 hown3 hgrow3 _)
      have hb3 : Below w.heap.size w w3 := (hb.alloc hb.size _).grown hgrow3 (by have := hb1.size; simp; omega) (fun k' hk' => Nat.le_trans hb1.size (HOWN.out.lt k' hk').1)
      have hs3 := hgrow3.size
      obtain ⟨g3, c3, rfl, _, _⟩ := own_some hown3 (by omega)
      go_roundw
      case rel => exact ⟨k + 1, c3, _, by omega, by go_num, rfl, by rw [← bv_grow]; exact hown3, hb3, by have := hgrow3.size; simp at this; omega⟩
      case measure => simp [intOf]; omega
    · have hk2 : k = 1000 := by omega
      have i1 : ¬ (k : Int) < 1000 := by omega
      obtain ⟨g, cap, e, hg1, hg2, hrd⟩ := Rd.own_or hown (by omega)
      simp only [Value.slice.injEq, true_and] at e
      obtain ⟨rfl, rfl⟩ := e
      clear hown
      have HRD := Lib.hid hrd; have HK2 := Lib.hid hk2; clear hrd hk2
      go_wp2_with fail
      refine (Sum_any _ k c (List.replicate k 97#8) _ HRD.out (by simp) (by omega) (HK.out.below hb) (HF.out.below hb)).mono ?_
      rintro e w2 ⟨g2, cap2, rfl, hown, hb2⟩
      have hrd2 := Rd.of_own hown
      have hb4 := hb.trans (hb2.mono hb.size)
      clear hown
      have HRD2 := Lib.hid hrd2; clear hrd2
      go_wp2_with fail
      have hl : M.sum (List.replicate k 97#8) = knownList := by rw [HK2.out]; exact sum_known
      refine (SameBytes_any (some ⟨g2, 0, none⟩) (some ⟨w2.heap.size, 0, none⟩) 32 32 cap2 32 (M.sum (List.replicate k 97#8)) knownList _ (HRD2.out.below ((Below.refl _ _).alloc (Nat.le_refl _) _)) (Rd.of_block (heap_alloc_new w2 _) rfl) (M.sum_length _) rfl (by omega) (by omega)).mono ?_
      rintro e w3 ⟨rfl, q, rfl⟩
      rw [decide_eq_true hl]
      have hb5 := below_drewN (hb4.alloc hb4.size (.cells (bv knownList).toArray 5)) q
      have HB5 := Lib.hid hb5
      clear hb5 hl
      go_wp2
      go_ret
      exact ⟨rfl, HB5.out⟩
end Go.Proofs.YtjnhfmicadcmnaaDoor.K
