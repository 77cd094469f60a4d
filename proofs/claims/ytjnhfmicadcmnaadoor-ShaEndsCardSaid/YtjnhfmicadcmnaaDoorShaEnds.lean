/- The contract of barbicanlaw04.ShaEnds: it tells true of any length and letter. -/
import Derived.Test.YtjnhfmicadcmnaaDoorShaSums
namespace Go.Proofs.YtjnhfmicadcmnaaDoor.K
open Go Go.RowKit

/-- the bytes of the message, so many of them -/
def fillTo (f : BitVec 8) (k : Nat) : List (BitVec 8) := (List.range k).map fun i => f + BitVec.ofNat 8 i
theorem fillTo_length (f : BitVec 8) (k : Nat) : (fillTo f k).length = k := by simp [fillTo]
theorem fillTo_succ (f : BitVec 8) (k : Nat) : fillTo f (k + 1) = fillTo f k ++ [f + BitVec.ofNat 8 k] := by simp [fillTo, List.range_succ]

set_option maxHeartbeats 1000000 in
set_option maxRecDepth 100000 in
theorem ends_any (n : Int) (f : BitVec 8) (w : World) (hK : HasK w) (hF : HasF w) :
    Calls Tryd.prog 4 #[.int .i64 n, B8 f] w fun e w' => e = .returned (.bool true) ∧ Below w.heap.size w w' := by
  obtain ⟨i0, hi, hz0, hz1, hz2⟩ := info_parts infoByte
  have HK := Lib.hid hK; have HF := Lib.hid hF
  clear hK hF
  have hp0 := pick_lo n 200 (by omega)
  have hp1 := pick_hi n 200 (by omega)
  obtain ⟨m, hm⟩ : ∃ m : Nat, pick n 200 = (m : Int) := ⟨(pick n 200).toNat, by omega⟩
  have hm2 : m < 200 := by omega
  have HM := Lib.hid hm
  clear hm hp0 hp1
  go_enter Tryd.func4, Tryd.ntmps4
  go_wp2_with fail
  refine (awake4_any _ HK.out HF.out).mono ?_
  rintro e w1 ⟨rfl, hb1⟩
  go_wp2
  go_loopw [5, 6] (fun v i wr => ∃ (k c j : Nat) (A : Option Addr), k ≤ m ∧ i = .int .i64 (k : Int) ∧ v = .slice A j c ∧ j = k ∧ wr.ownsRow w1.heap.size 5 1 v j (bv (fillTo f k)) ∧ Below w.heap.size w wr ∧ w1.heap.size ≤ wr.heap.size) (fun _ i _ => m - (intOf i).toNat)
  case atStart => exact ⟨0, 0, 0, none, by omega, rfl, rfl, rfl, World.ownsRow_nil _ _ _ _, hb1, Nat.le_refl _⟩
  case round =>
    obtain ⟨k, c, j, A, hk, rfl, rfl, hj, hown, hb, hsz⟩ := hrel
    have HJ := Lib.hid hj
    have hj2 : j ≤ 200 := by omega
    have hj3 : j ≤ m := by omega
    clear hj
    have HOWN := Lib.hid hown; clear hown
    rcases Nat.lt_or_ge k m with h1 | h1
    · have i1 : (k : Int) < (m : Int) := by omega
      have hx : binOp .add 5 (B8 f) (.int .u8 (k : Int)) = pure (B8 (f + BitVec.ofNat 8 k)) := by
        rw [show (Value.int .u8 (k : Int)) = B8 (BitVec.ofNat 8 k) by rw [B8, BitVec.toNat_ofNat, Nat.mod_eq_of_lt (by omega)]]
        exact B8_add _ _ _
      go_wp2_with fail
      refine (Pick_any n 200 _ (by omega) (by omega)).mono ?_
      rintro e w2 ⟨rfl, rfl⟩
      rw [HM.out]
      go_wp2_with (at_builtin; refine wpList_append_own _ rfl _ _ 22 rfl w1.heap.size 5 i0 (.int .u8 0) 1 1 Tryd.underlying22 hi hz0 hz1 hz2 rfl (by decide) _ _ _ rfl (HOWN.out.alloc _) ⟨wr.heap.size, 0, none⟩ 1 1 [B8 (f + BitVec.ofNat 8 k)] rfl rfl (cell_last _ _ _) (by intro u hu; simp at hu; subst hu; rfl) (by unfold maxLen; omega) (by omega) (by simp; omega) ?_; intro v' w3 hown3 hgrow3 _)
      have hb3 : Below w.heap.size w w3 := (hb.alloc hb.size _).grown hgrow3 (by have := hb1.size; simp; omega) (fun k' hk' => Nat.le_trans hb1.size (HOWN.out.lt k' hk').1)
      obtain ⟨g3, c3, rfl, _, _⟩ := own_some hown3 (by omega)
      go_roundw
      case rel => exact ⟨k + 1, c3, j + 1, _, by omega, by go_num, rfl, by have := HJ.out; omega, by rw [fillTo_succ, bv_append]; exact hown3, hb3, by have := hgrow3.size; simp at this; omega⟩
      case measure => simp [intOf]; omega
    · have i1 : ¬ (k : Int) < (m : Int) := by omega
      have hk2 : k = m := by omega
      have hnone : A = none → c = 0 := fun h => by
        rcases HOWN.out.2 with ⟨h1, _⟩ | ⟨g, cap, cur, h1, _⟩
        · simp at h1; omega
        · simp [h] at h1
      have HK2 := Lib.hid hk2; clear hk2
      have hrd := Rd.of_own HOWN.out
      have hlen : (fillTo f k).length = j := by rw [fillTo_length]; exact HJ.out.symm
      have HRD := Lib.hid hrd; have HLEN := Lib.hid hlen
      clear hrd hlen HOWN
      go_wp2_with fail
      refine (Pick_any n 200 _ (by omega) (by omega)).mono ?_
      rintro e w2 ⟨rfl, rfl⟩
      rw [HM.out]
      go_wp2_with fail
      refine (Sum_any A j c (fillTo f k) _ HRD.out HLEN.out (by omega) (HK.out.below hb) (HF.out.below hb)).mono ?_
      rintro e w3 ⟨g3, c3, rfl, hown3, hb3⟩
      have hb03 : Below w.heap.size w w3 := hb.trans (hb3.mono hb.size)
      have hrd3 := HRD.out.below hb3
      have HB3 := Lib.hid hb03; have HO3 := Lib.hid hown3; have HRD3 := Lib.hid hrd3
      clear hb03 hown3 hb3 hrd3
      go_wp2_with fail
      refine (RefSum_any A j c (fillTo f k) w3 HRD3.out HLEN.out (by omega) hnone).mono ?_
      rintro e w4 ⟨g4, c4, rfl, hown4, hb4⟩
      have hb04 : Below w.heap.size w w4 := HB3.out.trans (hb4.mono HB3.out.size)
      have hr3 : Rd w4 (some ⟨g3, 0, none⟩) (M.sum (fillTo f k)) := (Rd.of_own HO3.out).below hb4
      have hr4 : Rd w4 (some ⟨g4, 0, none⟩) (M.sum (fillTo f k)) := Rd.of_own hown4
      have HB4 := Lib.hid hb04; have HR3 := Lib.hid hr3; have HR4 := Lib.hid hr4
      clear hb04 hr3 hr4 hown4 hb4 HO3
      go_wp2_with fail
      refine (SameBytes_any (some ⟨g3, 0, none⟩) (some ⟨g4, 0, none⟩) 32 32 c3 c4 (M.sum (fillTo f k)) (M.sum (fillTo f k)) _ HR3.out HR4.out (M.sum_length _) (M.sum_length _) (by omega) (by omega)).mono ?_
      rintro e w5 ⟨rfl, q, rfl⟩
      rw [decide_eq_true rfl]
      go_wp2
      go_ret
      exact ⟨rfl, below_drewN HB4.out _⟩
end Go.Proofs.YtjnhfmicadcmnaaDoor.K
