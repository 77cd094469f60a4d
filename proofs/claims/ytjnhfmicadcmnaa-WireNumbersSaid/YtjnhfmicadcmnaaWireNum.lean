/- The contracts of wire.Number and of the reference's. -/
import Derived.Test.YtjnhfmicadcmnaaWireMath
import Derived.Test.YtjnhfmicadcmnaaRowMore
import Derived.Test.YtjnhfmicadcmnaaLent
namespace Go.Proofs.Ytjnhfmicadcmnaa.K
open Go Go.RowKit

theorem made8 {w : World} {base : Nat} {e : TypeId} {v : Value} {n : Nat} (h : w.ownsRow base e 1 v n (madeCells (Value.int .u8 0).cells (n * 1)).toList) : w.ownsRow base e 1 v n (bv (List.replicate n 0#8)) := by
  have e1 : (madeCells (Value.int .u8 0).cells (n * 1)).toList = bv (List.replicate n 0#8) := by
    rw [show (Value.int IntKind.u8 0).cells = #[Value.int .u8 0] from rfl, Nat.mul_one, toList_madeCells_one]
    simp [bv, B8]
  rw [e1] at h; exact h
theorem num_at (n : Int) (j : Nat) (h : j < 8) : (M.num n)[j]? = some (M.byteOf n (7 - j)) := by simp [M.num, h]
theorem byte_val (n : Int) (k : Nat) (h : k < 8) : Value.int .u8 (n / 2 ^ (8 * k) % 256) = B8 (M.byteOf n k) := by rw [B8, M.byteOf_int n k h]

set_option maxHeartbeats 1000000 in
set_option maxRecDepth 100000 in
theorem wnum_any (n : Int) (w : World) :
    Calls Try.prog 11 #[.int .i64 n] w fun e w' => ∃ g, e = .returned (.slice (some ⟨g, 0, none⟩) 8 8) ∧ w'.ownsRow w.heap.size 5 1 (.slice (some ⟨g, 0, none⟩) 8 8) 8 (bv (M.num n)) ∧ Below w.heap.size w w' := by
  obtain ⟨i0, hi, hz0, hz1, hz2⟩ := info_parts infoByte
  go_enter Try.func11, Try.ntmps11
  go_wp2_with (at_make; refine wpList_make_full _ rfl _ _ 22 rfl w.heap.size 5 i0 (.int .u8 0) 1 Try.underlying22 hi hz0 hz1 _ _ _ _ 8 rfl rfl rfl rfl (by rw [hz2]; omega) (by unfold maxLen; omega) (Nat.le_refl _) ?_; intro w1 hown1 hgrow1)
  have hb1 := (Below.refl w.heap.size w).grown hgrow1 (Nat.le_refl _) (by simp)
  have hlt := (hown1.lt _ rfl).2
  go_loopw [4, 8] (fun _ i wr => ∃ (k : Nat) (bs : List (BitVec 8)), k ≤ 8 ∧ i = .int .i64 (k : Int) ∧ wr.ownsRow w.heap.size 5 1 (.slice (some ⟨w.heap.size, 0, none⟩) 8 8) 8 (bv bs) ∧ (∀ j, j < 8 → 7 - j < k → bs[j]? = (M.num n)[j]?) ∧ Below w.heap.size w wr) (fun _ i _ => 8 - (intOf i).toNat)
  case atStart => exact ⟨0, List.replicate 8 0#8, by omega, rfl, made8 hown1, fun j _ h => by omega, hb1⟩
  case round =>
    clear hown1 hb1 hgrow1
    obtain ⟨k, bs, hk, rfl, hown, hbs, hb⟩ := hrel
    have k0 : (0 : Int) ≤ (k : Int) := by omega
    rcases Nat.lt_or_ge k 8 with h1 | h1
    · have i1 : (k : Int) < 8 := by omega
      have hl : bs.length = 8 := by have := hown.1; rw [bv_length] at this; omega
      have hc : wr.cell? ⟨w.heap.size, 7 - k, none⟩ = some (B8 (bs.getD (7 - k) 0)) := by
        rw [hown.cellAt (7 - k) (by omega)]; simp [bv, hl, show 7 - k < 8 by omega]
      have hf := hown.frozenAt (7 - k)
      have hst := (hown.stored (7 - k) (B8 (M.byteOf n k))).1
      have hb2 := hb.setCell (p := ⟨w.heap.size, 7 - k, none⟩) (Nat.le_refl _) (B8 (M.byteOf n k))
      have HST := Lib.hid hst; have HB2 := Lib.hid hb2; have HBS := Lib.hid hbs; have HL := Lib.hid hl
      clear hst hb2 hbs hown hb hl
      go_wp2_with (with_reducible refine wpList_store_one rfl 5 (.tmp 19) (.tmp 18) rfl ⟨w.heap.size, 7 - k, none⟩ (.int .u8 (n / 2 ^ (8 * k) % 256)) _ rfl rfl rfl (by kernel_rfl) hc hf ?_)
      rw [byte_val n k h1]
      go_roundw
      case rel =>
        refine ⟨k + 1, bs.set (7 - k) (M.byteOf n k), by omega, by go_num, ?_, fun j hj hjk => ?_, HB2.out⟩
        · have e2 : bv (bs.set (7 - k) (M.byteOf n k)) = (bv bs).set (7 - k) (B8 (M.byteOf n k)) := by simp [bv]
          rw [e2]; exact HST.out
        · by_cases e : j = 7 - k
          · subst e
            rw [List.getElem?_set_self (by have := HL.out; omega), num_at _ _ hj]
            congr 2; omega
          · rw [List.getElem?_set_ne (Ne.symm e)]; exact HBS.out j hj (by omega)
      case measure => simp [intOf]; omega
    · have i1 : ¬ (k : Int) < 8 := by omega
      have he : bs = M.num n := by
        have hl : bs.length = 8 := by have := hown.1; rw [bv_length] at this; omega
        apply List.ext_getElem?
        intro j
        by_cases hj : j < 8
        · exact hbs j hj (by omega)
        · rw [List.getElem?_eq_none (by omega), List.getElem?_eq_none (by rw [M.num_length]; omega)]
      rw [he] at hown
      have HO := Lib.hid hown
      clear hown hbs he
      go_wp2
      go_ret
      exact ⟨w.heap.size, rfl, HO.out, hb⟩

theorem num_grow (n : Int) (k : Nat) (h : k < 8) : bv ((M.num n).take k) ++ [B8 (M.byteOf n (7 - k))] = bv ((M.num n).take (k + 1)) := by
  rw [List.take_add_one, num_at n k h, bv_append]; rfl
theorem conv_int_W64 {P : Program} (w : World) (src dst : TypeId) (n : Int) (hs : P.underlying src = some (.int .i64)) (hd : P.underlying dst = some (.int .u64)) : (convert src dst (.int .i64 n)).run P w = .ok (W64 (BitVec.ofInt 64 n)) w := by
  have h : IntKind.u64.wrap n = ((BitVec.ofInt 64 n).toNat : Int) := by
    rw [wrap_u64', BitVec.toNat_ofInt]; omega
  simp [convert, run_underlying hs, run_underlying hd, Conv.intToInt, W64, h]

set_option maxHeartbeats 1000000 in
set_option maxRecDepth 100000 in
theorem rnum_any (n : Int) (w : World) :
    Calls Try.prog 14 #[.int .i64 n] w fun e w' => ∃ g c, e = .returned (.slice (some ⟨g, 0, none⟩) 8 c) ∧ w'.ownsRow w.heap.size 5 1 (.slice (some ⟨g, 0, none⟩) 8 c) 8 (bv (M.num n)) ∧ Below w.heap.size w w' := by
  obtain ⟨i0, hi, hz0, hz1, hz2⟩ := info_parts infoByte
  have hcv := fun w => conv_int_W64 (P := Try.prog) w 3 59 n Try.underlying3 Try.underlying59
  go_enter Try.func14, Try.ntmps14
  go_wp2
  go_loopw [3, 4] (fun v i wr => ∃ (k m c : Nat) (A : Option Addr), k ≤ 8 ∧ i = .int .i64 (7 - (k : Int)) ∧ v = .slice A m c ∧ m = k ∧ wr.ownsRow w.heap.size 5 1 v m (bv ((M.num n).take k)) ∧ Below w.heap.size w wr) (fun _ i _ => (intOf i + 1).toNat)
  case atStart => exact ⟨0, 0, 0, none, by omega, rfl, rfl, rfl, World.ownsRow_nil _ _ _ _, Below.refl _ _⟩
  case round =>
    obtain ⟨k, m, c, A, hk, rfl, rfl, hm, hown, hb⟩ := hrel
    have HM := Lib.hid hm; have HO := Lib.hid hown
    have hm8 : m ≤ 8 := by omega
    clear hm hown
    rcases Nat.lt_or_ge k 8 with h1 | h1
    · obtain ⟨q, hq⟩ : ∃ q, q = 7 - k := ⟨_, rfl⟩
      have ek : (7 - (k : Int)) = (q : Int) := by omega
      have q7 : q ≤ 7 := by omega
      have q0 : (0 : Int) ≤ (q : Int) := by omega
      have q8 : (0 : Int) ≤ 8 * (q : Int) := by omega
      have t8 : (8 * (q : Int)).toNat = 8 * q := by omega
      rw [ek]
      have HQ := Lib.hid hq; have EK := Lib.hid ek
      clear hq ek
      have hsz := hb.size
      go_wp2_with (at_builtin; refine wpList_append_own _ rfl _ _ 22 rfl w.heap.size 5 i0 (.int .u8 0) 1 1 Try.underlying22 hi hz0 hz1 hz2 rfl (by decide) _ _ _ rfl (HO.out.alloc _) ⟨wr.heap.size, 0, none⟩ 1 1 [B8 ((BitVec.ofInt 64 n >>> (8 * q)).setWidth 8)] rfl rfl (cell_last _ _ _) (by intro x hx; simp at hx; subst hx; rfl) (by unfold maxLen; omega) (by omega) (by simp; omega) ?_; intro v3 w3 hown3 hgrow3 _)
      have hb3 : Below w.heap.size w w3 := (hb.alloc hb.size _).grown hgrow3 (by simp; omega) (fun k' hk' => (HO.out.lt k' hk').1)
      obtain ⟨g3, c3, rfl, _, _⟩ := hown3.form (Nat.succ_pos _)
      have HO3 := Lib.hid hown3
      clear hgrow3 hown3
      go_roundw
      case rel =>
        refine ⟨k + 1, m + 1, c3, some ⟨g3, 0, none⟩, by omega, by have := EK.out; go_num, rfl, by have := HM.out; omega, ?_, hb3⟩
        have o := HO3.out
        rw [show (BitVec.ofInt 64 n >>> (8 * q)).setWidth 8 = M.byteOf n (7 - k) by rw [← HQ.out]; rfl, num_grow n k h1] at o
        exact o
      case measure => simp [intOf]
    · have i1 : ¬ (0 : Int) ≤ 7 - (k : Int) := by omega
      have i2 : ¬ (k : Int) ≤ 7 := by omega
      have hk8 : k = 8 := by omega
      have hm8' : m = 8 := by have := HM.out; omega
      have o := HO.out
      rw [hk8, hm8'] at o
      obtain ⟨g, c', e, hg1, hg2⟩ := o.form (by omega)
      simp only [Value.slice.injEq, true_and] at e
      obtain ⟨rfl, rfl⟩ := e
      have O2 := Lib.hid o; have HM8 := Lib.hid hm8'
      clear o hk8 hm8' HO
      go_wp2
      go_ret
      exact ⟨g, c, by rw [← HM8.out]; rfl, O2.out, hb⟩
end Go.Proofs.Ytjnhfmicadcmnaa.K
