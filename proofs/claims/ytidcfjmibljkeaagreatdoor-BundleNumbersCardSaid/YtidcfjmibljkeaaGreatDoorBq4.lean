/- Merged: BunCheck, WireNum, WireJoin, WireBytes, FromB, ShaWords, ShaTake, ShaMsg, ShaSum, MacOf, MacDigest. -/
import Derived.Test.YtidcfjmibljkeaaGreatDoorBq3
import Derived.WalkLawsBesides
import Derived.Deep.RegionHeld3
import Derived.Deep.DeepCutAuto
/- The contracts of bundle's throw and check. -/
namespace Go.Proofs.YtidcfjmibljkeaaGreatDoor.K
open Go Go.RowKit

def errP (n : Int) : List PanicEntry := [{ v := .iface 27 (.int .i64 n), recovered := false }]
theorem throw_no (n : Int) (w : World) : Calls Tryz.prog 56 #[.bool false, .int .i64 n] w fun e w' => e = .returned (.tuple #[]) ∧ w = w' := by
  go_enter Tryz.func56, Tryz.ntmps56
  go_wp2
  go_end0
  exact ⟨rfl, rfl⟩
theorem throw_yes (n : Int) (w : World) : Calls Tryz.prog 56 #[.bool true, .int .i64 n] w fun e w' => e = .panicked (errP n) ∧ w = w' := by
  go_enter Tryz.func56, Tryz.ntmps56
  go_wp2
  exact ⟨rfl, rfl, rfl⟩
/-- what check does -/
def CheckPost (w : World) (n : Nat) (e : Ending) (w' : World) : Prop := e = (if n = 0 then .returned (.tuple #[]) else .panicked (errP n)) ∧ Since w w'
set_option maxHeartbeats 2000000 in
set_option maxRecDepth 100000 in
theorem check_any (b : M.Bun) (A B C : Option Addr) (n c m d k l : Nat) (w : World) (hn : b.code.length = n) (hm : b.dig.length = m) (hk : b.tag.length = k) :
    Calls Tryz.prog 34 #[.agg #[.int .i64 b.ver, .slice A n c, .slice B m d, .slice C k l]] w (CheckPost w (M.bwrong b)) := by
  obtain ⟨v, code, dig, tag⟩ := b
  dsimp only at hn hm hk ⊢
  have S := Lib.hid (Since.alloc (Below.refl w.heap.size w) (.cells #[.int .i64 v, .slice A n c, .slice B m d, .slice C k l] 52))
  by_cases h1 : v < 1
  · have hw : M.bwrong ⟨v, code, dig, tag⟩ = 2 := by unfold M.bwrong; rw [if_pos (.inl h1)]
    rw [hw]
    clear hw hn hm hk
    go_enter Tryz.func34, Tryz.ntmps34
    go_wp2_with fail
    refine (throw_yes 2 _).mono ?_
    rintro e w1 ⟨rfl, rfl⟩
    go_wp2
    exact ⟨rfl, show CheckPost _ _ _ _ from ⟨rfl, S.out⟩⟩
  · by_cases h2 : 1073741824 < v
    · have hw : M.bwrong ⟨v, code, dig, tag⟩ = 2 := by unfold M.bwrong; rw [if_pos (.inr h2)]
      rw [hw]
      clear hw hn hm hk
      go_enter Tryz.func34, Tryz.ntmps34
      go_wp2_with fail
      refine (throw_yes 2 _).mono ?_
      rintro e w1 ⟨rfl, rfl⟩
      go_wp2
      exact ⟨rfl, show CheckPost _ _ _ _ from ⟨rfl, S.out⟩⟩
    · by_cases h3 : 32768 < n
      · have hw : M.bwrong ⟨v, code, dig, tag⟩ = 3 := by unfold M.bwrong; rw [if_neg (by show ¬ (v < 1 ∨ 1073741824 < v); omega), if_pos (by show 32768 < code.length; omega)]
        rw [hw]
        have i3 : (32768 : Int) < (n : Int) := by omega
        clear hw hn hm hk
        go_enter Tryz.func34, Tryz.ntmps34
        go_wp2_with fail
        refine (throw_no 2 _).mono ?_
        rintro e w1 ⟨rfl, rfl⟩
        go_wp2_with fail
        refine (throw_yes 3 _).mono ?_
        rintro e w1 ⟨rfl, rfl⟩
        go_wp2
        exact ⟨rfl, show CheckPost _ _ _ _ from ⟨rfl, S.out⟩⟩
      · have i3 : ¬ (32768 : Int) < (n : Int) := by omega
        have i3' : decide ((32768 : Int) < (n : Int)) = false := by simpa using i3
        by_cases h4 : m = 32 ∧ k = 32
        · obtain ⟨rfl, rfl⟩ := h4
          have hw : M.bwrong ⟨v, code, dig, tag⟩ = 0 := (M.bwrong_zero _).2 ⟨by show 1 ≤ v; omega, by show v ≤ _; omega, by show code.length ≤ _; omega, hm, hk⟩
          rw [hw]
          clear hw hn hm hk
          go_enter Tryz.func34, Tryz.ntmps34
          go_wp2_with fail
          refine (throw_no 2 _).mono ?_
          rintro e w1 ⟨rfl, rfl⟩
          go_wp2_with fail
          refine (throw_no 3 _).mono ?_
          rintro e w1 ⟨rfl, rfl⟩
          go_wp2_with fail
          refine (throw_no 4 _).mono ?_
          rintro e w1 ⟨rfl, rfl⟩
          go_wp2
          go_end0
          exact ⟨rfl, S.out⟩
        · have hw : M.bwrong ⟨v, code, dig, tag⟩ = 4 := by unfold M.bwrong; rw [if_neg (by show ¬ (v < 1 ∨ 1073741824 < v); omega), if_neg (by show ¬ 32768 < code.length; omega), if_pos (by show dig.length ≠ 32 ∨ tag.length ≠ 32; omega)]
          rw [hw]
          have HH := Lib.hid h4
          clear hw hn hm hk h4
          by_cases h5 : m = 32
          · subst h5
            have h6 : ((k : Int) != 32) = true := by have := HH.out; simp at this ⊢; omega
            go_enter Tryz.func34, Tryz.ntmps34
            go_wp2_with fail
            refine (throw_no 2 _).mono ?_
            rintro e w1 ⟨rfl, rfl⟩
            go_wp2_with fail
            refine (throw_no 3 _).mono ?_
            rintro e w1 ⟨rfl, rfl⟩
            go_wp2_with fail
            refine (throw_yes 4 _).mono ?_
            rintro e w1 ⟨rfl, rfl⟩
            go_wp2
            exact ⟨rfl, show CheckPost _ _ _ _ from ⟨rfl, S.out⟩⟩
          · have h6 : ((m : Int) != 32) = true := by simp; omega
            clear h5
            go_enter Tryz.func34, Tryz.ntmps34
            go_wp2_with fail
            refine (throw_no 2 _).mono ?_
            rintro e w1 ⟨rfl, rfl⟩
            go_wp2_with fail
            refine (throw_no 3 _).mono ?_
            rintro e w1 ⟨rfl, rfl⟩
            go_wp2_with fail
            refine (throw_yes 4 _).mono ?_
            rintro e w1 ⟨rfl, rfl⟩
            go_wp2
            exact ⟨rfl, show CheckPost _ _ _ _ from ⟨rfl, S.out⟩⟩
end Go.Proofs.YtidcfjmibljkeaaGreatDoor.K

/- The contracts of wire.Number and of the reference's. -/
namespace Go.Proofs.YtidcfjmibljkeaaGreatDoor.K
open Go Go.RowKit

theorem made8 {w : World} {base : Nat} {e : TypeId} {v : Value} {n : Nat} (h : w.ownsRow base e 1 v n (madeCells (Value.int .u8 0).cells (n * 1)).toList) : w.ownsRow base e 1 v n (bv (List.replicate n 0#8)) := by
  have e1 : (madeCells (Value.int .u8 0).cells (n * 1)).toList = bv (List.replicate n 0#8) := by
    rw [show (Value.int IntKind.u8 0).cells = #[Value.int .u8 0] from rfl, Nat.mul_one, toList_madeCells_one]
    simp [bv, B8]
  rw [e1] at h; exact h
theorem num_at (n : Int) (j : Nat) (h : j < 8) : (M.num n)[j]? = some (M.byteOf n (7 - j)) := by simp [M.num, h]
theorem byte_val (n : Int) (k : Nat) (h : k < 8) : Value.int .u8 (n / 2 ^ (8 * k) % 256) = B8 (M.byteOf n k) := by rw [B8, M.byteOf_int n k h]

set_option maxHeartbeats 1000000 in
set_option maxRecDepth 100000 in
theorem wnum_any (n : Int) (w : World) :
    Calls Tryz.prog 94 #[.int .i64 n] w fun e w' => ∃ g, e = .returned (.slice (some ⟨g, 0, none⟩) 8 8) ∧ w'.ownsRow w.heap.size 5 1 (.slice (some ⟨g, 0, none⟩) 8 8) 8 (bv (M.num n)) ∧ Below w.heap.size w w' := by
  obtain ⟨i0, hi, hz0, hz1, hz2⟩ := info_parts infoByte
  go_enter Tryz.func94, Tryz.ntmps94
  go_wp2_with (at_make; refine wpList_make_full _ rfl _ _ 22 rfl w.heap.size 5 i0 (.int .u8 0) 1 Tryz.underlying22 hi hz0 hz1 _ _ _ _ 8 rfl rfl rfl rfl (by rw [hz2]; omega) (by unfold maxLen; omega) (Nat.le_refl _) ?_; intro w1 hown1 hgrow1)
  have hb1 := (Below.refl w.heap.size w).grown hgrow1 (Nat.le_refl _) (by simp)
  have hlt := (hown1.lt _ rfl).2
  go_loopw [4, 8] (fun _ i wr => ∃ (k : Nat) (bs : List (BitVec 8)), k ≤ 8 ∧ i = .int .i64 (k : Int) ∧ wr.ownsRow w.heap.size 5 1 (.slice (some ⟨w.heap.size, 0, none⟩) 8 8) 8 (bv bs) ∧ (∀ j, j < 8 → 7 - j < k → bs[j]? = (M.num n)[j]?) ∧ Below w.heap.size w wr) (fun _ i _ => 8 - (intOf i).toNat)
  case atStart => exact ⟨0, List.replicate 8 0#8, by omega, rfl, made8 hown1, fun j _ h => by omega, hb1⟩
  case round =>
    clear hown1 hb1 hgrow1
    obtain ⟨k, bs, hk, rfl, hown, hbs, hb⟩ := hrel
    have k0 : (0 : Int) ≤ (k : Int) := by omega
    rcases Nat.lt_or_ge k 8 with h1 | h1
    · have i1 : (k : Int) < 8 := by omega
      have hl : bs.length = 8 := by have := hown.1; rw [bv_length] at this; omega
      have hc : wr.cell? ⟨w.heap.size, 7 - k, none⟩ = some (B8 (bs.getD (7 - k) 0)) := by
        rw [hown.cellAt (7 - k) (by omega)]; simp [bv, hl, show 7 - k < 8 by omega]
      have hf := hown.frozenAt (7 - k)
      have hst := (hown.stored (7 - k) (B8 (M.byteOf n k))).1
      have hb2 := hb.setCell (p := ⟨w.heap.size, 7 - k, none⟩) (Nat.le_refl _) (B8 (M.byteOf n k))
      have HST := Lib.hid hst; have HB2 := Lib.hid hb2; have HBS := Lib.hid hbs; have HL := Lib.hid hl
      clear hst hb2 hbs hown hb hl
      go_wp2_with (with_reducible refine wpList_store_one rfl 5 (.tmp 19) (.tmp 18) rfl ⟨w.heap.size, 7 - k, none⟩ (.int .u8 (n / 2 ^ (8 * k) % 256)) _ rfl rfl rfl (by kernel_rfl) hc hf ?_)
      rw [byte_val n k h1]
      go_roundw
      case rel =>
        refine ⟨k + 1, bs.set (7 - k) (M.byteOf n k), by omega, by go_num, ?_, fun j hj hjk => ?_, HB2.out⟩
        · have e2 : bv (bs.set (7 - k) (M.byteOf n k)) = (bv bs).set (7 - k) (B8 (M.byteOf n k)) := by simp [bv]
          rw [e2]; exact HST.out
        · by_cases e : j = 7 - k
          · subst e
            rw [List.getElem?_set_self (by have := HL.out; omega), num_at _ _ hj]
            congr 2; omega
          · rw [List.getElem?_set_ne (Ne.symm e)]; exact HBS.out j hj (by omega)
      case measure => simp [intOf]; omega
    · have i1 : ¬ (k : Int) < 8 := by omega
      have he : bs = M.num n := by
        have hl : bs.length = 8 := by have := hown.1; rw [bv_length] at this; omega
        apply List.ext_getElem?
        intro j
        by_cases hj : j < 8
        · exact hbs j hj (by omega)
        · rw [List.getElem?_eq_none (by omega), List.getElem?_eq_none (by rw [M.num_length]; omega)]
      rw [he] at hown
      have HO := Lib.hid hown
      clear hown hbs he
      go_wp2
      go_ret
      exact ⟨w.heap.size, rfl, HO.out, hb⟩

theorem num_grow (n : Int) (k : Nat) (h : k < 8) : bv ((M.num n).take k) ++ [B8 (M.byteOf n (7 - k))] = bv ((M.num n).take (k + 1)) := by
  rw [List.take_add_one, num_at n k h, bv_append]; rfl
theorem conv_int_W64 {P : Program} (w : World) (src dst : TypeId) (n : Int) (hs : P.underlying src = some (.int .i64)) (hd : P.underlying dst = some (.int .u64)) : (convert src dst (.int .i64 n)).run P w = .ok (W64 (BitVec.ofInt 64 n)) w := by
  have h : IntKind.u64.wrap n = ((BitVec.ofInt 64 n).toNat : Int) := by
    rw [wrap_u64', BitVec.toNat_ofInt]; omega
  simp [convert, run_underlying hs, run_underlying hd, Conv.intToInt, W64, h]

set_option maxHeartbeats 1000000 in
set_option maxRecDepth 100000 in
theorem rnum_any (n : Int) (w : World) :
    Calls Tryz.prog 27 #[.int .i64 n] w fun e w' => ∃ g c, e = .returned (.slice (some ⟨g, 0, none⟩) 8 c) ∧ w'.ownsRow w.heap.size 5 1 (.slice (some ⟨g, 0, none⟩) 8 c) 8 (bv (M.num n)) ∧ Below w.heap.size w w' := by
  obtain ⟨i0, hi, hz0, hz1, hz2⟩ := info_parts infoByte
  have hcv := fun w => conv_int_W64 (P := Tryz.prog) w 3 93 n Tryz.underlying3 Tryz.underlying93
  go_enter Tryz.func27, Tryz.ntmps27
  go_wp2
  go_loopw [3, 4] (fun v i wr => ∃ (k m c : Nat) (A : Option Addr), k ≤ 8 ∧ i = .int .i64 (7 - (k : Int)) ∧ v = .slice A m c ∧ m = k ∧ wr.ownsRow w.heap.size 5 1 v m (bv ((M.num n).take k)) ∧ Below w.heap.size w wr) (fun _ i _ => (intOf i + 1).toNat)
  case atStart => exact ⟨0, 0, 0, none, by omega, rfl, rfl, rfl, World.ownsRow_nil _ _ _ _, Below.refl _ _⟩
  case round =>
    obtain ⟨k, m, c, A, hk, rfl, rfl, hm, hown, hb⟩ := hrel
    have HM := Lib.hid hm; have HO := Lib.hid hown
    have hm8 : m ≤ 8 := by omega
    clear hm hown
    rcases Nat.lt_or_ge k 8 with h1 | h1
    · obtain ⟨q, hq⟩ : ∃ q, q = 7 - k := ⟨_, rfl⟩
      have ek : (7 - (k : Int)) = (q : Int) := by omega
      have q7 : q ≤ 7 := by omega
      have q0 : (0 : Int) ≤ (q : Int) := by omega
      have q8 : (0 : Int) ≤ 8 * (q : Int) := by omega
      have t8 : (8 * (q : Int)).toNat = 8 * q := by omega
      rw [ek]
      have HQ := Lib.hid hq; have EK := Lib.hid ek
      clear hq ek
      have hsz := hb.size
      go_wp2_with (at_builtin; refine wpList_append_own _ rfl _ _ 22 rfl w.heap.size 5 i0 (.int .u8 0) 1 1 Tryz.underlying22 hi hz0 hz1 hz2 rfl (by decide) _ _ _ rfl (HO.out.alloc _) ⟨wr.heap.size, 0, none⟩ 1 1 [B8 ((BitVec.ofInt 64 n >>> (8 * q)).setWidth 8)] rfl rfl (cell_last _ _ _) (by intro x hx; simp at hx; subst hx; rfl) (by unfold maxLen; omega) (by omega) (by simp; omega) ?_; intro v3 w3 hown3 hgrow3 _)
      have hb3 : Below w.heap.size w w3 := (hb.alloc hb.size _).grown hgrow3 (by simp; omega) (fun k' hk' => (HO.out.lt k' hk').1)
      obtain ⟨g3, c3, rfl, _, _⟩ := hown3.form (Nat.succ_pos _)
      have HO3 := Lib.hid hown3
      clear hgrow3 hown3
      go_roundw
      case rel =>
        refine ⟨k + 1, m + 1, c3, some ⟨g3, 0, none⟩, by omega, by have := EK.out; go_num, rfl, by have := HM.out; omega, ?_, hb3⟩
        have o := HO3.out
        rw [show (BitVec.ofInt 64 n >>> (8 * q)).setWidth 8 = M.byteOf n (7 - k) by rw [← HQ.out]; rfl, num_grow n k h1] at o
        exact o
      case measure => simp [intOf]
    · have i1 : ¬ (0 : Int) ≤ 7 - (k : Int) := by omega
      have i2 : ¬ (k : Int) ≤ 7 := by omega
      have hk8 : k = 8 := by omega
      have hm8' : m = 8 := by have := HM.out; omega
      have o := HO.out
      rw [hk8, hm8'] at o
      obtain ⟨g, c', e, hg1, hg2⟩ := o.form (by omega)
      simp only [Value.slice.injEq, true_and] at e
      obtain ⟨rfl, rfl⟩ := e
      have O2 := Lib.hid o; have HM8 := Lib.hid hm8'
      clear o hk8 hm8' HO
      go_wp2
      go_ret
      exact ⟨g, c, by rw [← HM8.out]; rfl, O2.out, hb⟩
end Go.Proofs.YtidcfjmibljkeaaGreatDoor.K

/- The contracts of wire.Join and wire.Bytes, and of the reference's Bytes. -/
namespace Go.Proofs.YtidcfjmibljkeaaGreatDoor.K
open Go Go.RowKit

set_option maxHeartbeats 1000000 in
set_option maxRecDepth 100000 in
theorem join_any (S : Option Addr) (m cS : Nat) (r : Nat → Rw) (f : Nat → List (BitVec 8)) (w : World) (hp : Parts w S m r f) (hm : m ≤ 1000000) (hN : (joined f m).length ≤ 100000000000000) :
    Calls Tryz.prog 44 #[.slice S m cS] w fun e w' => ∃ A N c, e = .returned (.slice A N c) ∧ N = (joined f m).length ∧ w'.ownsRow w.heap.size 5 1 (.slice A N c) N (bv (joined f m)) ∧ Below w.heap.size w w' := by
  obtain ⟨i0, hi, hz0, hz1, hz2⟩ := info_parts infoByte
  have HP := Lib.hid hp; have HN := Lib.hid hN
  clear hp hN
  go_enter Tryz.func44, Tryz.ntmps44
  go_wp2
  go_loopw [3, 5, 8] (fun v _ i wr => ∃ (k N c : Nat) (A : Option Addr), k ≤ m ∧ i = .int .i64 (k : Int) ∧ v = .slice A N c ∧ N = (joined f k).length ∧ wr.ownsRow w.heap.size 5 1 v N (bv (joined f k)) ∧ Below w.heap.size w wr) (fun _ _ i _ => m - (intOf i).toNat)
  case atStart => exact ⟨0, 0, 0, none, by omega, rfl, rfl, rfl, World.ownsRow_nil _ _ _ _, Below.refl _ _⟩
  case round =>
    obtain ⟨k, N, c, A, hk, rfl, rfl, hNk, hown, hb⟩ := hrel
    have k0 : (0 : Int) ≤ (k : Int) := by omega
    have HO := Lib.hid hown; have HNK := Lib.hid hNk
    have hNb : N ≤ 100000000000000 := by have := joined_le f hk; have := HN.out; omega
    clear hown hNk
    rcases Nat.lt_or_ge k m with h1 | h1
    · have i1 : (k : Int) < (m : Int) := by omega
      obtain ⟨⟨b, o, rfl, hc⟩, hrd, hln, hnn⟩ := (HP.out.below hb) k h1
      obtain ⟨A2, n2, c2, hr⟩ : ∃ A n c, r k = ⟨A, n, c⟩ := ⟨_, _, _, rfl⟩
      rw [hr] at hc hrd hln hnn
      have hc' : wr.cell? ⟨b, o + k, none⟩ = some (.slice A2 n2 c2) := hc
      have hl2 : (bv (f k)).length = n2 * 1 := by rw [bv_length, hln]; show n2 = _; omega
      have hcs := hrd.cells
      have hnn2 : A2 = none → n2 = 0 ∧ c2 = 0 := fun h => ⟨by
        have h' : (⟨A2, n2, c2⟩ : Rw).A = none := h
        rw [h'] at hrd
        rw [hrd.empty] at hln; exact hln.symm, hnn h⟩
      have hNt : N + n2 ≤ 100000000000000 := by
        have := joined_le f (show k + 1 ≤ m by omega)
        rw [joined, List.length_append, hln] at this
        have h' : (⟨A2, n2, c2⟩ : Rw).n = n2 := rfl
        have := HNK.out; have := HN.out; omega
      have HL2 := Lib.hid hl2; have HCS := Lib.hid hcs; have HNN := Lib.hid hnn2; have HLN := Lib.hid hln
      clear hc hrd hln hnn hr hl2 hcs hnn2
      go_wp2_with (at_builtin; refine wpList_append_any _ rfl _ _ 22 rfl w.heap.size 5 i0 (.int .u8 0) 1 1 Tryz.underlying22 hi hz0 hz1 hz2 rfl (by decide) _ N (bv (joined f k)) rfl HO.out A2 n2 c2 (bv (f k)) rfl HNN.out HL2.out HCS.out (bv_one _) (by unfold maxLen; omega) (by omega) hb.size ?_; intro v3 w3 hown3 hgrow3; rw [← bv_append] at hown3; obtain ⟨B3, d3, rfl⟩ := row_slice hown3; have hb3 : Below w.heap.size w w3 := hb.grown hgrow3 hb.size (fun k hk => (HO.out.lt k hk).1); have HB3 := Lib.hid hb3; have HO3 := Lib.hid hown3; clear hb3 hown3 hgrow3)
      go_roundw
      case rel =>
        refine ⟨k + 1, N + n2, d3, B3, by omega, by go_num, rfl, ?_, HO3.out, HB3.out⟩
        rw [joined, List.length_append, ← HNK.out, HLN.out]
      case measure => simp [intOf]; omega
    · have i1 : ¬ (k : Int) < (m : Int) := by omega
      have hkm : k = m := by omega
      have o := HO.out
      have hn := HNK.out
      rw [hkm] at o hn
      have HO2 := Lib.hid o; have HN2 := Lib.hid hn
      clear hkm o hn
      go_wp2
      go_ret
      exact ⟨A, N, c, rfl, HN2.out, HO2.out, hb⟩
end Go.Proofs.YtidcfjmibljkeaaGreatDoor.K

/- The contracts of wire.Bytes and of the reference's Bytes. -/
namespace Go.Proofs.YtidcfjmibljkeaaGreatDoor.K
open Go Go.RowKit

abbrev twoRows (x y : Rw) (bx by' : List (BitVec 8)) : List (Rw × List (BitVec 8)) := [(x, bx), (y, by')]
set_option maxHeartbeats 1000000 in
set_option maxRecDepth 100000 in
theorem wbytes_any (A : Option Addr) (n c : Nat) (bs : List (BitVec 8)) (w : World) (hr : RowRd w ⟨A, n, c⟩ bs) (hn2 : n ≤ 10000000000000) :
    Calls Tryz.prog 46 #[.slice A n c] w fun e w' => ∃ g N c', e = .returned (.slice (some ⟨g, 0, none⟩) N c') ∧ N = 8 + n ∧ w'.ownsRow w.heap.size 5 1 (.slice (some ⟨g, 0, none⟩) N c') N (bv (M.blob bs)) ∧ Below w.heap.size w w' := by
  have HR := Lib.hid hr
  have hlen : bs.length = n := hr.len
  have HLEN := Lib.hid hlen
  clear hr hlen
  go_enter Tryz.func46, Tryz.ntmps46
  go_wp2_with fail
  refine (wnum_any (n : Int) w).mono ?_
  rintro e w1 ⟨g, rfl, ho1, hb1⟩
  have HO1 := Lib.hid ho1; have HB1 := Lib.hid hb1
  clear ho1 hb1
  go_wp2_with fail
  have hl : M.blob bs = (List.map (·.2) (twoRows ⟨some ⟨g, 0, none⟩, 8, 8⟩ ⟨A, n, c⟩ (M.num (n : Int)) bs)).flatten := by
    simp [M.blob, HLEN.out]
  refine (join_any (some ⟨w1.heap.size, 0, none⟩) 2 2 (rowsOf (twoRows ⟨some ⟨g, 0, none⟩, 8, 8⟩ ⟨A, n, c⟩ (M.num (n : Int)) bs)) (bytesAt (twoRows ⟨some ⟨g, 0, none⟩, 8, 8⟩ ⟨A, n, c⟩ (M.num (n : Int)) bs)) _ (parts_of (twoRows ⟨some ⟨g, 0, none⟩, 8, 8⟩ ⟨A, n, c⟩ (M.num (n : Int)) bs) rfl ?_) (by omega) ?_).mono ?_
  · intro p hp
    simp only [List.mem_cons, List.mem_nil_iff, or_false] at hp
    rcases hp with rfl | rfl
    · exact RowRd.of_row HO1.out
    · exact HR.out.below HB1.out
  · rw [show (2 : Nat) = (twoRows ⟨some ⟨g, 0, none⟩, 8, 8⟩ ⟨A, n, c⟩ (M.num (n : Int)) bs).length from rfl, joined_all, ← hl, M.blob_length, HLEN.out]; omega
  · rintro e w2 ⟨A2, N, c2, rfl, hN, ho2, hb2⟩
    rw [show (2 : Nat) = (twoRows ⟨some ⟨g, 0, none⟩, 8, 8⟩ ⟨A, n, c⟩ (M.num (n : Int)) bs).length from rfl, joined_all, ← hl] at hN ho2
    rw [M.blob_length, HLEN.out] at hN
    obtain ⟨g2, c3, e, _, _⟩ := ho2.form (by omega)
    simp only [Value.slice.injEq, true_and] at e
    obtain ⟨rfl, rfl⟩ := e
    have ho3 := row_weaken ho2 (base' := w.heap.size) (by have := HB1.out.size; simp; omega)
    have hb3 := (HB1.out.alloc HB1.out.size (.cells #[.slice (some ⟨g, 0, none⟩) 8 8, .slice A n c] 22)).trans (hb2.mono (by have := HB1.out.size; simp; omega))
    have HN := Lib.hid hN; have HO3 := Lib.hid ho3; have HB3 := Lib.hid hb3
    clear hl hN ho2 ho3 hb2 hb3
    go_wp2
    go_ret
    exact ⟨g2, N, c2, rfl, HN.out, HO3.out, HB3.out⟩

set_option maxHeartbeats 1000000 in
set_option maxRecDepth 100000 in
theorem rbytes_any (A : Option Addr) (n c : Nat) (bs : List (BitVec 8)) (w : World) (hr : RowRd w ⟨A, n, c⟩ bs) (hn2 : n ≤ 10000000000000) :
    Calls Tryz.prog 28 #[.slice A n c] w fun e w' => ∃ g N c', e = .returned (.slice (some ⟨g, 0, none⟩) N c') ∧ N = 8 + n ∧ w'.ownsRow w.heap.size 5 1 (.slice (some ⟨g, 0, none⟩) N c') N (bv (M.blob bs)) ∧ Below w.heap.size w w' := by
  obtain ⟨i0, hi, hz0, hz1, hz2⟩ := info_parts infoByte
  have hlen : bs.length = n := hr.len
  have hl2 : (bv bs).length = n * 1 := by rw [bv_length]; omega
  have hnn : A = none → n = 0 ∧ c = 0 := fun h => ⟨by
    have hrd : Rd w A bs := hr.rd
    rw [h] at hrd
    rw [hrd.empty] at hlen; exact hlen.symm, hr.none h⟩
  have HR := Lib.hid hr; have HLEN := Lib.hid hlen; have HL2 := Lib.hid hl2; have HNN := Lib.hid hnn
  clear hr hlen hl2 hnn
  go_enter Tryz.func28, Tryz.ntmps28
  go_wp2_with fail
  refine (rnum_any (n : Int) w).mono ?_
  rintro e w1 ⟨g, c1, rfl, ho1, hb1⟩
  have hcs := (HR.out.below hb1).rd.cells
  have hs1 := hb1.size
  have HO1 := Lib.hid ho1; have HB1 := Lib.hid hb1; have HCS := Lib.hid hcs
  clear ho1 hb1 hcs
  go_wp2_with (at_builtin; refine wpList_append_any _ rfl _ _ 22 rfl w.heap.size 5 i0 (.int .u8 0) 1 1 Tryz.underlying22 hi hz0 hz1 hz2 rfl (by decide) _ 8 (bv (M.num (n : Int))) rfl HO1.out A n c (bv bs) rfl HNN.out HL2.out HCS.out (bv_one _) (by unfold maxLen; omega) (by omega) hs1 ?_; intro v3 w3 hown3 hgrow3; rw [← bv_append] at hown3; obtain ⟨g3, d3, rfl, _, _⟩ := hown3.form (by omega); have hb3 : Below w.heap.size w w3 := HB1.out.grown hgrow3 hs1 (fun k hk => (HO1.out.lt k hk).1); have HB3 := Lib.hid hb3; have HO3 := Lib.hid hown3; clear hb3 hown3 hgrow3)
  go_ret
  exact ⟨g3, 8 + n, d3, rfl, rfl, by rw [M.blob, HLEN.out]; exact HO3.out, HB3.out⟩
end Go.Proofs.YtidcfjmibljkeaaGreatDoor.K

/- Numbers and bytes written, told from an elder world. -/
namespace Go.Proofs.YtidcfjmibljkeaaGreatDoor.K
open Go Go.RowKit

theorem num_made (n : Int) (w : World) : Calls Tryz.prog 94 #[.int .i64 n] w (Made w (M.num n)) :=
  (wnum_any n w).mono fun e w' ⟨g, he, ho, hb⟩ => ⟨g, 8, 8, he, rfl, ho, hb⟩
theorem rnum_made (n : Int) (w : World) : Calls Tryz.prog 27 #[.int .i64 n] w (Made w (M.num n)) :=
  (rnum_any n w).mono fun e w' ⟨g, c, he, ho, hb⟩ => ⟨g, 8, c, he, rfl, ho, hb⟩
theorem bytes_made {w0 : World} {A : Option Addr} {n c : Nat} {bs : List (BitVec 8)} (hr : RowRd w0 ⟨A, n, c⟩ bs) (hn : n ≤ 1000000000000) {w : World} (h : Since w0 w) : Calls Tryz.prog 46 #[.slice A n c] w (Made w (M.blob bs)) :=
  (wbytes_any A n c bs w (h.row hr) (by omega)).mono fun e w' ⟨g, N, c', he, hN, ho, hb⟩ => ⟨g, N, c', he, by rw [M.blob_length, hr.len]; exact hN, ho, hb⟩
theorem rbytes_made {w0 : World} {A : Option Addr} {n c : Nat} {bs : List (BitVec 8)} (hr : RowRd w0 ⟨A, n, c⟩ bs) (hn : n ≤ 1000000000000) {w : World} (h : Since w0 w) : Calls Tryz.prog 28 #[.slice A n c] w (Made w (M.blob bs)) :=
  (rbytes_any A n c bs w (h.row hr) (by omega)).mono fun e w' ⟨g, N, c', he, hN, ho, hb⟩ => ⟨g, N, c', he, by rw [M.blob_length, hr.len]; exact hN, ho, hb⟩
end Go.Proofs.YtidcfjmibljkeaaGreatDoor.K

/- The contract of sha.words: a block's 64 words. -/
namespace Go.Proofs.YtidcfjmibljkeaaGreatDoor.K
open Go Go.RowKit

theorem turn_still (x : BitVec 32) (n : Int) (w : World) (h0 : 0 < n) (h1 : n < 32) :
    Calls Tryz.prog 138 #[W32 x, .int .i64 n] w fun e w' => e = .returned (W32 (M.rot x n.toNat)) ∧ w' = w :=
  (turn_any x n w h0 h1).mono fun _ _ ⟨h, h'⟩ => ⟨h, h'.symm⟩

/-- 64 cells: the words so far, noughts behind -/
def arr64 (l : List (BitVec 32)) : List Value := l.map W32 ++ List.replicate (64 - l.length) (W32 0)
theorem arr64_length (l : List (BitVec 32)) (h : l.length ≤ 64) : (arr64 l).length = 64 := by simp [arr64]; omega
theorem arr64_at (l : List (BitVec 32)) (i : Nat) (h : i < l.length) : (arr64 l)[i]? = some (W32 (M.at32 l i)) := by
  rw [arr64, List.getElem?_append_left (by simpa using h)]
  simp [M.at32, h]
theorem arr64_zero (l : List (BitVec 32)) (i : Nat) (h : l.length ≤ i) (hi : i < 64) : (arr64 l)[i]? = some (W32 0) := by
  rw [arr64, List.getElem?_append_right (by simpa using h), List.getElem?_replicate, if_pos (by simp; omega)]
theorem arr64_set (l : List (BitVec 32)) (x : BitVec 32) (h : l.length < 64) : (arr64 l).set l.length (W32 x) = arr64 (l ++ [x]) := by
  rw [arr64, arr64, List.set_append_right _ _ (by simp), List.length_map, Nat.sub_self, List.map_append, List.append_assoc, List.length_append]
  rw [show 64 - l.length = (64 - (l.length + 1)) + 1 by omega, List.replicate_succ]
  simp

theorem arr64_one (l : List (BitVec 32)) : (arr64 l).toArray.all (·.oneCell') = true := by
  rw [Array.all_eq_true_iff_forall_mem]
  intro v hv
  rcases List.mem_append.1 (by simpa using hv : v ∈ arr64 l) with h | h
  · obtain ⟨_, _, rfl⟩ := List.mem_map.1 h; rfl
  · rw [List.eq_of_mem_replicate h]; rfl

set_option maxHeartbeats 1000000 in
set_option maxRecDepth 100000 in
theorem words_any (A : Option Addr) (n c : Nat) (bs : List (BitVec 8)) (w : World) (hr : Rd w A bs) (hn : bs.length = 64) (hc : 64 ≤ c) (hnc : n = 64) (hc2 : c ≤ 4611686018427387904) :
    Calls Tryz.prog 137 #[.slice A n c] w fun e w' => e = .returned (.agg ((M.sched bs 64).map W32).toArray) ∧ Below w.heap.size w w' := by
  subst hnc
  obtain ⟨b, o, rfl, hbl, hb0⟩ := hr.lay (by omega)
  rw [hn] at hb0
  have HB := Lib.hid hb0
  have HBL := Lib.hid hbl
  clear hr hn hb0 hbl
  go_enter Tryz.func137, Tryz.ntmps137
  go_wp2
  go_loopw [7] (fun i wr => ∃ k : Nat, k ≤ 64 ∧ i = .int .i64 k ∧ wr.heap[w.heap.size]? = some (.cells (arr64 (M.sched bs k)).toArray 218 (0, 0)) ∧ Below w.heap.size w wr) (fun i _ => 64 - (intOf i).toNat)
  case atStart => exact ⟨0, Nat.zero_le _, rfl, heap_alloc_new w _, (Below.refl _ _).alloc (Nat.le_refl _) _⟩
  case round =>
    obtain ⟨k, hk, rfl, hg, hb⟩ := hrel
    have i0 : (0 : Int) ≤ (k : Int) := by omega
    rcases Nat.lt_or_ge k 16 with h1 | h1
    · have i1 : (k : Int) < 16 := by omega
      have i2 : (k : Int) < 64 := by omega
      have c0 : wr.cell? ⟨b, o + 4 * k, none⟩ = some (B8 (M.at8 bs (4 * k))) := (hb.cell HBL.out).trans (HB.out _ (by omega))
      have c1 : wr.cell? ⟨b, o + 4 * k + 1, none⟩ = some (B8 (M.at8 bs (4 * k + 1))) := (hb.cell HBL.out).trans (HB.out (4 * k + 1) (by omega))
      have c2 : wr.cell? ⟨b, o + 4 * k + 2, none⟩ = some (B8 (M.at8 bs (4 * k + 2))) := (hb.cell HBL.out).trans (HB.out (4 * k + 2) (by omega))
      have c3 : wr.cell? ⟨b, o + 4 * k + 3, none⟩ = some (B8 (M.at8 bs (4 * k + 3))) := (hb.cell HBL.out).trans (HB.out (4 * k + 3) (by omega))
      have cz : wr.cell? ⟨w.heap.size, k, none⟩ = some (W32 0) := by rw [cell_of_row wr _ k _ _ _ hg, List.getElem?_toArray, arr64_zero _ _ (by rw [M.sched_length]; exact Nat.le_refl _) (by omega)]
      have fz : wr.frozen? ⟨w.heap.size, k, none⟩ = false := frozen_of_row wr _ k _ _ hg
      have HG := Lib.hid hg; clear hg
      go_wp2
      go_still_tail 24, (by kernel_rfl)
      change wpList _ _ _ _ _ wr.drew
      refine wpList_store_one rfl _ _ _ rfl _ _ _ rfl rfl rfl (by kernel_rfl) cz fz ?_
      go_wp2
      go_roundw
      case rel =>
        refine ⟨k + 1, by omega, by go_num, ?_, (hb.setCell (p := ⟨w.heap.size, k, none⟩) (Nat.le_refl _) _).drew⟩
        have e := arr64_set (M.sched bs k) (M.wordAt bs k) (by rw [M.sched_length]; omega)
        rw [M.sched_length] at e
        rw [M.sched, if_pos h1, ← e]
        exact block_set HG.out k _
      case measure => simp [intOf]; omega
    · rcases Nat.lt_or_ge k 64 with h2 | h2
      · have i1 : (16 : Int) ≤ (k : Int) := by omega
        have i2 : (k : Int) < 64 := by omega
        have at' : ∀ d, 0 < d → d ≤ 16 → wr.cell? ⟨w.heap.size, k - d, none⟩ = some (W32 (M.at32 (M.sched bs k) (k - d))) := fun d h0 hd => block_cell hg (arr64_at _ _ (by rw [M.sched_length]; omega))
        have c2 := at' 2 (by omega) (by omega)
        have c7 := at' 7 (by omega) (by omega)
        have c15 := at' 15 (by omega) (by omega)
        have c16 := at' 16 (by omega) (by omega)
        have cz : wr.cell? ⟨w.heap.size, k, none⟩ = some (W32 0) := block_cell hg (arr64_zero _ _ (by rw [M.sched_length]; exact Nat.le_refl _) (by omega))
        have fz : wr.frozen? ⟨w.heap.size, k, none⟩ = false := frozen_of_row wr _ k _ _ hg
        have HG := Lib.hid hg; clear hg at'
        go_wp2
        go_quiet (fail)
        go_wp2
        have f16 : IntKind.i64.wrap ((k : Int) - 16) = (k : Int) - 16 := IntWalk.i64_in _ (by omega)
        have f7 : IntKind.i64.wrap ((k : Int) - 7) = (k : Int) - 7 := IntWalk.i64_in _ (by omega)
        have g16 : ((k : Int) - 16).toNat = k - 16 := by omega
        have g7 : ((k : Int) - 7).toNat = k - 7 := by omega
        have l16 : (k : Int) - 16 < 64 := by omega
        have l7 : (k : Int) - 7 < 64 := by omega
        have m7 : (7 : Int) ≤ (k : Int) := by omega
        refine wp_region_still_tail 29 (by kernel_rfl) (by kernel_rfl) ?_
        simp only [List.take_succ_cons, List.take_zero, List.drop_succ_cons, List.drop_zero]
        change wpStill _ _ (wr.drewN (nq + 1)) _ _ _
        repeat (first | still_step | (refine wpStill_step (fun K hK => ?_); go_simp; refine ⟨_, turn_still _ _ _ (by decide) (by decide), hK _ ?_⟩; clear hK K))
        clear f16 f7 g16 g7 l16 l7 m7
        refine wpStill_nil ?_
        change wpList _ _ _ _ _ (wr.drewN (nq + 1))
        refine wpList_store_one rfl _ _ _ rfl _ _ _ rfl rfl rfl (by kernel_rfl) cz fz ?_
        go_wp2
        go_roundw
        case rel =>
          refine ⟨k + 1, by omega, by go_num, ?_, ?_⟩
          · have e := arr64_set (M.sched bs k) (M.next (M.sched bs k) k) (by rw [M.sched_length]; omega)
            rw [M.sched_length] at e
            rw [M.sched, if_neg (by omega), ← e]
            exact block_set (w := wr.drewN (nq + 1)) HG.out k _
          · exact (below_drewN hb _).setCell (p := ⟨w.heap.size, k, none⟩) (Nat.le_refl _) _
        case measure => simp [intOf]; omega
      · obtain rfl : k = 64 := by omega
        have hsz : (Tryz.prog.info? 218).map (·.size) = some (arr64 (M.sched bs 64)).toArray.size := by
          rw [List.size_toArray, arr64_length _ (by rw [M.sched_length]; exact Nat.le_refl _)]; kernel_rfl
        have HG := Lib.hid hg; clear hg
        go_wp2_with (first
          | (with_reducible refine wpList_load_row rfl 218 (.tmp 2) rfl w.heap.size rfl 218 _ (0, 0) _ HG.out Tryz.underlying218 rfl hsz ?_)
          | (with_reducible refine wpList_store_row rfl 218 (.tmp 2) (.tmp 81) rfl w.heap.size _ rfl rfl 218 _ HG.out hsz rfl (arr64_one _) ?_))
        refine bodyPost_ret (v := .agg (arr64 (M.sched bs 64)).toArray) ?_ ?_ ?_
        · exact results_cell_row rfl _ _ w.heap.size 218 _ (0, 0) _ rfl (setRow_heap wr _ _ _ _ _ HG.out) Tryz.underlying218 rfl hsz
        · rfl
        · exact ⟨by rw [arr64, M.sched_length]; simp, below_setRow hb (Nat.le_refl _) _⟩
end Go.Proofs.YtidcfjmibljkeaaGreatDoor.K

/- The contract of sha's take: a block taken in. -/
namespace Go.Proofs.YtidcfjmibljkeaaGreatDoor.K
open Go Go.RowKit

/-- the state's eight cells -/
def stv (s : M.St) : List Value := [W32 s.a, W32 s.b, W32 s.c, W32 s.d, W32 s.e, W32 s.f, W32 s.g, W32 s.h]
theorem stv_one (s : M.St) : (stv s).toArray.all (·.oneCell') = true := by simp [stv, oneW32]
theorem info8' : (Tryz.prog.info? 133).map (·.size) = some 8 := by kernel_rfl
theorem info8 (s : M.St) : (Tryz.prog.info? 133).map (·.size) = some (stv s).toArray.size := info8'

/-- the first k words added -/
def sumTo (a b : List (BitVec 32)) (k : Nat) : List (BitVec 32) := List.zipWith (· + ·) (a.take k) (b.take k) ++ a.drop k
theorem sumTo_at (a b : List (BitVec 32)) (k : Nat) (h : k < a.length) (hb : b.length = a.length) : (sumTo a b k)[k]? = some (M.at32 a k) := by
  rw [sumTo, List.getElem?_append_right (by simp; omega)]
  simp [hb, M.at32, h, Nat.min_eq_left (Nat.le_of_lt h)]
theorem sumTo_set (a b : List (BitVec 32)) (k : Nat) (h : k < a.length) (hb : b.length = a.length) : (sumTo a b k).set k (M.at32 a k + M.at32 b k) = sumTo a b (k + 1) := by
  apply List.ext_getElem?
  intro j
  simp only [sumTo, M.at32, List.getElem?_set, List.getElem?_append, List.length_append, List.length_zipWith, List.length_take, List.length_drop, List.getElem?_zipWith, List.getElem?_take, List.getElem?_drop]
  rcases Nat.lt_trichotomy j k with h1 | h1 | h1
  · have e1 : min k a.length = k := by omega
    have e2 : min k b.length = k := by omega
    have e3 : min (k + 1) a.length = k + 1 := by omega
    have e4 : min (k + 1) b.length = k + 1 := by omega
    simp [e1, e2, e3, e4, h1, show k ≠ j by omega, show j < k + 1 by omega]
  · subst h1
    have e1 : min j a.length = j := by omega
    have e2 : min j b.length = j := by omega
    have e3 : min (j + 1) a.length = j + 1 := by omega
    have e4 : min (j + 1) b.length = j + 1 := by omega
    have hb' : j < b.length := by omega
    simp [e1, e2, e3, e4, h, hb']
    omega
  · have e1 : min k a.length = k := by omega
    have e2 : min k b.length = k := by omega
    have e3 : min (k + 1) a.length = k + 1 := by omega
    have e4 : min (k + 1) b.length = k + 1 := by omega
    simp [e1, e2, e3, e4, show k ≠ j by omega, show ¬ j < k by omega, show ¬ j < k + 1 by omega, show k + (j - k) = j by omega, show k + 1 + (j - (k + 1)) = j by omega]

theorem stv_add (t s : M.St) : stv (t.add s) = (sumTo t.list s.list 8).map W32 := rfl

/-- the table of the rounds' constants lies in the world -/
def HasK (w : World) : Prop := ∀ k, k < 64 → w.cell? ⟨1, k, none⟩ = some (W32 (M.at32 M.kList k))
theorem HasK.below {w w' : World} (h : HasK w) (hb : Below w.heap.size w w') : HasK w' := fun k hk => (hb.cell (block_lt_of_cell (h k hk))).trans (h k hk)

set_option maxHeartbeats 1000000 in
set_option maxRecDepth 100000 in
theorem take_any (s : M.St) (A : Option Addr) (n c : Nat) (bs : List (BitVec 8)) (w : World) (hr : Rd w A bs) (hn : bs.length = 64) (hc : 64 ≤ c) (hnc : n = 64) (hc2 : c ≤ 4611686018427387904) (hK : HasK w) :
    Calls Tryz.prog 104 #[.agg (stv s).toArray, .slice A n c] w fun e w' => e = .returned (.agg (stv (M.take s bs)).toArray) ∧ Below w.heap.size w w' := by
  have HR := Lib.hid hr
  have HN := Lib.hid hn
  have HNC := Lib.hid hnc
  have HK := Lib.hid hK
  clear hr hn hnc hK
  go_enter Tryz.func104, Tryz.ntmps104
  go_wp2_with (first
    | (with_reducible refine wpList_load_row rfl 133 (.tmp 2) rfl w.heap.size rfl 133 (stv s).toArray (0, 0) _ (heap_alloc2_old w _ _) Tryz.underlying133 rfl (info8 s) ?_)
    | (with_reducible refine wpList_store_row rfl 133 (.tmp 5) (.tmp 13) rfl (w.heap.size + 2) (stv s).toArray rfl rfl 133 _ (heap_alloc3_new w _ _ _) (info8 s) rfl (stv_one s) ?_))
  obtain ⟨W, hW⟩ : ∃ W, W = World.setRow (((w.alloc (.cells (stv s).toArray 133)).alloc (.cells #[.int .u32 0, .int .u32 0, .int .u32 0, .int .u32 0, .int .u32 0, .int .u32 0, .int .u32 0, .int .u32 0] 133)).alloc (.cells #[.int .u32 0, .int .u32 0, .int .u32 0, .int .u32 0, .int .u32 0, .int .u32 0, .int .u32 0, .int .u32 0] 133)) (w.heap.size + 2) (stv s).toArray := ⟨_, rfl⟩
  rw [← hW]
  have gS : W.heap[w.heap.size]? = some (.cells (stv s).toArray 133 (0, 0)) := by rw [hW, setRow_other _ _ _ _ (by omega)]; exact heap_alloc3_old w _ _ _
  have gR : ∃ z : M.St, W.heap[w.heap.size + 1]? = some (.cells (stv z).toArray 133 (0, 0)) := ⟨⟨0, 0, 0, 0, 0, 0, 0, 0⟩, by rw [hW, setRow_other _ _ _ _ (by omega)]; exact heap_alloc3_mid w _ _ _⟩
  have gW : W.heap[w.heap.size + 1 + 1]? = some (.cells (stv s).toArray 133 (0, 0)) := by rw [hW]; exact setRow_heap _ _ _ _ _ _ (heap_alloc3_new w _ _ _)
  have bW : Below w.heap.size w W := by
    rw [hW]
    exact below_setRow ((((Below.refl _ _).alloc (Nat.le_refl _) _).alloc (by simp) _).alloc (by simp; omega) _) (by omega) _
  have hWs : W.heap.size = w.heap.size + 3 := by rw [hW]; simp
  have hsz : w.heap.size + 3 ≤ W.heap.size := by omega
  clear hW hWs
  refine (words_any A n c bs W (HR.out.below bW) HN.out hc HNC.out hc2).mono ?_
  rintro e w1 ⟨rfl, hb1⟩
  obtain ⟨z, gR⟩ := gR
  have gS1 : w1.heap[w.heap.size]? = _ := (hb1.block _ (by omega)).trans gS
  have gR1 : w1.heap[w.heap.size + 1]? = _ := (hb1.block _ (by omega)).trans gR
  have gW1 : w1.heap[w.heap.size + 1 + 1]? = _ := (hb1.block _ (by omega)).trans gW
  have bw1 : Below w.heap.size w w1 := bW.trans (hb1.mono (by omega))
  clear gS gR gW bW hb1 hsz
  have HS := Lib.hid gS1; have HRR := Lib.hid gR1; have HW := Lib.hid gW1
  clear gS1 gR1 gW1
  have hL : (M.sched bs 64).length = 64 := M.sched_length _ _
  have HL := Lib.hid hL
  clear hL
  generalize hws : M.sched bs 64 = ws at *
  have HWS := Lib.hid hws
  clear hws
  go_wp2
  go_loopw [16] (fun i wr => ∃ k : Nat, k ≤ 64 ∧ i = .int .i64 k ∧ wr.heap[w.heap.size]? = some (.cells (stv (M.rounds s ws k)).toArray 133 (0, 0)) ∧ wr.heap[w.heap.size + 1]? = some (.cells (stv z).toArray 133 (0, 0)) ∧
      wr.heap[w.heap.size + 1 + 1]? = some (.cells (stv s).toArray 133 (0, 0)) ∧ Below w.heap.size w wr) (fun i _ => 64 - (intOf i).toNat)
  case atStart => exact ⟨0, Nat.zero_le _, rfl, HS.out, HRR.out, HW.out, bw1⟩
  case round =>
    clear HS HRR HW bw1
    obtain ⟨k, hk, rfl, gS, gR, gW, hb⟩ := hrel
    have i0 : (0 : Int) ≤ (k : Int) := by omega
    rcases Nat.lt_or_ge k 64 with h1 | h1
    · have i1 : (k : Int) < 64 := by omega
      have hix : ∀ w, (Instr.index 218 (.agg (List.map W32 ws).toArray) (.int .i64 (k : Int))).run Tryz.prog w = .ok (W32 (M.at32 ws k)) w :=
        run_index_agg 218 131 64 _ k _ _ Tryz.underlying218 (by kernel_rfl) Tryz.underlying131 rfl h1 (by have := HL.out; simp [M.at32, this, h1])
      have c0 : wr.cell? ⟨w.heap.size, 0, none⟩ = some (W32 (M.rounds s ws k).a) := block_cell gS rfl
      have c1 : wr.cell? ⟨w.heap.size, 1, none⟩ = some (W32 (M.rounds s ws k).b) := block_cell gS rfl
      have c2 : wr.cell? ⟨w.heap.size, 2, none⟩ = some (W32 (M.rounds s ws k).c) := block_cell gS rfl
      have c3 : wr.cell? ⟨w.heap.size, 3, none⟩ = some (W32 (M.rounds s ws k).d) := block_cell gS rfl
      have c4 : wr.cell? ⟨w.heap.size, 4, none⟩ = some (W32 (M.rounds s ws k).e) := block_cell gS rfl
      have c5 : wr.cell? ⟨w.heap.size, 5, none⟩ = some (W32 (M.rounds s ws k).f) := block_cell gS rfl
      have c6 : wr.cell? ⟨w.heap.size, 6, none⟩ = some (W32 (M.rounds s ws k).g) := block_cell gS rfl
      have c7 : wr.cell? ⟨w.heap.size, 7, none⟩ = some (W32 (M.rounds s ws k).h) := block_cell gS rfl
      have ck : wr.cell? ⟨1, k, none⟩ = some (W32 (M.at32 M.kList k)) := (HK.out.below hb) k h1
      have GS := Lib.hid gS; have GR := Lib.hid gR; have GW := Lib.hid gW
      clear gS gR gW
      obtain ⟨t, ht⟩ : ∃ t, t = M.rounds s ws k := ⟨_, rfl⟩
      rw [← ht] at c0 c1 c2 c3 c4 c5 c6 c7 GS
      have HT := Lib.hid ht; clear ht
      go_wp2
      go_quiet (fail)
      go_wp2
      go_quiet ((go_at_call 138; first | (with_reducible exact q_add (turn_any _ _ _ (by decide) (by decide))) | (with_reducible exact q_same (turn_any _ _ _ (by decide) (by decide)))))
      go_wp2
      go_quiet ((go_at_call 138; first | (with_reducible exact q_add (turn_any _ _ _ (by decide) (by decide))) | (with_reducible exact q_same (turn_any _ _ _ (by decide) (by decide)))))
      go_wp2
      simp only [World.drewN_drewN]
      generalize hw2 : World.drewN wr _ = w2
      have hh : w2.heap = wr.heap := by rw [← hw2]; rfl
      have b2 : Below w.heap.size w w2 := by rw [← hw2]; exact below_drewN hb _
      have G2 : w2.heap[w.heap.size]? = some (.cells (stv t).toArray 133 (0, 0)) := by rw [hh]; exact GS.out
      have hz : w.heap.size + 3 ≤ wr.heap.size := by
        have := (Array.getElem?_eq_some_iff.1 GW.out).1; omega
      have HH := Lib.hid hh
      clear hw2 hh c0 c1 c2 c3 c4 c5 c6 c7 ck hix
      refine wp_region_still_tail 2 (by kernel_rfl) (by kernel_rfl) ?_
      simp only [List.take_succ_cons, List.take_zero, List.drop_succ_cons, List.drop_zero]
      change wpStill _ _ w2.drew _ _ _
      repeat still_step
      refine wpStill_nil ?_
      change wpList _ _ _ _ _ w2.drew
      refine wpList_copy_own rfl _ _ _ _ rfl 131 Tryz.underlying142 (by kernel_rfl) w.heap.size 1 7 7 ⟨w.heap.size, 0, none⟩ 7 8 rfl rfl (stv t).toArray 133 G2 [W32 t.a, W32 t.b, W32 t.c, W32 t.d, W32 t.e, W32 t.f, W32 t.g] rfl ?_ (by simp [stv]) (by simp [oneW32]) ?_
      · intro j v hj
        rw [Addr.add_lit, Nat.zero_add]
        refine block_cell (w := w2.drew) G2 ?_
        have hj7 : j < 7 := by have := (List.getElem?_eq_some_iff.1 hj).1; simpa using this
        rw [← hj, stv]
        match j, hj7 with
        | 0, _ | 1, _ | 2, _ | 3, _ | 4, _ | 5, _ | 6, _ => rfl
      have G3 := setRow_heap w2.drew w.heap.size _ ((stv t).toArray.toList.take 1 ++ ([W32 t.a, W32 t.b, W32 t.c, W32 t.d, W32 t.e, W32 t.f, W32 t.g] ++ (stv t).toArray.toList.drop (1 + [W32 t.a, W32 t.b, W32 t.c, W32 t.d, W32 t.e, W32 t.f, W32 t.g].length))).toArray 133 (0, 0) G2
      have b3 := below_setRow b2.drew (Nat.le_refl w.heap.size) ((stv t).toArray.toList.take 1 ++ ([W32 t.a, W32 t.b, W32 t.c, W32 t.d, W32 t.e, W32 t.f, W32 t.g] ++ (stv t).toArray.toList.drop (1 + [W32 t.a, W32 t.b, W32 t.c, W32 t.d, W32 t.e, W32 t.f, W32 t.g].length))).toArray
      have o3 : ∀ i, i ≠ w.heap.size → (World.setRow w2.drew w.heap.size ((stv t).toArray.toList.take 1 ++ ([W32 t.a, W32 t.b, W32 t.c, W32 t.d, W32 t.e, W32 t.f, W32 t.g] ++ (stv t).toArray.toList.drop (1 + [W32 t.a, W32 t.b, W32 t.c, W32 t.d, W32 t.e, W32 t.f, W32 t.g].length))).toArray).heap[i]? = wr.heap[i]? := fun i hi => by
        rw [setRow_other _ _ _ _ hi]; show w2.heap[i]? = _; rw [HH.out]
      generalize World.setRow w2.drew w.heap.size _ = w3 at *
      have G4 : w3.heap[w.heap.size]? = some (.cells [W32 t.a, W32 t.a, W32 t.b, W32 t.c, W32 t.d, W32 t.e, W32 t.f, W32 t.g].toArray 133 (0, 0)) := G3
      clear G3 G2 b2
      have d4 : w3.cell? ⟨w.heap.size, 4, none⟩ = some (W32 t.d) := block_cell G4 rfl
      have d0 : w3.cell? ⟨w.heap.size, 0, none⟩ = some (W32 t.a) := block_cell G4 rfl
      have f0 : ∀ i, w3.frozen? ⟨w.heap.size, i, none⟩ = false := fun i => frozen_of_row w3 _ i _ _ G4
      have H4 := Lib.hid G4; have O3 := Lib.hid o3
      clear G4 o3
      go_wp2_with (first
        | (with_reducible refine wpList_store_one rfl 131 (.tmp 86) (.tmp 81) rfl ⟨w.heap.size, 0, none⟩ (W32 _) _ rfl rfl (oneW32 _) (by kernel_rfl) d0 (f0 0) ?_)
        | (with_reducible refine wpList_store_one rfl 131 (.tmp 87) (.tmp 85) rfl ⟨w.heap.size, 4, none⟩ (W32 _) _ rfl rfl (oneW32 _) (by kernel_rfl) ((World.cell?_setCell_other _ _ _ _ (by simp)).trans d4) (by rw [World.frozen?_setCell]; exact f0 4) ?_))
      go_roundw
      case rel =>
        refine ⟨k + 1, by omega, by go_num, ?_, ?_, ?_, (b3.setCell (p := ⟨w.heap.size, 0, none⟩) (Nat.le_refl _) _).setCell (p := ⟨w.heap.size, 4, none⟩) (Nat.le_refl _) _⟩
        · have e : M.rounds s ws (k + 1) = M.rnd t (M.at32 M.kList k) (M.at32 ws k) := by rw [HT.out]; rfl
          rw [e]
          exact block_set (block_set H4.out 0 _) 4 _
        · rw [heap_setCell_other _ _ _ _ (by simp only [ne_eq]; omega), heap_setCell_other _ _ _ _ (by simp only [ne_eq]; omega), O3.out _ (by omega)]; exact GR.out
        · rw [heap_setCell_other _ _ _ _ (by simp only [ne_eq]; omega), heap_setCell_other _ _ _ _ (by simp only [ne_eq]; omega), O3.out _ (by omega)]; exact GW.out
      case measure => simp [intOf]; omega
    · have hk64 : k = 64 := by omega
      have HK64 := Lib.hid hk64
      have i1 : ¬ (k : Int) < 64 := by omega
      clear hk h1 i0 hk64
      have GS := Lib.hid gS; have GR := Lib.hid gR; have GW := Lib.hid gW
      clear gS gR gW
      obtain ⟨t, ht⟩ : ∃ t, t = M.rounds s ws k := ⟨_, rfl⟩
      rw [← ht] at GS
      have HT := Lib.hid ht; clear ht
      go_wp2
      go_loopw [89] (fun i wx => ∃ k : Nat, k ≤ 8 ∧ i = .int .i64 k ∧ wx.heap[w.heap.size]? = some (.cells ((sumTo t.list s.list k).map W32).toArray 133 (0, 0)) ∧ wx.heap[w.heap.size + 1]? = some (.cells (stv z).toArray 133 (0, 0)) ∧
        wx.heap[w.heap.size + 1 + 1]? = some (.cells (stv s).toArray 133 (0, 0)) ∧ Below w.heap.size w wx) (fun i _ => 8 - (intOf i).toNat)
      case atStart => exact ⟨0, Nat.zero_le _, rfl, GS.out, GR.out, GW.out, hb⟩
      case round =>
        clear GS GR GW hb
        obtain ⟨j, hj, rfl, gS, gR, gW, hb⟩ := hrel
        have i0 : (0 : Int) ≤ (j : Int) := by omega
        rcases Nat.lt_or_ge j 8 with h1 | h1
        · have i2 : (j : Int) < 8 := by omega
          have ck : wr.cell? ⟨w.heap.size, j, none⟩ = some (W32 (M.at32 t.list j)) := block_cell gS (by rw [List.getElem?_map, sumTo_at t.list s.list j h1 rfl]; rfl)
          have dk : wr.cell? ⟨w.heap.size + 1 + 1, j, none⟩ = some (W32 (M.at32 s.list j)) := block_cell gW (by
            show (s.list.map W32)[j]? = _
            rw [List.getElem?_map, M.at32, List.getD_eq_getElem?_getD, List.getElem?_eq_getElem h1]; rfl)
          have fk : wr.frozen? ⟨w.heap.size, j, none⟩ = false := frozen_of_row wr _ j _ _ gS
          have GS := Lib.hid gS; have GR := Lib.hid gR; have GW := Lib.hid gW
          clear gS gR gW
          go_wp2
          go_still_tail 8, (by kernel_rfl)
          change wpList _ _ _ _ _ wr.drew
          refine wpList_store_one rfl _ _ _ rfl _ _ _ rfl rfl rfl (by kernel_rfl) ck fk ?_
          go_wp2
          go_roundw
          case rel =>
            refine ⟨j + 1, by omega, by go_num, ?_, ?_, ?_, (hb.setCell (p := ⟨w.heap.size, j, none⟩) (Nat.le_refl _) _).drew⟩
            · rw [← sumTo_set t.list s.list j h1 rfl, List.map_set]
              exact block_set GS.out j _
            · exact (heap_setCell_other _ _ _ _ (by simp only [ne_eq]; omega)).trans GR.out
            · exact (heap_setCell_other _ _ _ _ (by simp only [ne_eq]; omega)).trans GW.out
          case measure => simp [intOf]; omega
        · obtain rfl : j = 8 := by omega
          have hsz : (Tryz.prog.info? 133).map (·.size) = some ((sumTo t.list s.list 8).map W32).toArray.size := info8'
          have hone : ((sumTo t.list s.list 8).map W32).toArray.all (·.oneCell') = true := stv_one (t.add s)
          have GS := Lib.hid gS; have GR := Lib.hid gR
          clear gS gR gW hj h1 i0
          go_wp2_with (first
            | (with_reducible refine wpList_load_row rfl 133 (.tmp 2) rfl w.heap.size rfl 133 _ (0, 0) _ GS.out Tryz.underlying133 rfl hsz ?_)
            | (with_reducible refine wpList_store_row rfl 133 (.tmp 4) (.tmp 101) rfl (w.heap.size + 1) _ rfl rfl 133 _ GR.out hsz rfl hone ?_))
          refine bodyPost_ret (v := .agg ((sumTo t.list s.list 8).map W32).toArray) ?_ ?_ ?_
          · exact results_cell_row rfl _ _ (w.heap.size + 1) 133 _ (0, 0) _ rfl (setRow_heap wr _ _ _ _ _ GR.out) Tryz.underlying133 rfl hsz
          · rfl
          · refine ⟨?_, below_setRow hb (by omega) _⟩
            have e : stv (M.take s bs) = (sumTo t.list s.list 8).map W32 := by rw [← stv_add, HT.out, HK64.out, ← HWS.out, M.take]
            rw [e]
end Go.Proofs.YtidcfjmibljkeaaGreatDoor.K

/- The contract of sha.message: the bytes, and what stands behind them. -/
namespace Go.Proofs.YtidcfjmibljkeaaGreatDoor.K
open Go Go.RowKit

/-- the lowest j bytes of m, the highest first -/
def low (m j : Nat) : List (BitVec 8) := (List.range j).map fun i => BitVec.ofNat 8 (m >>> (8 * (j - 1 - i)))
theorem low_length (m j : Nat) : (low m j).length = j := by simp [low]
theorem low_succ (m j : Nat) : low m (j + 1) = BitVec.ofNat 8 (m >>> (8 * j)) :: low m j := by
  rw [low, List.range_succ_eq_map, List.map_cons, List.map_map, low]
  congr 1
  apply List.map_congr_left
  intro i hi
  have := List.mem_range.1 hi
  show BitVec.ofNat 8 (m >>> (8 * (j + 1 - 1 - (i + 1)))) = _
  rw [show j + 1 - 1 - (i + 1) = j - 1 - i by omega]
theorem low_zero (m j d : Nat) (h : m >>> (8 * j) = 0) : low m (j + d) = List.replicate d 0#8 ++ low m j := by
  induction d with
  | zero => simp
  | succ d ih =>
    rw [← Nat.add_assoc, low_succ, ih, List.replicate_succ, List.cons_append]
    congr 1
    rw [Nat.mul_add, Nat.shiftRight_add, h, Nat.zero_shiftRight]
theorem be8_low (m : Nat) : M.be8 m = low m 8 := rfl
/-- the message when j bytes of the length have been written -/
def msgTo (bs : List (BitVec 8)) (j : Nat) : List (BitVec 8) := bs ++ [128#8] ++ List.replicate (M.total bs.length - bs.length - 1 - j) 0#8 ++ low (bs.length * 8) j
theorem msgTo_length (bs : List (BitVec 8)) (j : Nat) (h : j ≤ 8) : (msgTo bs j).length = M.total bs.length := by
  have := M.total_ge bs.length
  simp [msgTo, low_length]; omega
theorem msgTo_end (bs : List (BitVec 8)) (j : Nat) (h : j ≤ 8) (hz : (bs.length * 8) >>> (8 * j) = 0) : msgTo bs j = M.message bs := by
  have := M.total_ge bs.length
  have e := low_zero (bs.length * 8) j (8 - j) hz
  rw [show j + (8 - j) = 8 by omega] at e
  rw [msgTo, M.message, be8_low, e, ← List.append_assoc, List.append_assoc (bs ++ [128#8]) _ (List.replicate (8 - j) 0#8), List.replicate_append_replicate]
  rw [show M.total bs.length - bs.length - 9 + (8 - j) = M.total bs.length - bs.length - 1 - j by omega]
theorem msgTo_set (bs : List (BitVec 8)) (j : Nat) (h : j < 8) : (msgTo bs j).set (M.total bs.length - 1 - j) (BitVec.ofNat 8 ((bs.length * 8) >>> (8 * j))) = msgTo bs (j + 1) := by
  have := M.total_ge bs.length
  rw [msgTo, msgTo, low_succ]
  obtain ⟨z, hz⟩ : ∃ z, M.total bs.length - bs.length - 1 - j = z + 1 := ⟨M.total bs.length - bs.length - 1 - j - 1, by omega⟩
  rw [show M.total bs.length - bs.length - 1 - (j + 1) = z by omega, hz, List.replicate_succ', ← List.append_assoc, List.append_assoc _ [0#8], List.set_append_right _ _ (by simp; omega)]
  have e : M.total bs.length - 1 - j - (bs ++ [128#8] ++ List.replicate z 0#8).length = 0 := by simp; omega
  rw [e]
  simp
theorem splice_msg (bs : List (BitVec 8)) (T : Nat) (h : bs.length ≤ T) : splice (bv (List.replicate T 0#8)) 0 (bv bs) = bv (bs ++ List.replicate (T - bs.length) 0#8) := by
  simp [splice, bv, List.drop_replicate]
theorem msg_first (bs : List (BitVec 8)) : (bs ++ List.replicate (M.total bs.length - bs.length) 0#8).set bs.length 128#8 = msgTo bs 0 := by
  have := M.total_ge bs.length
  obtain ⟨z, hz⟩ : ∃ z, M.total bs.length - bs.length = z + 1 := ⟨M.total bs.length - bs.length - 1, by omega⟩
  rw [msgTo, hz, List.set_append_right _ _ (by simp), Nat.sub_self, List.replicate_succ]
  simp [low]

theorem first_block {w2 : World} {g : Nat} {bs : List (BitVec 8)} (h : w2.heap[g]? = some (.cells (splice (bv (List.replicate (M.total bs.length) 0#8)) 0 (bv bs)).toArray 5 (0, 0))) :
    w2.heap[g]? = some (.cells (bv (bs ++ List.replicate (M.total bs.length - bs.length) 0#8)).toArray 5 (0, 0)) ∧ w2.cell? ⟨g, bs.length, none⟩ = some (B8 0#8) ∧ w2.frozen? ⟨g, bs.length, none⟩ = false := by
  have := M.total_ge bs.length
  rw [splice_msg _ _ (by omega)] at h
  refine ⟨h, block_cell h ?_, frozen_of_row w2 _ bs.length _ _ h⟩
  rw [bv, List.getElem?_map, List.getElem?_append_right (Nat.le_refl _), Nat.sub_self, List.getElem?_replicate, if_pos (by omega)]; rfl
theorem made_block {w w1 : World} {T : Nat} (h : w1.ownsRow w.heap.size 5 1 (.slice (some ⟨w.heap.size, 0, none⟩) T T) T (madeCells (Value.int .u8 0).cells (T * 1)).toList) :
    w1.heap[w.heap.size]? = some (.cells (bv (List.replicate T 0#8)).toArray 5 (0, 0)) := by
  have e := (own_full h).2
  rw [Nat.mul_one, show (Value.int .u8 0).cells = #[Value.int .u8 0] from rfl, toList_madeCells_one] at e
  rw [e, bv, List.map_replicate]; rfl

set_option maxHeartbeats 1000000 in
theorem message_any (A : Option Addr) (n c : Nat) (bs : List (BitVec 8)) (w : World) (hr : Rd w A bs) (hn : bs.length = n) (hn2 : n ≤ 1000000000000) :
    Calls Tryz.prog 103 #[.slice A n c] w fun e w' => ∃ g, e = .returned (.slice (some ⟨g, 0, none⟩) (M.total n) (M.total n)) ∧ w.heap.size ≤ g ∧
      w'.heap[g]? = some (.cells (bv (M.message bs)).toArray 5 (0, 0)) ∧ Below w.heap.size w w' := by
  subst hn
  obtain ⟨i0, hi, hz0, hz1, hz2⟩ := info_parts infoByte
  have ht1 := M.total_ge bs.length
  have ht2 : ((M.total bs.length : Nat) : Int) = ((bs.length : Int) + 8) / 64 * 64 + 64 := by unfold M.total; omega
  have ht3 : M.total bs.length ≤ bs.length + 72 := by unfold M.total; omega
  have HT2 := Lib.hid ht2
  have HR := Lib.hid hr
  clear hr ht2
  go_enter Tryz.func103, Tryz.ntmps103
  have hpos : 0 < (bv bs).length → some (⟨w.heap.size, 0, none⟩ : Addr) = some ⟨w.heap.size, 0, none⟩ ∧ ∃ ad, A = some ad ∧ ∀ j v, (bv bs)[j]? = some v → w.cell? (ad.add j) = some v := fun h => by
    rw [bv_length] at h
    obtain ⟨b, o, e, _⟩ := HR.out.lay h
    exact ⟨rfl, _, e, HR.out.cells _ e⟩
  have HP := Lib.hid hpos
  have hmin : (bv bs).length = Nat.min bs.length (M.total bs.length) := by rw [bv_length]; exact (Nat.min_eq_left (by omega)).symm
  have HMIN := Lib.hid hmin
  have hfit : 0 + (bv bs).length ≤ (bv (List.replicate (M.total bs.length) 0#8)).length := by rw [bv_length, bv_length, List.length_replicate]; omega
  have HFIT := Lib.hid hfit
  clear hpos hmin hfit
  go_wp2_with (first
    | (at_make; refine wpList_make_full _ rfl _ _ 22 rfl w.heap.size 5 i0 (.int .u8 0) 1 Tryz.underlying22 hi hz0 hz1 _ _ _ _ (M.total bs.length) rfl rfl HT2.out.symm HT2.out.symm (by rw [hz2]; omega) (by unfold maxLen; omega) (Nat.le_refl _) ?_; intro w1 hown1 hgrow1; have hg1 := Lib.hid (made_block hown1); have hb1 := (Below.refl w.heap.size w).grown hgrow1 (Nat.le_refl _) (by simp); clear hown1)
    | (with_reducible show wpList _ _ _ (⟨some 15, _, _, _, _, _⟩ :: _) _ _; refine wpList_copy_splice rfl (.tmp 13) (.tmp 14) 22 22 rfl 5 Tryz.underlying22 (by kernel_rfl) (some ⟨w.heap.size, 0, none⟩) A (M.total bs.length) (M.total bs.length) bs.length c rfl rfl w.heap.size 0 (bv (List.replicate (M.total bs.length) 0#8)) 5 hg1.out (bv bs) HMIN.out (fun h => ⟨rfl, (HP.out h).2.imp fun ad h => ⟨h.1, fun j v hj => hgrow1.cell (h.2 j v hj) (by simp)⟩⟩) HFIT.out (bv_one bs) w.heap.size w hb1 (Nat.le_refl _) ?_; intro w2 hg2 hb2; clear hb1 hg1 hgrow1; obtain ⟨hg3, cz, fz⟩ := first_block hg2.out; have HG3 := Lib.hid hg3; clear hg3 hg2))
  have hg4 : (w2.setCell ⟨w.heap.size, bs.length, none⟩ (.int .u8 128)).heap[w.heap.size]? = some (.cells (bv (msgTo bs 0)).toArray 5 (0, 0)) := by
    have e := block_set HG3.out bs.length (B8 128#8)
    rw [← msg_first, bv, List.map_set]
    exact e
  have hb4 : Below w.heap.size w (w2.setCell ⟨w.heap.size, bs.length, none⟩ (.int .u8 128)) := hb2.setCell (Nat.le_refl _) _
  clear hb2 cz fz HG3
  generalize World.setCell w2 _ _ = w4 at *
  obtain ⟨m, hm⟩ : ∃ m, m = bs.length * 8 := ⟨_, rfl⟩
  have hml : m ≤ 8000000000000 := by omega
  have em : Value.int .u64 ((bs.length : Int) * (8 : Int)) = Value.int .u64 (((m >>> (8 * 0) : Nat)) : Int) := by simp [hm]
  have EM := Lib.hid em
  have HM := Lib.hid hm
  clear hm em
  go_loopw [4, 5] (fun k v wr => ∃ j x : Nat, j ≤ 8 ∧ k = .int .i64 ((M.total bs.length : Int) - 1 - (j : Int)) ∧ x = m >>> (8 * j) ∧ v = .int .u64 (x : Int) ∧ wr.heap[w.heap.size]? = some (.cells (bv (msgTo bs j)).toArray 5 (0, 0)) ∧ Below w.heap.size w wr) (fun k _ _ => (intOf k).toNat + 1)
  case atStart => exact ⟨0, _, by omega, by simp, rfl, EM.out, hg4, hb4⟩
  case round =>
    clear hg4 hb4
    obtain ⟨j, x, hj, rfl, hx, rfl, hg, hb⟩ := hrel
    by_cases hx0 : x = 0
    · have i1 : ¬ (0 : Int) < (x : Int) := by omega
      have d1 : decide (0 < x) = false := by simp; omega
      have HX0 := Lib.hid hx0
      have HX := Lib.hid hx
      clear hx0 hx
      go_wp2
      go_ret
      refine ⟨w.heap.size, rfl, Nat.le_refl _, ?_, hb⟩
      rw [← msgTo_end bs j hj (by rw [← HM.out, ← HX.out, HX0.out])]
      exact hg
    · have i1 : (0 : Int) < (x : Int) := by omega
      have d1 : decide (0 < x) = true := by simp; omega
      have hj8 : j < 8 := by
        rcases Nat.lt_or_ge j 8 with h | h
        · exact h
        · exfalso
          apply hx0
          rw [hx, show j = 8 by omega, Nat.shiftRight_eq_div_pow]
          exact Nat.div_eq_of_lt (by omega)
      have hx2 : x ≤ 8000000000000 := by rw [hx, Nat.shiftRight_eq_div_pow]; exact Nat.le_trans (Nat.div_le_self _ _) hml
      have i2 : (0 : Int) ≤ (M.total bs.length : Int) - 1 - (j : Int) := by omega
      have i3 : (M.total bs.length : Int) - 1 - (j : Int) < (M.total bs.length : Int) := by omega
      have cz : ∃ v, wr.cell? ⟨w.heap.size, M.total bs.length - 1 - j, none⟩ = some v := by
        have hlen := msgTo_length bs j (by omega)
        rw [cell_of_row wr _ _ _ _ _ hg, List.getElem?_toArray, List.getElem?_eq_getElem (by rw [bv_length, hlen]; omega)]
        exact ⟨_, rfl⟩
      obtain ⟨v0, cz⟩ := cz
      have fz : wr.frozen? ⟨w.heap.size, M.total bs.length - 1 - j, none⟩ = false := frozen_of_row wr _ _ _ _ hg
      have HX := Lib.hid hx; have HG := Lib.hid hg
      clear hx hx0 hg
      go_wp2
      go_roundw
      case rel =>
        refine ⟨j + 1, x / 256, by omega, by go_num, ?_, by go_num, ?_, hb.setCell (p := ⟨w.heap.size, M.total bs.length - 1 - j, none⟩) (Nat.le_refl _) _⟩
        · rw [Nat.mul_add, Nat.shiftRight_add, ← HX.out, Nat.shiftRight_eq_div_pow]
        · rw [← msgTo_set bs j hj8, bv, List.map_set, ← HM.out, ← HX.out]
          have e : Value.int .u8 ((x : Int) % 256) = B8 (BitVec.ofNat 8 x) := by
            simp [B8]
          rw [e]
          exact block_set HG.out _ _
      case measure => simp [intOf]; omega
end Go.Proofs.YtidcfjmibljkeaaGreatDoor.K

/- The contract of sha.Sum: the digest of what is read. -/
namespace Go.Proofs.YtidcfjmibljkeaaGreatDoor.K
open Go Go.RowKit

/-- the state at first lies in the world -/
def HasF (w : World) : Prop := ∀ k, k < 8 → w.cell? ⟨0, k, none⟩ = some (W32 (M.at32 M.first.list k))
theorem HasF.below {w w' : World} (h : HasF w) (hb : Below w.heap.size w w') : HasF w' := fun k hk => (hb.cell (block_lt_of_cell (h k hk))).trans (h k hk)

theorem Rd.part {w : World} {g : Nat} {t : TypeId} {fr : Nat × Nat} {m : List (BitVec 8)} (hg : w.heap[g]? = some (.cells (bv m).toArray t fr)) (o n : Nat) (h : o + n ≤ m.length) :
    Rd w (some ⟨g, o, none⟩) ((m.drop o).take n) := by
  intro k hk
  have hk2 : k < n := by simp at hk; omega
  refine ⟨g, o, rfl, ?_⟩
  rw [cell_of_row w g (o + k) _ _ _ hg, List.getElem?_toArray, bv, List.getElem?_map, List.getElem?_eq_getElem (by omega)]
  simp
theorem stv_len (s : M.St) : (stv s).toArray.size = 8 := rfl
theorem stv_is (s : M.St) : (stv s).toArray = #[W32 s.a, W32 s.b, W32 s.c, W32 s.d, W32 s.e, W32 s.f, W32 s.g, W32 s.h] := rfl
theorem bytes4 (x : BitVec 32) : M.bytesOf x = [(x >>> 24).setWidth 8, (x >>> 16).setWidth 8, (x >>> 8).setWidth 8, x.setWidth 8] := rfl
/-- the bytes of the first k words -/
def digTo (s : M.St) (k : Nat) : List (BitVec 8) := (s.list.take k).flatMap M.bytesOf
theorem digTo_succ (s : M.St) (k : Nat) (h : k < 8) : digTo s (k + 1) = digTo s k ++ M.bytesOf (M.at32 s.list k) := by
  have hl : s.list.length = 8 := rfl
  rw [digTo, digTo, List.take_succ_eq_append_getElem (by omega), List.flatMap_append]
  simp [M.at32, hl, h]
theorem digTo_end (s : M.St) : digTo s 8 = M.digest s := rfl
theorem digTo_length (s : M.St) (k : Nat) (h : k ≤ 8) : (digTo s k).length = 4 * k := by
  induction k with
  | zero => rfl
  | succ k ih => rw [digTo_succ s k (by omega), List.length_append, ih (by omega)]; simp [bytes4]; omega

theorem cells4 (w : World) (a b c d : Value) (t : TypeId) : ∀ j u, [a, b, c, d][j]? = some u → (w.alloc (.cells #[a, b, c, d] t)).cell? ((⟨w.heap.size, 0, none⟩ : Addr).add j) = some u := by
  intro j u hu
  rw [Addr.add_lit, World.cell?_alloc_new, Nat.zero_add, ← hu]
  simp
set_option maxHeartbeats 2000000 in
set_option maxRecDepth 100000 in
theorem Sum_any (A : Option Addr) (n c : Nat) (bs : List (BitVec 8)) (w : World) (hr : Rd w A bs) (hn : bs.length = n) (hn2 : n ≤ 1000000000000) (hK : HasK w) (hF : HasF w) :
    Calls Tryz.prog 64 #[.slice A n c] w fun e w' => ∃ g cap, e = .returned (.slice (some ⟨g, 0, none⟩) 32 cap) ∧
      w'.ownsRow w.heap.size 5 1 (.slice (some ⟨g, 0, none⟩) 32 cap) 32 (bv (M.sum bs)) ∧ Below w.heap.size w w' := by
  subst hn
  have c0 : w.cell? ⟨0, 0, none⟩ = some (W32 M.first.a) := hF 0 (by omega)
  have c1 : w.cell? ⟨0, 1, none⟩ = some (W32 M.first.b) := hF 1 (by omega)
  have c2 : w.cell? ⟨0, 2, none⟩ = some (W32 M.first.c) := hF 2 (by omega)
  have c3 : w.cell? ⟨0, 3, none⟩ = some (W32 M.first.d) := hF 3 (by omega)
  have c4 : w.cell? ⟨0, 4, none⟩ = some (W32 M.first.e) := hF 4 (by omega)
  have c5 : w.cell? ⟨0, 5, none⟩ = some (W32 M.first.f) := hF 5 (by omega)
  have c6 : w.cell? ⟨0, 6, none⟩ = some (W32 M.first.g) := hF 6 (by omega)
  have c7 : w.cell? ⟨0, 7, none⟩ = some (W32 M.first.h) := hF 7 (by omega)
  have HR := Lib.hid hr; have HK := Lib.hid hK
  clear hr hK hF
  go_enter Tryz.func64, Tryz.ntmps64
  go_wp2_with (with_reducible refine wpList_store_row rfl 133 (.tmp 3) (.tmp 8) rfl w.heap.size #[W32 M.first.a, W32 M.first.b, W32 M.first.c, W32 M.first.d, W32 M.first.e, W32 M.first.f, W32 M.first.g, W32 M.first.h] rfl rfl 133 _ (heap_alloc_new w _) info8' rfl (stv_one M.first) ?_)
  clear c0 c1 c2 c3 c4 c5 c6 c7
  have bW : Below w.heap.size w (w.alloc (.cells #[W32 M.first.a, W32 M.first.b, W32 M.first.c, W32 M.first.d, W32 M.first.e, W32 M.first.f, W32 M.first.g, W32 M.first.h] 133)) := (Below.refl _ _).alloc (Nat.le_refl _) _
  have gS := heap_alloc_new w (.cells (stv M.first).toArray 133)
  refine (message_any A bs.length c bs _ (HR.out.below bW) rfl hn2).mono ?_
  rintro e w1 ⟨g, rfl, hgl, hgm, hb1⟩
  have hsz : (w.alloc (.cells #[W32 M.first.a, W32 M.first.b, W32 M.first.c, W32 M.first.d, W32 M.first.e, W32 M.first.f, W32 M.first.g, W32 M.first.h] 133)).heap.size = w.heap.size + 1 := by simp
  have gS1 : w1.heap[w.heap.size]? = some (.cells (stv M.first).toArray 133 (0, 0)) := (hb1.block _ (by rw [hsz]; omega)).trans gS
  have b1 : Below w.heap.size w w1 := bW.trans (hb1.mono (by rw [hsz]; omega))
  have hgl2 : w.heap.size + 1 ≤ g := by rw [hsz] at hgl; exact hgl
  clear bW gS hb1 hgl hsz
  have ht1 := M.total_ge bs.length
  have ht2 := M.total_mod bs.length
  have ht3 : M.total bs.length ≤ bs.length + 72 := by unfold M.total; omega
  have hml := M.message_length bs
  obtain ⟨q, hq⟩ : ∃ q, M.total bs.length = 64 * q := ⟨M.total bs.length / 64, by omega⟩
  have HQ := Lib.hid hq; have HML := Lib.hid hml
  have hq1 : 64 * q ≤ M.total bs.length := by omega
  have hq2 : M.total bs.length ≤ 64 * q := by omega
  have GS1 := Lib.hid gS1; have GM := Lib.hid hgm; have B1 := Lib.hid b1
  clear ht2 hq hml gS1 hgm b1
  generalize hT : M.total bs.length = T at *
  have HT := Lib.hid hT; clear hT
  go_wp2
  go_loopw [4] (fun v wr => ∃ j o : Nat, j ≤ q ∧ v = .slice (some ⟨g, o, none⟩) (T - 64 * j) (T - 64 * j) ∧ (j < q → o = 64 * j) ∧ wr.heap[w.heap.size]? = some (.cells (stv (M.after (M.message bs) j)).toArray 133 (0, 0)) ∧
      wr.heap[g]? = some (.cells (bv (M.message bs)).toArray 5 (0, 0)) ∧ Below w.heap.size w wr) (fun v _ => match v with | .slice _ n _ => n | _ => 0)
  case atStart => exact ⟨0, 0, Nat.zero_le _, rfl, fun _ => rfl, GS1.out, GM.out, B1.out⟩
  case round =>
    clear GS1 GM B1
    obtain ⟨j, o, hj, rfl, ho, gS, gM, hb⟩ := hrel
    rcases Nat.lt_or_ge j q with h1 | h1
    · obtain rfl := ho h1
      clear ho
      have i1 : 64 ≤ T - 64 * j := by omega
      have i2 : (0 : Int) < ((T - 64 * j : Nat) : Int) := by omega
      have d1 : decide (0 < T - 64 * j) = true := by simp; omega
      have GS := Lib.hid gS; have GM := Lib.hid gM
      clear gS gM
      obtain ⟨T', hT'⟩ : ∃ T', T' = T - 64 * j := ⟨_, rfl⟩
      rw [← hT'] at i1 i2 d1
      rw [← hT']
      have i5 : T' ≤ T := by omega
      have HT' := Lib.hid hT'; clear hT'
      have i3 : (64 : Int) ≤ (T' : Int) := by omega
      have i4 : ¬ T' = 0 := by omega
      go_wp2
      refine wp_region_still_tail 3 (by kernel_rfl) (by kernel_rfl) ?_
      simp only [List.take_succ_cons, List.take_zero, List.drop_succ_cons, List.drop_zero]
      change wpStill _ _ wr.drew _ _ _
      have GSd : wr.drew.heap[w.heap.size]? = some (.cells (stv (M.after (M.message bs) j)).toArray 133 (0, 0)) := GS.out
      with_reducible refine wpStill_load_row (w := wr.drew) rfl 133 (.tmp 3) rfl w.heap.size rfl 133 (stv (M.after (M.message bs) j)).toArray (0, 0) _ GSd Tryz.underlying133 rfl (info8 _) ?_
      clear GSd
      repeat still_step
      refine wpStill_nil ?_
      change wpList _ _ _ _ _ wr.drew
      go_wp2_with fail
      have hsz : w.heap.size < wr.heap.size := (Array.getElem?_eq_some_iff.1 GS.out).1
      have hgz : g < wr.heap.size := (Array.getElem?_eq_some_iff.1 GM.out).1
      have hrd : Rd wr.drew (some ⟨g, 64 * j, none⟩) (((M.message bs).drop (64 * j)).take 64) := Rd.part (w := wr.drew) GM.out (64 * j) 64 (by rw [HML.out]; omega)
      have hlen : (((M.message bs).drop (64 * j)).take 64).length = 64 := by
        have h := HML.out
        rw [List.length_take, List.length_drop, h]; omega
      have hK2 : HasK wr.drew := (HK.out.below hb : HasK wr)
      refine (take_any (M.after (M.message bs) j) (some ⟨g, 64 * j, none⟩) 64 T' _ wr.drew hrd hlen i1 rfl (by omega) hK2).mono ?_
      rintro e w2 ⟨rfl, hb2⟩
      rw [M.after_succ]
      have gS2 : w2.heap[w.heap.size]? = some (.cells (stv (M.after (M.message bs) j)).toArray 133 (0, 0)) := (hb2.block _ hsz).trans GS.out
      have gM2 : w2.heap[g]? = some (.cells (bv (M.message bs)).toArray 5 (0, 0)) := (hb2.block _ hgz).trans GM.out
      have b2 : Below w.heap.size w w2 := hb.drew.trans (hb2.mono (Nat.le_of_lt hsz))
      have GS2 := Lib.hid gS2; have GM2 := Lib.hid gM2; have B2 := Lib.hid b2
      clear hb2 gS2 gM2 b2 hK2 hlen hrd hb
      go_wp2_with (with_reducible refine wpList_store_row rfl 133 (.tmp 3) (.tmp 19) rfl w.heap.size (stv (M.after (M.message bs) (j + 1))).toArray rfl rfl 133 _ GS2.out (info8 _) ((stv_len _).trans (stv_len _).symm) (stv_one _) ?_)
      go_roundw
      case rel =>
        have gS3 := setRow_heap w2 w.heap.size _ (stv (M.after (M.message bs) (j + 1))).toArray 133 (0, 0) GS2.out
        have gM3 : (w2.setRow w.heap.size (stv (M.after (M.message bs) (j + 1))).toArray).heap[g]? = _ := (setRow_other w2 w.heap.size g _ (by omega)).trans GM2.out
        have b3 := below_setRow B2.out (Nat.le_refl w.heap.size) (stv (M.after (M.message bs) (j + 1))).toArray
        have e1 : T' - 64 = T - 64 * (j + 1) := by have := HT'.out; omega
        by_cases hl : T' = 64
        · rw [if_pos hl]
          exact ⟨j + 1, 64 * j, by omega, by rw [e1], fun h => by have := HT'.out; omega, gS3, gM3, b3⟩
        · rw [if_neg hl]
          exact ⟨j + 1, 64 * j + 64, by omega, by rw [e1], fun _ => by omega, gS3, gM3, b3⟩
      case measure => simp; omega
    · obtain ⟨i0, hi, hz0, hz1, hz2⟩ := info_parts infoByte
      have hjq : j = q := by omega
      have d1 : decide (0 < T - 64 * j) = false := by simp; omega
      have i1 : ¬ (0 : Int) < ((T - 64 * j : Nat) : Int) := by omega
      have i2 : T - 64 * j = 0 := by omega
      have JQ := Lib.hid hjq
      have GS := Lib.hid gS
      have HT2 := Lib.hid i2
      clear gS gM hjq i2 ho
      obtain ⟨s, hs⟩ : ∃ s, s = M.after (M.message bs) j := ⟨_, rfl⟩
      rw [← hs] at GS
      have HS := Lib.hid hs; clear hs
      go_wp2_with (with_reducible refine wpList_load_row rfl 133 (.tmp 3) rfl w.heap.size rfl 133 (stv s).toArray (0, 0) _ GS.out Tryz.underlying133 rfl (info8 s) ?_)
      go_loopw [5, 21] (fun v i wx => ∃ k : Nat, k ≤ 8 ∧ i = .int .i64 k ∧ wx.ownsRow w.heap.size 5 1 v (4 * k) (bv (digTo s k)) ∧ Below w.heap.size w wx) (fun _ i _ => 8 - (intOf i).toNat)
      case atStart => exact ⟨0, Nat.zero_le _, rfl, World.ownsRow_nil _ _ _ _, hb⟩
      case round =>
        clear hb
        obtain ⟨k, hk, rfl, hown, hb⟩ := hrel
        have j0 : (0 : Int) ≤ (k : Int) := by omega
        rcases Nat.lt_or_ge k 8 with h2 | h2
        · have j1 : (k : Int) < 8 := by omega
          have hix : ∀ w, (Instr.index 133 (.agg (stv s).toArray) (.int .i64 (k : Int))).run Tryz.prog w = .ok (W32 (M.at32 s.list k)) w :=
            run_index_agg 133 131 8 _ k _ _ Tryz.underlying133 (by kernel_rfl) Tryz.underlying131 rfl h2 (by
              show (s.list.map W32).toArray[k]? = _
              rw [List.getElem?_toArray, List.getElem?_map, M.at32, List.getD_eq_getElem?_getD, List.getElem?_eq_getElem h2]; rfl)
          obtain ⟨x, hx⟩ : ∃ x, x = M.at32 s.list k := ⟨_, rfl⟩
          rw [← hx] at hix
          have HX := Lib.hid hx; clear hx
          go_wp2_with (at_builtin; refine wpList_append_own _ rfl _ _ 22 rfl w.heap.size 5 i0 (.int .u8 0) 1 1 Tryz.underlying22 hi hz0 hz1 hz2 rfl (by decide) _ _ _ rfl (hown.alloc _) ⟨wr.heap.size, 0, none⟩ 4 4 [B8 ((x >>> 24).setWidth 8), B8 ((x >>> 16).setWidth 8), B8 ((x >>> 8).setWidth 8), B8 (x.setWidth 8)] rfl rfl (cells4 _ _ _ _ _ _) (by simp [oneB8]) (by unfold maxLen; omega) (by omega) (by have := hb.size; simp; omega) ?_; intro v' w3 hown3 hgrow3 _)
          have hb3 : Below w.heap.size w w3 := (hb.alloc hb.size _).grown hgrow3 (by have := hb.size; simp; omega) (fun k' hk' => (hown.lt k' hk').1)
          go_roundw
          case rel => exact ⟨k + 1, by omega, by go_num, by rw [digTo_succ s k h2, ← HX.out, bytes4, bv_append, Nat.mul_add]; exact hown3, hb3⟩
          case measure => simp [intOf]; omega
        · obtain rfl : k = 8 := by omega
          go_wp2
          go_ret
          rcases hown.2 with ⟨_, h0⟩ | ⟨g', cap, cur, hv, _⟩
          · exact absurd h0 (by decide)
          · subst hv
            refine ⟨g', cap, rfl, ?_, hb⟩
            have ej : M.total bs.length / 64 = j := by have := HT.out; have := HQ.out; have := JQ.out; omega
            rw [M.sum, ← digTo_end, ej, ← HS.out]
            exact hown
end Go.Proofs.YtidcfjmibljkeaaGreatDoor.K

/- The contracts of mac.of and of a block's under. -/
namespace Go.Proofs.YtidcfjmibljkeaaGreatDoor.K
open Go Go.RowKit

def zer (n : Nat) : List (BitVec 8) := List.replicate n 0#8
theorem infoBlk (l : List (BitVec 8)) (h : l.length = 64) : (Tryz.prog.info? 136).map (·.size) = some (bv l).toArray.size := by
  rw [show (bv l).toArray.size = 64 by rw [List.size_toArray, bv_length, h]]; kernel_rfl
theorem infoByteSize : (Tryz.prog.info? 5).map (·.size) = some 1 := by kernel_rfl
theorem bv_all (l : List (BitVec 8)) : (bv l).toArray.all (·.oneCell') = true := by
  rw [Array.all_eq_true_iff_forall_mem]
  intro x hx
  exact bv_one l x (by simpa using hx)
theorem zer_length (n : Nat) : (zer n).length = n := by simp [zer]
theorem made_zer {w : World} {base : Nat} {e : TypeId} {v : Value} {n : Nat} (h : w.ownsRow base e 1 v n (madeCells (Value.int .u8 0).cells (n * 1)).toList) : w.ownsRow base e 1 v n (bv (zer n)) := by
  have e1 : (madeCells (Value.int .u8 0).cells (n * 1)).toList = bv (zer n) := by
    rw [show (Value.int IntKind.u8 0).cells = #[Value.int .u8 0] from rfl, Nat.mul_one, toList_madeCells_one]
    simp [bv, B8, zer]
  rw [e1] at h; exact h
theorem below_none {w w' : World} (h : w.grownBy w' none) : Below w.heap.size w w' := ⟨h.os, h.tape, h.output, h.size, fun k hk => h.block k hk (by simp)⟩
theorem blk_size (a b : List (BitVec 8)) (ha : a.length = 64) (hb : b.length = 64) : (bv a).toArray.size = (bv b).toArray.size := by rw [List.size_toArray, List.size_toArray, bv_length, bv_length, ha, hb]
theorem bv_splice (a b : List (BitVec 8)) (off : Nat) : splice (bv a) off (bv b) = bv (a.take off ++ (b ++ a.drop (off + b.length))) := by
  simp [splice, bv]
theorem block_of (key k2 : List (BitVec 8)) (h : k2 = M.keyOf key) : (zer 64).take 0 ++ (k2 ++ (zer 64).drop (0 + k2.length)) = M.macBlock key := by
  subst h
  unfold zer M.macBlock
  rw [List.take_zero, List.nil_append, Nat.zero_add, List.drop_replicate]
def OfPost (w : World) (key : List (BitVec 8)) (e : Ending) (w' : World) : Prop := e = .returned (.agg (bv (M.macBlock key)).toArray) ∧ Below w.heap.size w w'
set_option maxHeartbeats 2000000 in
set_option maxRecDepth 100000 in
theorem of_any (A : Option Addr) (n c : Nat) (key : List (BitVec 8)) (w : World) (hr : RowRd w ⟨A, n, c⟩ key) (hn2 : n ≤ 1000000000000) (hK : HasK w) (hF : HasF w) :
    Calls Tryz.prog 105 #[.slice A n c] w (OfPost w key) := by
  have hln : key.length = n := hr.len
  have hb0 : Below w.heap.size w ((w.alloc (.cells (bv (zer 64)).toArray 136)).alloc (.cells (bv (zer 64)).toArray 136)) := ((Below.refl _ _).alloc (Nat.le_refl _) _).alloc (by simp) _
  have hx0 := heap_alloc2_old w (.cells (bv (zer 64)).toArray 136) (.cells (bv (zer 64)).toArray 136)
  have hx1 := heap_alloc2_new w (.cells (bv (zer 64)).toArray 136) (.cells (bv (zer 64)).toArray 136)
  have hz2 : ((w.alloc (.cells (bv (zer 64)).toArray 136)).alloc (.cells (bv (zer 64)).toArray 136)).heap.size = w.heap.size + 2 := by simp
  have HB0 := Lib.hid hb0; have HX0 := Lib.hid hx0; have HX1 := Lib.hid hx1; have HZ2 := Lib.hid hz2
  have HK := Lib.hid (hK.below hb0); have HF := Lib.hid (hF.below hb0); have HR := Lib.hid (hr.below hb0); have HN := Lib.hid hln
  clear hK hF hr hln hb0 hx0 hx1 hz2
  by_cases h3 : 64 < n
  · have p : (64 : Int) < (n : Int) := by omega
    have hk2 : M.sum key = M.keyOf key := by unfold M.keyOf; rw [if_pos (by rw [HN.out]; exact h3)]
    have HK2 := Lib.hid hk2
    clear hk2
    go_enter Tryz.func105, Tryz.ntmps105
    go_wp2_with fail
    change Calls _ _ _ ((w.alloc (.cells (bv (zer 64)).toArray 136)).alloc (.cells (bv (zer 64)).toArray 136)) _
    generalize (w.alloc (.cells (bv (zer 64)).toArray 136)).alloc (.cells (bv (zer 64)).toArray 136) = w0 at *
    refine (Sum_any A n c key w0 HR.out.rd HR.out.len hn2 HK.out HF.out).mono ?_
    rintro e w1 ⟨g, cap, rfl, ho, hb⟩
    have hs0 : w.heap.size + 2 = w0.heap.size := HZ2.out.symm
    have HY0 := Lib.hid (Since.at hb HX0.out); have HY1 := Lib.hid (Since.at hb HX1.out); have HB1 := Lib.hid (HB0.out.trans (hb.mono HB0.out.size)); have HO := Lib.hid (RowRd.of_row ho)
    have HS0 := Lib.hid hs0
    clear ho hb hs0
    go_wp2_with (first
      | (refine wpList_copy_splice rfl (.tmp 9) (.tmp 10) 22 22 rfl 5 Tryz.underlying22 infoByteSize _ _ 64 64 32 cap rfl rfl (w.heap.size + 1) 0 (bv (zer 64)) 136 HY1.out (bv (M.sum key)) (by rw [bv_length]; rfl) (fun _ => ⟨rfl, _, rfl, HO.out.rd.cells _ rfl⟩) ?_ (bv_one _) (w.heap.size + 1) w1 (Below.refl _ _) (Nat.le_refl _) ?_)
      | fail)
    · rw [bv_length, bv_length, HK2.out]; have := M.keyOf_le key; simp [zer]; omega
    intro w2 hg2 hb2
    rw [bv_splice, HK2.out, block_of key _ rfl] at hg2
    have HG2 := Lib.hid (show w2.heap[w.heap.size + 1]? = some (.cells (bv (M.macBlock key)).toArray 136 (0, 0)) from hg2)
    have HY2 := Lib.hid ((hb2.block w.heap.size (by omega)).trans HY0.out); have HB2 := Lib.hid (HB1.out.trans (hb2.mono (by omega)))
    clear hg2 hb2
    go_wp2_with (first
      | (with_reducible refine wpList_load_row rfl 136 (.tmp 3) rfl (w.heap.size + 1) rfl 136 _ (0, 0) _ HG2.out Tryz.underlying136 rfl (infoBlk _ (M.macBlock_length key)) ?_)
      | (with_reducible refine wpList_store_row rfl 136 (.tmp 2) (.tmp 12) rfl w.heap.size (bv (M.macBlock key)).toArray rfl rfl 136 _ HY2.out (infoBlk _ (M.macBlock_length key)) (blk_size _ _ (M.macBlock_length key) (zer_length 64)) (bv_all _) ?_)
      | (with_reducible refine wpList_store_row rfl 136 (.tmp 2) (.tmp 12) rfl w.heap.size (bv (M.macBlock key)).toArray rfl rfl 136 _ HY2.out (infoBlk _ (M.macBlock_length key)) (blk_size _ _ (zer_length 64) (M.macBlock_length key)) (bv_all _) ?_))
    refine bodyPost_ret (v := .agg (bv (M.macBlock key)).toArray) ?_ ?_ ?_
    · exact results_cell_row rfl _ _ w.heap.size 136 _ (0, 0) _ rfl (setRow_heap _ _ _ _ _ _ HY2.out) Tryz.underlying136 rfl (infoBlk _ (M.macBlock_length key))
    · rfl
    · exact ⟨rfl, below_setRow HB2.out (Nat.le_refl _) _⟩
  · have p : ¬ (64 : Int) < (n : Int) := by omega
    have hk2 : key = M.keyOf key := by unfold M.keyOf; rw [if_neg (by rw [HN.out]; exact h3)]
    have HK2 := Lib.hid hk2
    clear hk2
    go_enter Tryz.func105, Tryz.ntmps105
    go_upto_region 4 with fail
    change Code.wp _ _ _ _ ((w.alloc (.cells (bv (zer 64)).toArray 136)).alloc (.cells (bv (zer 64)).toArray 136))
    generalize (w.alloc (.cells (bv (zer 64)).toArray 136)).alloc (.cells (bv (zer 64)).toArray 136) = w1 at *
    have HY0 := HX0; have HY1 := HX1; have HB1 := HB0
    have hsrc : 0 < (bv key).length → (some ⟨w.heap.size + 1, 0, none⟩ : Option Addr) = some ⟨w.heap.size + 1, 0, none⟩ ∧ ∃ ad, A = some ad ∧ ∀ j v, (bv key)[j]? = some v → w1.cell? (ad.add j) = some v := fun h => ⟨rfl, by
      rw [bv_length] at h
      obtain ⟨b, o, e, _, _⟩ := HR.out.rd.lay h
      exact ⟨_, e, HR.out.rd.cells _ e⟩⟩
    have HSRC := Lib.hid hsrc
    clear hsrc
    go_wp2_with (first
      | (refine wpList_copy_splice rfl (.tmp 9) (.tmp 10) 22 22 rfl 5 Tryz.underlying22 infoByteSize _ _ 64 64 n c rfl rfl (w.heap.size + 1) 0 (bv (zer 64)) 136 HY1.out (bv key) (by rw [bv_length, HN.out]; exact (Nat.min_eq_left (by omega)).symm) (fun hp => HSRC.out hp) ?_ (bv_one _) (w.heap.size + 1) w1 (Below.refl _ _) (Nat.le_refl _) ?_)
      | fail)
    · rw [bv_length, bv_length, zer_length, HN.out]; omega
    intro w2 hg2 hb2
    rw [bv_splice, block_of key key HK2.out] at hg2
    have HG2 := Lib.hid (show w2.heap[w.heap.size + 1]? = some (.cells (bv (M.macBlock key)).toArray 136 (0, 0)) from hg2)
    have HY2 := Lib.hid ((hb2.block w.heap.size (by omega)).trans HY0.out); have HB2 := Lib.hid (HB1.out.trans (hb2.mono (by omega)))
    clear hg2 hb2
    go_wp2_with (first
      | (with_reducible refine wpList_load_row rfl 136 (.tmp 3) rfl (w.heap.size + 1) rfl 136 _ (0, 0) _ HG2.out Tryz.underlying136 rfl (infoBlk _ (M.macBlock_length key)) ?_)
      | (with_reducible refine wpList_store_row rfl 136 (.tmp 2) (.tmp 12) rfl w.heap.size (bv (M.macBlock key)).toArray rfl rfl 136 _ HY2.out (infoBlk _ (M.macBlock_length key)) (blk_size _ _ (M.macBlock_length key) (zer_length 64)) (bv_all _) ?_)
      | (with_reducible refine wpList_store_row rfl 136 (.tmp 2) (.tmp 12) rfl w.heap.size (bv (M.macBlock key)).toArray rfl rfl 136 _ HY2.out (infoBlk _ (M.macBlock_length key)) (blk_size _ _ (zer_length 64) (M.macBlock_length key)) (bv_all _) ?_))
    refine bodyPost_ret (v := .agg (bv (M.macBlock key)).toArray) ?_ ?_ ?_
    · exact results_cell_row rfl _ _ w.heap.size 136 _ (0, 0) _ rfl (setRow_heap _ _ _ _ _ _ HY2.out) Tryz.underlying136 rfl (infoBlk _ (M.macBlock_length key))
    · rfl
    · exact ⟨rfl, below_setRow HB2.out (Nat.le_refl _) _⟩
def UnderPost (w : World) (bs : List (BitVec 8)) (e : Ending) (w' : World) : Prop := ∃ g, e = .returned (.slice (some ⟨g, 0, none⟩) 64 64) ∧ RowRd w' ⟨some ⟨g, 0, none⟩, 64, 64⟩ bs ∧ Below w.heap.size w w'
set_option maxHeartbeats 2000000 in
set_option maxRecDepth 100000 in
theorem under_any (bs : List (BitVec 8)) (x : BitVec 8) (w : World) (hl : bs.length = 64) :
    Calls Tryz.prog 108 #[.agg (bv bs).toArray, B8 x] w (UnderPost w (bs.map fun y => y ^^^ x)) := by
  have hb0 : Below w.heap.size w (w.alloc (.cells (bv bs).toArray 136)) := (Below.refl _ _).alloc (Nat.le_refl _) _
  have hx0 := heap_alloc_new w (.cells (bv bs).toArray 136)
  have HB0 := Lib.hid hb0; have HX0 := Lib.hid hx0; have HL := Lib.hid hl
  clear hb0 hx0 hl
  go_enter Tryz.func108, Tryz.ntmps108
  go_wp2
  go_loopw [6] (fun i wr => ∃ (k : Nat) (xs : List (BitVec 8)), k ≤ 64 ∧ i = .int .i64 (k : Int) ∧ xs.length = 64 ∧ wr.heap[w.heap.size]? = some (.cells (bv xs).toArray 136 (0, 0)) ∧ (∀ j, j < 64 → xs[j]? = if j < k then (bs[j]?).map (fun y => y ^^^ x) else bs[j]?) ∧ Below w.heap.size w wr) (fun i _ => 64 - (intOf i).toNat)
  case atStart => exact ⟨0, bs, by omega, rfl, HL.out, HX0.out, fun j _ => by simp, HB0.out⟩
  case round =>
    clear HX0 HB0
    obtain ⟨k, xs, hk, rfl, hxl, hblk, hxs, hb⟩ := hrel
    have k0 : (0 : Int) ≤ (k : Int) := by omega
    rcases Nat.lt_or_ge k 64 with h1 | h1
    · have i1 : (k : Int) < 64 := by omega
      have hc : wr.cell? ⟨w.heap.size, k, none⟩ = some (B8 (xs.getD k 0)) := block_cell hblk (by simp [bv, show k < xs.length by omega])
      have hf : wr.frozen? ⟨w.heap.size, k, none⟩ = false := frozen_of_row wr _ k _ _ hblk
      have HBK := Lib.hid (block_set hblk k (B8 (xs.getD k 0 ^^^ x))); have HXL := Lib.hid hxl; have HXS := Lib.hid hxs; have HB := Lib.hid (hb.setCell (p := ⟨w.heap.size, k, none⟩) (Nat.le_refl _) (B8 (xs.getD k 0 ^^^ x)))
      clear hblk hxl hxs hb
      go_wp2_with (with_reducible refine wpList_store_one rfl 5 (.tmp 14) (.tmp 13) rfl ⟨w.heap.size, k, none⟩ (B8 (xs.getD k 0 ^^^ x)) _ rfl rfl rfl (by kernel_rfl) hc hf ?_)
      go_roundw
      case rel =>
        refine ⟨k + 1, xs.set k (xs.getD k 0 ^^^ x), by omega, by go_num, by rw [List.length_set]; exact HXL.out, ?_, fun j hj => ?_, HB.out⟩
        · have e2 : bv (xs.set k (xs.getD k 0 ^^^ x)) = (bv xs).set k (B8 (xs.getD k 0 ^^^ x)) := by simp [bv]
          rw [e2]; exact HBK.out
        · have hq := HXS.out j hj
          by_cases e : j = k
          · subst e
            rw [List.getElem?_set_self (by have := HXL.out; omega), if_pos (by omega)]
            rw [if_neg (by omega)] at hq
            rw [← hq, List.getElem?_eq_getElem (by have := HXL.out; omega)]
            simp [show j < xs.length by have := HXL.out; omega]
          · rw [List.getElem?_set_ne (Ne.symm e), hq]
            by_cases h2 : j < k
            · rw [if_pos h2, if_pos (by omega)]
            · rw [if_neg h2, if_neg (by omega)]
      case measure => simp [intOf]; omega
    · have i1 : ¬ (k : Int) < 64 := by omega
      have he : xs = bs.map fun y => y ^^^ x := by
        apply List.ext_getElem?
        intro j
        by_cases hj : j < 64
        · rw [hxs j hj, if_pos (by omega), List.getElem?_map]
        · rw [List.getElem?_eq_none (by omega), List.getElem?_eq_none (by rw [List.length_map, HL.out]; omega)]
      rw [he] at hblk
      have HO := Lib.hid (show RowRd wr ⟨some ⟨w.heap.size, 0, none⟩, 64, 64⟩ (bs.map fun y => y ^^^ x) from ⟨Rd.of_block hblk (by rw [List.toList_toArray, List.take_of_length_le (by rw [bv_length]; exact Nat.le_refl _)]), by rw [List.length_map, HL.out], fun h => by cases h⟩); have HB := Lib.hid hb
      clear hblk hxl hxs hb he
      go_wp2
      go_ret
      exact ⟨w.heap.size, rfl, HO.out, HB.out⟩
end Go.Proofs.YtidcfjmibljkeaaGreatDoor.K

/- The contract of mac.digest, and of a tag's closure. -/
namespace Go.Proofs.YtidcfjmibljkeaaGreatDoor.K
open Go Go.RowKit

set_option maxHeartbeats 1000000 in
set_option maxRecDepth 100000 in
theorem digest_any (S : Option Addr) (m cS : Nat) (r : Nat → Rw) (f : Nat → List (BitVec 8)) (w : World) (hp : Parts w S m r f) (hm : m ≤ 1000000) (hN : (joined f m).length ≤ 1000000000000) (hK : HasK w) (hF : HasF w) :
    Calls Tryz.prog 107 #[.slice S m cS] w fun e w' => ∃ g cap, e = .returned (.slice (some ⟨g, 0, none⟩) 32 cap) ∧ w'.ownsRow w.heap.size 5 1 (.slice (some ⟨g, 0, none⟩) 32 cap) 32 (bv (M.sum (joined f m))) ∧ Below w.heap.size w w' := by
  obtain ⟨i0, hi, hz0, hz1, hz2⟩ := info_parts infoByte
  have HP := Lib.hid hp; have HN := Lib.hid hN; have HK := Lib.hid hK; have HF := Lib.hid hF
  clear hp hN hK hF
  go_enter Tryz.func107, Tryz.ntmps107
  go_wp2
  go_loopw [3, 5, 8] (fun v _ i wr => ∃ (k N c : Nat) (A : Option Addr), k ≤ m ∧ i = .int .i64 (k : Int) ∧ v = .slice A N c ∧ N = (joined f k).length ∧ wr.ownsRow w.heap.size 5 1 v N (bv (joined f k)) ∧ Below w.heap.size w wr) (fun _ _ i _ => m - (intOf i).toNat)
  case atStart => exact ⟨0, 0, 0, none, by omega, rfl, rfl, rfl, World.ownsRow_nil _ _ _ _, Below.refl _ _⟩
  case round =>
    obtain ⟨k, N, c, A, hk, rfl, rfl, hNk, hown, hb⟩ := hrel
    have k0 : (0 : Int) ≤ (k : Int) := by omega
    have HO := Lib.hid hown; have HNK := Lib.hid hNk
    have hNb : N ≤ 100000000000000 := by have := joined_le f hk; have := HN.out; omega
    clear hown hNk
    rcases Nat.lt_or_ge k m with h1 | h1
    · have i1 : (k : Int) < (m : Int) := by omega
      obtain ⟨⟨b, o, rfl, hc⟩, hrd, hln, hnn⟩ := (HP.out.below hb) k h1
      obtain ⟨A2, n2, c2, hr⟩ : ∃ A n c, r k = ⟨A, n, c⟩ := ⟨_, _, _, rfl⟩
      rw [hr] at hc hrd hln hnn
      have hc' : wr.cell? ⟨b, o + k, none⟩ = some (.slice A2 n2 c2) := hc
      have hl2 : (bv (f k)).length = n2 * 1 := by rw [bv_length, hln]; show n2 = _; omega
      have hcs := hrd.cells
      have hnn2 : A2 = none → n2 = 0 ∧ c2 = 0 := fun h => ⟨by
        have h' : (⟨A2, n2, c2⟩ : Rw).A = none := h
        rw [h'] at hrd
        rw [hrd.empty] at hln; exact hln.symm, hnn h⟩
      have hNt : N + n2 ≤ 100000000000000 := by
        have := joined_le f (show k + 1 ≤ m by omega)
        rw [joined, List.length_append, hln] at this
        have h' : (⟨A2, n2, c2⟩ : Rw).n = n2 := rfl
        have := HNK.out; have := HN.out; omega
      have HL2 := Lib.hid hl2; have HCS := Lib.hid hcs; have HNN := Lib.hid hnn2; have HLN := Lib.hid hln
      clear hc hrd hln hnn hr hl2 hcs hnn2
      go_wp2_with (at_builtin; refine wpList_append_any _ rfl _ _ 22 rfl w.heap.size 5 i0 (.int .u8 0) 1 1 Tryz.underlying22 hi hz0 hz1 hz2 rfl (by decide) _ N (bv (joined f k)) rfl HO.out A2 n2 c2 (bv (f k)) rfl HNN.out HL2.out HCS.out (bv_one _) (by unfold maxLen; omega) (by omega) hb.size ?_; intro v3 w3 hown3 hgrow3; rw [← bv_append] at hown3; obtain ⟨B3, d3, rfl⟩ := row_slice hown3; have hb3 : Below w.heap.size w w3 := hb.grown hgrow3 hb.size (fun k hk => (HO.out.lt k hk).1); have HB3 := Lib.hid hb3; have HO3 := Lib.hid hown3; clear hb3 hown3 hgrow3)
      go_roundw
      case rel =>
        refine ⟨k + 1, N + n2, d3, B3, by omega, by go_num, rfl, ?_, HO3.out, HB3.out⟩
        rw [joined, List.length_append, ← HNK.out, HLN.out]
      case measure => simp [intOf]; omega
    · have i1 : ¬ (k : Int) < (m : Int) := by omega
      have hkm : k = m := by omega
      have o := HO.out
      have hn := HNK.out
      rw [hkm] at o hn
      have hN12 : N ≤ 1000000000000 := by have := HN.out; omega
      have HR2 := Lib.hid (RowRd.of_row o); have HB := Lib.hid hb
      clear hkm o hn hb
      go_wp2_with fail
      refine (Sum_any A N c (joined f m) wr HR2.out.rd HR2.out.len hN12 (HK.out.below HB.out) (HF.out.below HB.out)).mono ?_
      rintro e w1 ⟨g, cap, rfl, ho, hb⟩
      have HO2 := Lib.hid (row_base ho HB.out.size); have HB2 := Lib.hid (HB.out.trans (hb.mono HB.out.size))
      clear ho hb
      go_wp2
      go_ret
      exact ⟨g, cap, rfl, HO2.out, HB2.out⟩
/-- a digest of a literal list -/
theorem digest_lit (l : List RB) (w : World) (cs : Array Value) (k c : Nat) (hcs : cs = (l.map fun p => p.1.v).toArray) (hk : k = l.length) (hl : ∀ p ∈ l, RowRd w p.1 p.2) (hm : l.length ≤ 1000) (hN : (flat l).length ≤ 1000000000000) (hK : HasK w) (hF : HasF w) :
    Calls Tryz.prog 107 #[.slice (some ⟨w.heap.size, 0, none⟩) k c] (w.alloc (.cells cs 22)) (Made (w.alloc (.cells cs 22)) (M.sum (flat l))) := by
  subst hcs hk
  have hj : joined (bytesAt l) l.length = flat l := joined_all l
  have hal := (Below.refl w.heap.size w).alloc (Nat.le_refl _) (.cells (l.map fun p => p.1.v).toArray 22)
  refine (digest_any _ l.length c (rowsOf l) (bytesAt l) _ (parts_of l rfl hl) (by omega) (by rw [hj]; exact hN) (hK.below hal) (hF.below hal)).mono ?_
  rintro e w' ⟨g, cap, he, ho, hb⟩
  rw [hj] at ho
  exact ⟨g, 32, cap, he, rfl, ho, hb⟩
end Go.Proofs.YtidcfjmibljkeaaGreatDoor.K
