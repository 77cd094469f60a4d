/- Merged: LetMust, WireNum, WireJoin, WireBytes, KitEntry, EntRows, LetCheck, LetKinds, LetChk, LetTried. -/
import Derived.Test.YtdmpphioflcofaaLq3
import Derived.WalkLawsBesides
import Derived.Deep.RegionLaw
import Derived.Maps.Own
import Derived.Laws.Pointers
/- The contracts of letter's must, within and bare. -/
namespace Go.Proofs.Ytdmpphioflcofaa.K
open Go Go.RowKit

def wrongP : List PanicEntry := [{ v := .iface 90 (.agg #[]), recovered := false }]
/-- nothing is told, or a wrong is panicked with -/
def MustPost (w : World) (ok : Bool) (e : Ending) (w' : World) : Prop := (ok = true ∧ e = .returned (.tuple #[]) ∧ Since w w') ∨ (ok = false ∧ e = .panicked wrongP ∧ Since w w')
theorem MustPost.from {w w1 w' : World} {ok : Bool} {e : Ending} (hs : Since w w1) (h : MustPost w1 ok e w') : MustPost w ok e w' :=
  h.imp (fun ⟨a, b, c⟩ => ⟨a, b, hs.add c⟩) fun ⟨a, b, c⟩ => ⟨a, b, hs.add c⟩
theorem take_all {α : Type} {p : α → Bool} {l : List α} {k : Nat} (hk : k < l.length) (h : (l.take k).all p = true) (hx : p l[k] = true) : (l.take (k + 1)).all p = true := by
  rw [List.take_succ_eq_append_getElem hk, List.all_append, h]
  simp [hx]
theorem all_false {α : Type} {p : α → Bool} {l : List α} {k : Nat} (hk : k < l.length) (hx : p l[k] = false) : l.all p = false := by
  rw [List.all_eq_false]
  exact ⟨l[k], List.getElem_mem _, by rw [hx]; simp⟩
set_option maxHeartbeats 1000000 in
set_option maxRecDepth 100000 in
theorem must_any (A : Option Addr) (n c : Nat) (bs : List Bool) (w : World) (hl : bs.length = n) (hA : ∀ k, (h : k < bs.length) → ∃ b o, A = some ⟨b, o, none⟩ ∧ w.cell? ⟨b, o + k, none⟩ = some (.bool bs[k])) (hn : n ≤ 1000000) :
    Calls Try.prog 46 #[.slice A n c] w (MustPost w (bs.all id)) := by
  have HA := Lib.hid hA; have HL := Lib.hid hl
  clear hA hl
  go_enter Try.func46, Try.ntmps46
  go_wp2
  go_loop [6] (fun i => ∃ k : Nat, k ≤ n ∧ i = .int .i64 (k : Int) ∧ (bs.take k).all id = true) (fun i => n - (intOf i).toNat)
  case atStart => exact ⟨0, by omega, rfl, rfl⟩
  case round =>
    obtain ⟨k, hk, rfl, hall⟩ := hrel
    have HALL := Lib.hid hall
    clear hall
    have k0 : (0 : Int) ≤ (k : Int) := by omega
    by_cases hkn : k < n
    · have i1 : (k : Int) < (n : Int) := by omega
      have hkl : k < bs.length := by rw [HL.out]; exact hkn
      obtain ⟨b, o, rfl, hc⟩ := HA.out k hkl
      obtain ⟨x, hx⟩ : ∃ x, x = bs[k] := ⟨_, rfl⟩
      rw [← hx] at hc
      have HX := Lib.hid hx
      clear hx
      cases x
      · have HFIN := Lib.hid (show MustPost w (bs.all id) (.panicked wrongP) w from .inr ⟨all_false hkl HX.out.symm, rfl, Below.refl _ _⟩)
        go_wp2
        exact ⟨rfl, HFIN.out⟩
      · go_wp2
        go_round
        case rel => exact ⟨k + 1, by omega, by go_num, take_all hkl HALL.out HX.out.symm⟩
        case measure => simp [intOf]; omega
    · have i1 : ¬ (k : Int) < (n : Int) := by omega
      have HK := Lib.hid (show k = bs.length by rw [HL.out]; omega)
      go_wp2
      go_end0
      refine .inl ⟨?_, rfl, Below.refl _ _⟩
      have := HALL.out
      rwa [HK.out, List.take_length] at this
/-- a literal slice of truths -/
theorem must_lit (X : Nat) (bs : List Bool) (k c : Nat) (cs : Array Value) (t : TypeId) (w : World) (hX : w.heap.size = X) (hcs : cs = (bs.map Value.bool).toArray) (hk : bs.length = k) (hn : k ≤ 1000000) :
    Calls Try.prog 46 #[.slice (some ⟨X, 0, none⟩) k c] (w.alloc (.cells cs t)) (MustPost w (bs.all id)) := by
  subst hcs hk hX
  refine (must_any _ bs.length c bs _ rfl (fun k h => ⟨w.heap.size, 0, rfl, ?_⟩) hn).mono fun e w' h => h.from (Since.alloc (Below.refl _ _) _)
  rw [World.cell?_alloc_new, Nat.zero_add]
  simp [h]
set_option maxHeartbeats 1000000 in
set_option maxRecDepth 100000 in
theorem within_any (n a b : Int) (w : World) : Calls Try.prog 47 #[.int .i64 n, .int .i64 a, .int .i64 b] w (MustPost w (M.wi n a b)) := by
  go_enter Try.func47, Try.ntmps47
  go_wp2_with fail
  refine (must_lit w.heap.size [decide (a ≤ n), decide (n ≤ b)] 2 2 _ _ w rfl rfl rfl (by omega)).mono ?_
  rintro e w2 (⟨h, rfl, hs⟩ | ⟨h, rfl, hs⟩)
  · have HFIN := Lib.hid (show MustPost w (M.wi n a b) (.returned (.tuple #[])) w2 from .inl ⟨by unfold M.wi; simpa using h, rfl, hs⟩)
    clear h hs
    go_wp2
    go_end0
    exact HFIN.out
  · have HFIN := Lib.hid (show MustPost w (M.wi n a b) (.panicked wrongP) w2 from .inr ⟨by unfold M.wi; simpa using h, rfl, hs⟩)
    clear h hs
    go_wp2
    exact ⟨rfl, HFIN.out⟩
end Go.Proofs.Ytdmpphioflcofaa.K

/- The contracts of wire.Number and of the reference's. -/
namespace Go.Proofs.Ytdmpphioflcofaa.K
open Go Go.RowKit

theorem made8 {w : World} {base : Nat} {e : TypeId} {v : Value} {n : Nat} (h : w.ownsRow base e 1 v n (madeCells (Value.int .u8 0).cells (n * 1)).toList) : w.ownsRow base e 1 v n (bv (List.replicate n 0#8)) := by
  have e1 : (madeCells (Value.int .u8 0).cells (n * 1)).toList = bv (List.replicate n 0#8) := by
    rw [show (Value.int IntKind.u8 0).cells = #[Value.int .u8 0] from rfl, Nat.mul_one, toList_madeCells_one]
    simp [bv, B8]
  rw [e1] at h; exact h
theorem num_at (n : Int) (j : Nat) (h : j < 8) : (M.num n)[j]? = some (M.byteOf n (7 - j)) := by simp [M.num, h]
theorem byte_val (n : Int) (k : Nat) (h : k < 8) : Value.int .u8 (n / 2 ^ (8 * k) % 256) = B8 (M.byteOf n k) := by rw [B8, M.byteOf_int n k h]

set_option maxHeartbeats 1000000 in
set_option maxRecDepth 100000 in
theorem wnum_any (n : Int) (w : World) :
    Calls Try.prog 39 #[.int .i64 n] w fun e w' => ∃ g, e = .returned (.slice (some ⟨g, 0, none⟩) 8 8) ∧ w'.ownsRow w.heap.size 5 1 (.slice (some ⟨g, 0, none⟩) 8 8) 8 (bv (M.num n)) ∧ Below w.heap.size w w' := by
  obtain ⟨i0, hi, hz0, hz1, hz2⟩ := info_parts infoByte
  go_enter Try.func39, Try.ntmps39
  go_wp2_with (at_make; refine wpList_make_full _ rfl _ _ 29 rfl w.heap.size 5 i0 (.int .u8 0) 1 Try.underlying29 hi hz0 hz1 _ _ _ _ 8 rfl rfl rfl rfl (by rw [hz2]; omega) (by unfold maxLen; omega) (Nat.le_refl _) ?_; intro w1 hown1 hgrow1)
  have hb1 := (Below.refl w.heap.size w).grown hgrow1 (Nat.le_refl _) (by simp)
  have hlt := (hown1.lt _ rfl).2
  go_loopw [4, 8] (fun _ i wr => ∃ (k : Nat) (bs : List (BitVec 8)), k ≤ 8 ∧ i = .int .i64 (k : Int) ∧ wr.ownsRow w.heap.size 5 1 (.slice (some ⟨w.heap.size, 0, none⟩) 8 8) 8 (bv bs) ∧ (∀ j, j < 8 → 7 - j < k → bs[j]? = (M.num n)[j]?) ∧ Below w.heap.size w wr) (fun _ i _ => 8 - (intOf i).toNat)
  case atStart => exact ⟨0, List.replicate 8 0#8, by omega, rfl, made8 hown1, fun j _ h => by omega, hb1⟩
  case round =>
    clear hown1 hb1 hgrow1
    obtain ⟨k, bs, hk, rfl, hown, hbs, hb⟩ := hrel
    have k0 : (0 : Int) ≤ (k : Int) := by omega
    rcases Nat.lt_or_ge k 8 with h1 | h1
    · have i1 : (k : Int) < 8 := by omega
      have hl : bs.length = 8 := by have := hown.1; rw [bv_length] at this; omega
      have hc : wr.cell? ⟨w.heap.size, 7 - k, none⟩ = some (B8 (bs.getD (7 - k) 0)) := by
        rw [hown.cellAt (7 - k) (by omega)]; simp [bv, hl, show 7 - k < 8 by omega]
      have hf := hown.frozenAt (7 - k)
      have hst := (hown.stored (7 - k) (B8 (M.byteOf n k))).1
      have hb2 := hb.setCell (p := ⟨w.heap.size, 7 - k, none⟩) (Nat.le_refl _) (B8 (M.byteOf n k))
      have HST := Lib.hid hst; have HB2 := Lib.hid hb2; have HBS := Lib.hid hbs; have HL := Lib.hid hl
      clear hst hb2 hbs hown hb hl
      go_wp2_with (with_reducible refine wpList_store_one rfl 5 (.tmp 19) (.tmp 18) rfl ⟨w.heap.size, 7 - k, none⟩ (.int .u8 (n / 2 ^ (8 * k) % 256)) _ rfl rfl rfl (by kernel_rfl) hc hf ?_)
      rw [byte_val n k h1]
      go_roundw
      case rel =>
        refine ⟨k + 1, bs.set (7 - k) (M.byteOf n k), by omega, by go_num, ?_, fun j hj hjk => ?_, HB2.out⟩
        · have e2 : bv (bs.set (7 - k) (M.byteOf n k)) = (bv bs).set (7 - k) (B8 (M.byteOf n k)) := by simp [bv]
          rw [e2]; exact HST.out
        · by_cases e : j = 7 - k
          · subst e
            rw [List.getElem?_set_self (by have := HL.out; omega), num_at _ _ hj]
            congr 2; omega
          · rw [List.getElem?_set_ne (Ne.symm e)]; exact HBS.out j hj (by omega)
      case measure => simp [intOf]; omega
    · have i1 : ¬ (k : Int) < 8 := by omega
      have he : bs = M.num n := by
        have hl : bs.length = 8 := by have := hown.1; rw [bv_length] at this; omega
        apply List.ext_getElem?
        intro j
        by_cases hj : j < 8
        · exact hbs j hj (by omega)
        · rw [List.getElem?_eq_none (by omega), List.getElem?_eq_none (by rw [M.num_length]; omega)]
      rw [he] at hown
      have HO := Lib.hid hown
      clear hown hbs he
      go_wp2
      go_ret
      exact ⟨w.heap.size, rfl, HO.out, hb⟩

theorem num_grow (n : Int) (k : Nat) (h : k < 8) : bv ((M.num n).take k) ++ [B8 (M.byteOf n (7 - k))] = bv ((M.num n).take (k + 1)) := by
  rw [List.take_add_one, num_at n k h, bv_append]; rfl
theorem conv_int_W64 {P : Program} (w : World) (src dst : TypeId) (n : Int) (hs : P.underlying src = some (.int .i64)) (hd : P.underlying dst = some (.int .u64)) : (convert src dst (.int .i64 n)).run P w = .ok (W64 (BitVec.ofInt 64 n)) w := by
  have h : IntKind.u64.wrap n = ((BitVec.ofInt 64 n).toNat : Int) := by
    rw [wrap_u64', BitVec.toNat_ofInt]; omega
  simp [convert, run_underlying hs, run_underlying hd, Conv.intToInt, W64, h]

set_option maxHeartbeats 1000000 in
set_option maxRecDepth 100000 in
theorem rnum_any (n : Int) (w : World) :
    Calls Try.prog 24 #[.int .i64 n] w fun e w' => ∃ g c, e = .returned (.slice (some ⟨g, 0, none⟩) 8 c) ∧ w'.ownsRow w.heap.size 5 1 (.slice (some ⟨g, 0, none⟩) 8 c) 8 (bv (M.num n)) ∧ Below w.heap.size w w' := by
  obtain ⟨i0, hi, hz0, hz1, hz2⟩ := info_parts infoByte
  have hcv := fun w => conv_int_W64 (P := Try.prog) w 3 88 n Try.underlying3 Try.underlying88
  go_enter Try.func24, Try.ntmps24
  go_wp2
  go_loopw [3, 4] (fun v i wr => ∃ (k m c : Nat) (A : Option Addr), k ≤ 8 ∧ i = .int .i64 (7 - (k : Int)) ∧ v = .slice A m c ∧ m = k ∧ wr.ownsRow w.heap.size 5 1 v m (bv ((M.num n).take k)) ∧ Below w.heap.size w wr) (fun _ i _ => (intOf i + 1).toNat)
  case atStart => exact ⟨0, 0, 0, none, by omega, rfl, rfl, rfl, World.ownsRow_nil _ _ _ _, Below.refl _ _⟩
  case round =>
    obtain ⟨k, m, c, A, hk, rfl, rfl, hm, hown, hb⟩ := hrel
    have HM := Lib.hid hm; have HO := Lib.hid hown
    have hm8 : m ≤ 8 := by omega
    clear hm hown
    rcases Nat.lt_or_ge k 8 with h1 | h1
    · obtain ⟨q, hq⟩ : ∃ q, q = 7 - k := ⟨_, rfl⟩
      have ek : (7 - (k : Int)) = (q : Int) := by omega
      have q7 : q ≤ 7 := by omega
      have q0 : (0 : Int) ≤ (q : Int) := by omega
      have q8 : (0 : Int) ≤ 8 * (q : Int) := by omega
      have t8 : (8 * (q : Int)).toNat = 8 * q := by omega
      rw [ek]
      have HQ := Lib.hid hq; have EK := Lib.hid ek
      clear hq ek
      have hsz := hb.size
      go_wp2_with (at_builtin; refine wpList_append_own _ rfl _ _ 29 rfl w.heap.size 5 i0 (.int .u8 0) 1 1 Try.underlying29 hi hz0 hz1 hz2 rfl (by decide) _ _ _ rfl (HO.out.alloc _) ⟨wr.heap.size, 0, none⟩ 1 1 [B8 ((BitVec.ofInt 64 n >>> (8 * q)).setWidth 8)] rfl rfl (cell_last _ _ _) (by intro x hx; simp at hx; subst hx; rfl) (by unfold maxLen; omega) (by omega) (by simp; omega) ?_; intro v3 w3 hown3 hgrow3 _)
      have hb3 : Below w.heap.size w w3 := (hb.alloc hb.size _).grown hgrow3 (by simp; omega) (fun k' hk' => (HO.out.lt k' hk').1)
      obtain ⟨g3, c3, rfl, _, _⟩ := hown3.form (Nat.succ_pos _)
      have HO3 := Lib.hid hown3
      clear hgrow3 hown3
      go_roundw
      case rel =>
        refine ⟨k + 1, m + 1, c3, some ⟨g3, 0, none⟩, by omega, by have := EK.out; go_num, rfl, by have := HM.out; omega, ?_, hb3⟩
        have o := HO3.out
        rw [show (BitVec.ofInt 64 n >>> (8 * q)).setWidth 8 = M.byteOf n (7 - k) by rw [← HQ.out]; rfl, num_grow n k h1] at o
        exact o
      case measure => simp [intOf]
    · have i1 : ¬ (0 : Int) ≤ 7 - (k : Int) := by omega
      have i2 : ¬ (k : Int) ≤ 7 := by omega
      have hk8 : k = 8 := by omega
      have hm8' : m = 8 := by have := HM.out; omega
      have o := HO.out
      rw [hk8, hm8'] at o
      obtain ⟨g, c', e, hg1, hg2⟩ := o.form (by omega)
      simp only [Value.slice.injEq, true_and] at e
      obtain ⟨rfl, rfl⟩ := e
      have O2 := Lib.hid o; have HM8 := Lib.hid hm8'
      clear o hk8 hm8' HO
      go_wp2
      go_ret
      exact ⟨g, c, by rw [← HM8.out]; rfl, O2.out, hb⟩
end Go.Proofs.Ytdmpphioflcofaa.K

/- The contracts of wire.Join and wire.Bytes, and of the reference's Bytes. -/
namespace Go.Proofs.Ytdmpphioflcofaa.K
open Go Go.RowKit

set_option maxHeartbeats 1000000 in
set_option maxRecDepth 100000 in
theorem join_any (S : Option Addr) (m cS : Nat) (r : Nat → Rw) (f : Nat → List (BitVec 8)) (w : World) (hp : Parts w S m r f) (hm : m ≤ 1000000) (hN : (joined f m).length ≤ 100000000000000) :
    Calls Try.prog 40 #[.slice S m cS] w fun e w' => ∃ A N c, e = .returned (.slice A N c) ∧ N = (joined f m).length ∧ w'.ownsRow w.heap.size 5 1 (.slice A N c) N (bv (joined f m)) ∧ Below w.heap.size w w' := by
  obtain ⟨i0, hi, hz0, hz1, hz2⟩ := info_parts infoByte
  have HP := Lib.hid hp; have HN := Lib.hid hN
  clear hp hN
  go_enter Try.func40, Try.ntmps40
  go_wp2
  go_loopw [3, 5, 8] (fun v _ i wr => ∃ (k N c : Nat) (A : Option Addr), k ≤ m ∧ i = .int .i64 (k : Int) ∧ v = .slice A N c ∧ N = (joined f k).length ∧ wr.ownsRow w.heap.size 5 1 v N (bv (joined f k)) ∧ Below w.heap.size w wr) (fun _ _ i _ => m - (intOf i).toNat)
  case atStart => exact ⟨0, 0, 0, none, by omega, rfl, rfl, rfl, World.ownsRow_nil _ _ _ _, Below.refl _ _⟩
  case round =>
    obtain ⟨k, N, c, A, hk, rfl, rfl, hNk, hown, hb⟩ := hrel
    have k0 : (0 : Int) ≤ (k : Int) := by omega
    have HO := Lib.hid hown; have HNK := Lib.hid hNk
    have hNb : N ≤ 100000000000000 := by have := joined_le f hk; have := HN.out; omega
    clear hown hNk
    rcases Nat.lt_or_ge k m with h1 | h1
    · have i1 : (k : Int) < (m : Int) := by omega
      obtain ⟨⟨b, o, rfl, hc⟩, hrd, hln, hnn⟩ := (HP.out.below hb) k h1
      obtain ⟨A2, n2, c2, hr⟩ : ∃ A n c, r k = ⟨A, n, c⟩ := ⟨_, _, _, rfl⟩
      rw [hr] at hc hrd hln hnn
      have hc' : wr.cell? ⟨b, o + k, none⟩ = some (.slice A2 n2 c2) := hc
      have hl2 : (bv (f k)).length = n2 * 1 := by rw [bv_length, hln]; show n2 = _; omega
      have hcs := hrd.cells
      have hnn2 : A2 = none → n2 = 0 ∧ c2 = 0 := fun h => ⟨by
        have h' : (⟨A2, n2, c2⟩ : Rw).A = none := h
        rw [h'] at hrd
        rw [hrd.empty] at hln; exact hln.symm, hnn h⟩
      have hNt : N + n2 ≤ 100000000000000 := by
        have := joined_le f (show k + 1 ≤ m by omega)
        rw [joined, List.length_append, hln] at this
        have h' : (⟨A2, n2, c2⟩ : Rw).n = n2 := rfl
        have := HNK.out; have := HN.out; omega
      have HL2 := Lib.hid hl2; have HCS := Lib.hid hcs; have HNN := Lib.hid hnn2; have HLN := Lib.hid hln
      clear hc hrd hln hnn hr hl2 hcs hnn2
      go_wp2_with (at_builtin; refine wpList_append_any _ rfl _ _ 29 rfl w.heap.size 5 i0 (.int .u8 0) 1 1 Try.underlying29 hi hz0 hz1 hz2 rfl (by decide) _ N (bv (joined f k)) rfl HO.out A2 n2 c2 (bv (f k)) rfl HNN.out HL2.out HCS.out (bv_one _) (by unfold maxLen; omega) (by omega) hb.size ?_; intro v3 w3 hown3 hgrow3; rw [← bv_append] at hown3; obtain ⟨B3, d3, rfl⟩ := row_slice hown3; have hb3 : Below w.heap.size w w3 := hb.grown hgrow3 hb.size (fun k hk => (HO.out.lt k hk).1); have HB3 := Lib.hid hb3; have HO3 := Lib.hid hown3; clear hb3 hown3 hgrow3)
      go_roundw
      case rel =>
        refine ⟨k + 1, N + n2, d3, B3, by omega, by go_num, rfl, ?_, HO3.out, HB3.out⟩
        rw [joined, List.length_append, ← HNK.out, HLN.out]
      case measure => simp [intOf]; omega
    · have i1 : ¬ (k : Int) < (m : Int) := by omega
      have hkm : k = m := by omega
      have o := HO.out
      have hn := HNK.out
      rw [hkm] at o hn
      have HO2 := Lib.hid o; have HN2 := Lib.hid hn
      clear hkm o hn
      go_wp2
      go_ret
      exact ⟨A, N, c, rfl, HN2.out, HO2.out, hb⟩
end Go.Proofs.Ytdmpphioflcofaa.K

/- The contracts of wire.Bytes and of the reference's Bytes. -/
namespace Go.Proofs.Ytdmpphioflcofaa.K
open Go Go.RowKit

abbrev twoRows (x y : Rw) (bx by' : List (BitVec 8)) : List (Rw × List (BitVec 8)) := [(x, bx), (y, by')]
set_option maxHeartbeats 1000000 in
set_option maxRecDepth 100000 in
theorem wbytes_any (A : Option Addr) (n c : Nat) (bs : List (BitVec 8)) (w : World) (hr : RowRd w ⟨A, n, c⟩ bs) (hn2 : n ≤ 10000000000000) :
    Calls Try.prog 42 #[.slice A n c] w fun e w' => ∃ g N c', e = .returned (.slice (some ⟨g, 0, none⟩) N c') ∧ N = 8 + n ∧ w'.ownsRow w.heap.size 5 1 (.slice (some ⟨g, 0, none⟩) N c') N (bv (M.blob bs)) ∧ Below w.heap.size w w' := by
  have HR := Lib.hid hr
  have hlen : bs.length = n := hr.len
  have HLEN := Lib.hid hlen
  clear hr hlen
  go_enter Try.func42, Try.ntmps42
  go_wp2_with fail
  refine (wnum_any (n : Int) w).mono ?_
  rintro e w1 ⟨g, rfl, ho1, hb1⟩
  have HO1 := Lib.hid ho1; have HB1 := Lib.hid hb1
  clear ho1 hb1
  go_wp2_with fail
  have hl : M.blob bs = (List.map (·.2) (twoRows ⟨some ⟨g, 0, none⟩, 8, 8⟩ ⟨A, n, c⟩ (M.num (n : Int)) bs)).flatten := by
    simp [M.blob, HLEN.out]
  refine (join_any (some ⟨w1.heap.size, 0, none⟩) 2 2 (rowsOf (twoRows ⟨some ⟨g, 0, none⟩, 8, 8⟩ ⟨A, n, c⟩ (M.num (n : Int)) bs)) (bytesAt (twoRows ⟨some ⟨g, 0, none⟩, 8, 8⟩ ⟨A, n, c⟩ (M.num (n : Int)) bs)) _ (parts_of (twoRows ⟨some ⟨g, 0, none⟩, 8, 8⟩ ⟨A, n, c⟩ (M.num (n : Int)) bs) rfl ?_) (by omega) ?_).mono ?_
  · intro p hp
    simp only [List.mem_cons, List.mem_nil_iff, or_false] at hp
    rcases hp with rfl | rfl
    · exact RowRd.of_row HO1.out
    · exact HR.out.below HB1.out
  · rw [show (2 : Nat) = (twoRows ⟨some ⟨g, 0, none⟩, 8, 8⟩ ⟨A, n, c⟩ (M.num (n : Int)) bs).length from rfl, joined_all, ← hl, M.blob_length, HLEN.out]; omega
  · rintro e w2 ⟨A2, N, c2, rfl, hN, ho2, hb2⟩
    rw [show (2 : Nat) = (twoRows ⟨some ⟨g, 0, none⟩, 8, 8⟩ ⟨A, n, c⟩ (M.num (n : Int)) bs).length from rfl, joined_all, ← hl] at hN ho2
    rw [M.blob_length, HLEN.out] at hN
    obtain ⟨g2, c3, e, _, _⟩ := ho2.form (by omega)
    simp only [Value.slice.injEq, true_and] at e
    obtain ⟨rfl, rfl⟩ := e
    have ho3 := row_weaken ho2 (base' := w.heap.size) (by have := HB1.out.size; simp; omega)
    have hb3 := (HB1.out.alloc HB1.out.size (.cells #[.slice (some ⟨g, 0, none⟩) 8 8, .slice A n c] 29)).trans (hb2.mono (by have := HB1.out.size; simp; omega))
    have HN := Lib.hid hN; have HO3 := Lib.hid ho3; have HB3 := Lib.hid hb3
    clear hl hN ho2 ho3 hb2 hb3
    go_wp2
    go_ret
    exact ⟨g2, N, c2, rfl, HN.out, HO3.out, HB3.out⟩

set_option maxHeartbeats 1000000 in
set_option maxRecDepth 100000 in
theorem rbytes_any (A : Option Addr) (n c : Nat) (bs : List (BitVec 8)) (w : World) (hr : RowRd w ⟨A, n, c⟩ bs) (hn2 : n ≤ 10000000000000) :
    Calls Try.prog 43 #[.slice A n c] w fun e w' => ∃ g N c', e = .returned (.slice (some ⟨g, 0, none⟩) N c') ∧ N = 8 + n ∧ w'.ownsRow w.heap.size 5 1 (.slice (some ⟨g, 0, none⟩) N c') N (bv (M.blob bs)) ∧ Below w.heap.size w w' := by
  obtain ⟨i0, hi, hz0, hz1, hz2⟩ := info_parts infoByte
  have hlen : bs.length = n := hr.len
  have hl2 : (bv bs).length = n * 1 := by rw [bv_length]; omega
  have hnn : A = none → n = 0 ∧ c = 0 := fun h => ⟨by
    have hrd : Rd w A bs := hr.rd
    rw [h] at hrd
    rw [hrd.empty] at hlen; exact hlen.symm, hr.none h⟩
  have HR := Lib.hid hr; have HLEN := Lib.hid hlen; have HL2 := Lib.hid hl2; have HNN := Lib.hid hnn
  clear hr hlen hl2 hnn
  go_enter Try.func43, Try.ntmps43
  go_wp2_with fail
  refine (rnum_any (n : Int) w).mono ?_
  rintro e w1 ⟨g, c1, rfl, ho1, hb1⟩
  have hcs := (HR.out.below hb1).rd.cells
  have hs1 := hb1.size
  have HO1 := Lib.hid ho1; have HB1 := Lib.hid hb1; have HCS := Lib.hid hcs
  clear ho1 hb1 hcs
  go_wp2_with (at_builtin; refine wpList_append_any _ rfl _ _ 29 rfl w.heap.size 5 i0 (.int .u8 0) 1 1 Try.underlying29 hi hz0 hz1 hz2 rfl (by decide) _ 8 (bv (M.num (n : Int))) rfl HO1.out A n c (bv bs) rfl HNN.out HL2.out HCS.out (bv_one _) (by unfold maxLen; omega) (by omega) hs1 ?_; intro v3 w3 hown3 hgrow3; rw [← bv_append] at hown3; obtain ⟨g3, d3, rfl, _, _⟩ := hown3.form (by omega); have hb3 : Below w.heap.size w w3 := HB1.out.grown hgrow3 hs1 (fun k hk => (HO1.out.lt k hk).1); have HB3 := Lib.hid hb3; have HO3 := Lib.hid hown3; clear hb3 hown3 hgrow3)
  go_ret
  exact ⟨g3, 8 + n, d3, rfl, rfl, by rw [M.blob, HLEN.out]; exact HO3.out, HB3.out⟩
end Go.Proofs.Ytdmpphioflcofaa.K

/- The contracts of barbicankit's functions on entries: SameEntry, LentEntry, KeptEntry; and OverBytes, CopyBytes. -/
namespace Go.Proofs.Ytdmpphioflcofaa.K
open Go Go.RowKit

set_option maxHeartbeats 1000000 in
set_option maxRecDepth 100000 in
theorem SameEntry_eq (t v s : Int) (K : BitVec 8) (G : Bool) (A B : Option Addr) (n c m d : Nat) (bs : List (BitVec 8)) (w : World) (hx : RowRd w ⟨A, n, c⟩ bs) (hy : RowRd w ⟨B, m, d⟩ bs) (hn2 : n ≤ 4611686018427387904) :
    Calls Try.prog 49 #[.agg #[.int .i64 t, B8 K, .int .i64 v, .int .i64 s, .bool G, .slice A n c], .agg #[.int .i64 t, B8 K, .int .i64 v, .int .i64 s, .bool G, .slice B m d]] w fun e w' => e = .returned (.bool true) ∧ Below w.heap.size w w' := by
  have hb : Below w.heap.size w ((w.alloc (.cells #[.int .i64 t, B8 K, .int .i64 v, .int .i64 s, .bool G, .slice A n c] 48)).alloc (.cells #[.int .i64 t, B8 K, .int .i64 v, .int .i64 s, .bool G, .slice B m d] 48)) := ((Below.refl _ _).alloc (Nat.le_refl _) _).alloc (by simp) _
  have hx2 := hx.below hb
  have hy2 := hy.below hb
  have hnm : m ≤ 4611686018427387904 := by have := hx.len; have := hy.len; simp at *; omega
  have HX := Lib.hid hx2; have HY := Lib.hid hy2; have HB := Lib.hid hb
  clear hx hy hx2 hy2 hb
  go_enter Try.func49, Try.ntmps49
  go_wp2_with fail
  refine (SameBytes_any A B n m c d bs bs _ HX.out.rd HY.out.rd HX.out.len HY.out.len hn2 hnm).mono ?_
  rintro e w1 ⟨rfl, q, rfl⟩
  rw [decide_eq_true rfl]
  have HB2 := Lib.hid (below_drewN HB.out q)
  generalize World.drewN _ q = w2 at *
  go_wp2
  go_ret
  exact ⟨rfl, HB2.out⟩

def entL (t v s : Int) (K : BitVec 8) (G : Bool) (A : Option Addr) (n c : Nat) : List Value := [.int .i64 t, B8 K, .int .i64 v, .int .i64 s, .bool G, .slice A n c]
theorem infoEntL (t v s : Int) (K : BitVec 8) (G : Bool) (A : Option Addr) (n c : Nat) : (Try.prog.info? 48).map (·.size) = some (entL t v s K G A n c).toArray.size := by
  rw [show (entL t v s K G A n c).toArray.size = 6 from rfl]; kernel_rfl
theorem entL_one (t v s : Int) (K : BitVec 8) (G : Bool) (A : Option Addr) (n c : Nat) : (entL t v s K G A n c).toArray.all (·.oneCell') = true := by
  rw [Array.all_eq_true_iff_forall_mem]
  intro x hx
  simp only [entL, List.mem_toArray, List.mem_cons, List.mem_nil_iff, or_false] at hx
  rcases hx with rfl | rfl | rfl | rfl | rfl | rfl <;> rfl
theorem entL_size (t v s : Int) (K : BitVec 8) (G : Bool) (A : Option Addr) (n c : Nat) (t' v' s' : Int) (K' : BitVec 8) (G' : Bool) (A' : Option Addr) (n' c' : Nat) : (entL t v s K G A n c).toArray.size = (entL t' v' s' K' G' A' n' c').toArray.size := rfl
theorem infoEnt : (Try.prog.info? 48).map (·.size) = some 6 := by kernel_rfl
set_option maxHeartbeats 1000000 in
set_option maxRecDepth 100000 in
theorem LentEntry_any (t v s : Int) (K : BitVec 8) (G : Bool) (A : Option Addr) (n c : Nat) (bs : List (BitVec 8)) (w : World) (hx : RowRd w ⟨A, n, c⟩ bs) (hn2 : n ≤ 140737488000000) :
    Calls Try.prog 37 #[.agg #[.int .i64 t, B8 K, .int .i64 v, .int .i64 s, .bool G, .slice A n c]] w fun e w' => ∃ g, e = .returned (.agg #[.int .i64 t, B8 K, .int .i64 v, .int .i64 s, .bool G, .slice (some ⟨g, 0, none⟩) n (n + 12)]) ∧ w.heap.size ≤ g ∧
      w'.heap[g]? = some (.cells (bv (bs ++ marks 1 0 12)).toArray 5 (0, 0)) ∧ Below w.heap.size w w' := by
  have HX := Lib.hid hx
  clear hx
  go_enter Try.func37, Try.ntmps37
  go_wp2_with fail
  have hb0 : Below w.heap.size w ((w.alloc (.cells (entL t v s K G A n c).toArray 48)).alloc (.cells (entL 0 0 0 0#8 false none 0 0).toArray 48)) := ((Below.refl _ _).alloc (Nat.le_refl _) _).alloc (by simp) _
  have he0 := heap_alloc2_old w (.cells (entL t v s K G A n c).toArray 48) (.cells (entL 0 0 0 0#8 false none 0 0).toArray 48)
  have he1 := heap_alloc2_new w (.cells (entL t v s K G A n c).toArray 48) (.cells (entL 0 0 0 0#8 false none 0 0).toArray 48)
  have hs0 : ((w.alloc (.cells (entL t v s K G A n c).toArray 48)).alloc (.cells (entL 0 0 0 0#8 false none 0 0).toArray 48)).heap.size = w.heap.size + 2 := by simp
  have hr0 := HX.out.below hb0
  refine (LentBytes_any A n c bs _ hr0.rd hr0.len hn2 hr0.none).mono ?_
  rintro e w1 ⟨g, rfl, hg, hblk, hb1⟩
  have hg2 : w.heap.size + 2 ≤ g := by rw [← hs0]; exact hg
  have ha : w1.heap[w.heap.size]? = some (.cells (entL t v s K G A n c).toArray 48 (0, 0)) := (hb1.block _ (by rw [hs0]; omega)).trans he0
  have hc : w1.heap[w.heap.size + 1]? = some (.cells (entL 0 0 0 0#8 false none 0 0).toArray 48 (0, 0)) := (hb1.block _ (by rw [hs0]; omega)).trans he1
  have hb := hb0.trans (hb1.mono (by rw [hs0]; omega))
  have c5 : w1.cell? ⟨w.heap.size, 5, none⟩ = some (.slice A n c) := block_cell ha rfl
  have f5 : w1.frozen? ⟨w.heap.size, 5, none⟩ = false := frozen_of_row w1 _ 5 _ _ ha
  have ha2 : (w1.setCell ⟨w.heap.size, 5, none⟩ (.slice (some ⟨g, 0, none⟩) n (n + 12))).heap[w.heap.size]? = some (.cells (entL t v s K G (some ⟨g, 0, none⟩) n (n + 12)).toArray 48 (0, 0)) := block_set ha 5 _
  have hc2 := (heap_setCell_other w1 ⟨w.heap.size, 5, none⟩ (w.heap.size + 1) (.slice (some ⟨g, 0, none⟩) n (n + 12)) (by simp)).trans hc
  have hbk2 := (heap_setCell_other w1 ⟨w.heap.size, 5, none⟩ g (.slice (some ⟨g, 0, none⟩) n (n + 12)) (by simp; omega)).trans hblk
  have hb2 := hb.setCell (p := ⟨w.heap.size, 5, none⟩) (Nat.le_refl _) (.slice (some ⟨g, 0, none⟩) n (n + 12))
  have HA2 := Lib.hid ha2; have HC2 := Lib.hid hc2; have HBK2 := Lib.hid hbk2; have HB2 := Lib.hid hb2
  clear hb0 he0 he1 hs0 hr0 hg hblk hb1 ha hc hb ha2 hc2 hbk2 hb2
  go_wp2_with (first
    | (with_reducible refine wpList_store_one rfl 29 (.tmp 6) (.tmp 5) rfl ⟨w.heap.size, 5, none⟩ (.slice (some ⟨g, 0, none⟩) n (n + 12)) _ rfl rfl rfl (by kernel_rfl) c5 f5 ?_)
    | (with_reducible refine wpList_load_row rfl 48 (.tmp 1) rfl w.heap.size rfl 48 _ (0, 0) _ HA2.out Try.underlying48 rfl (infoEntL _ _ _ _ _ _ _ _) ?_)
    | (with_reducible refine wpList_store_row rfl 48 (.tmp 2) (.tmp 7) rfl (w.heap.size + 1) (entL t v s K G (some ⟨g, 0, none⟩) n (n + 12)).toArray rfl rfl 48 _ HC2.out (infoEntL t v s K G (some ⟨g, 0, none⟩) n (n + 12)) (entL_size _ _ _ _ _ _ _ _ _ _ _ _ _ _ _ _) (entL_one _ _ _ _ _ _ _ _) ?_))
  refine bodyPost_ret (v := .agg #[.int .i64 t, B8 K, .int .i64 v, .int .i64 s, .bool G, .slice (some ⟨g, 0, none⟩) n (n + 12)]) ?_ ?_ ?_
  · exact results_cell_row rfl _ _ (w.heap.size + 1) 48 _ (0, 0) _ rfl (setRow_heap _ _ _ _ _ _ HC2.out) Try.underlying48 rfl (infoEntL t v s K G (some ⟨g, 0, none⟩) n (n + 12))
  · rfl
  · exact ⟨g, rfl, by omega, (setRow_other _ _ _ _ (by omega)).trans HBK2.out, below_setRow HB2.out (by omega) _⟩

set_option maxHeartbeats 1000000 in
set_option maxRecDepth 100000 in
theorem KeptEntry_any (t v s : Int) (K : BitVec 8) (G : Bool) (g : Nat) (A : Option Addr) (n c : Nat) (bs : List (BitVec 8)) (w : World) (hg : w.heap[g]? = some (.cells (bv (bs ++ marks 1 0 12)).toArray 5 (0, 0))) (hx : RowRd w ⟨A, n, c⟩ bs) (hn2 : n ≤ 140737488000000) :
    Calls Try.prog 48 #[.agg #[.int .i64 t, B8 K, .int .i64 v, .int .i64 s, .bool G, .slice (some ⟨g, 0, none⟩) n (n + 12)], .agg #[.int .i64 t, B8 K, .int .i64 v, .int .i64 s, .bool G, .slice A n c]] w fun e w' => e = .returned (.bool true) ∧ Below w.heap.size w w' := by
  have hlt : g < w.heap.size := (Array.getElem?_eq_some_iff.1 hg).1
  have hb : Below w.heap.size w ((w.alloc (.cells #[.int .i64 t, B8 K, .int .i64 v, .int .i64 s, .bool G, .slice (some ⟨g, 0, none⟩) n (n + 12)] 48)).alloc (.cells #[.int .i64 t, B8 K, .int .i64 v, .int .i64 s, .bool G, .slice A n c] 48)) := ((Below.refl _ _).alloc (Nat.le_refl _) _).alloc (by simp) _
  have hx2 := hx.below hb
  have hg2 := (hb.block g hlt).trans hg
  have hlen : bs.length = n := hx.len
  have hx3 : RowRd ((w.alloc (.cells #[.int .i64 t, B8 K, .int .i64 v, .int .i64 s, .bool G, .slice (some ⟨g, 0, none⟩) n (n + 12)] 48)).alloc (.cells #[.int .i64 t, B8 K, .int .i64 v, .int .i64 s, .bool G, .slice A n c] 48)) ⟨some ⟨g, 0, none⟩, n, n + 12⟩ bs :=
    ⟨Rd.of_block hg2 (by rw [List.toList_toArray, bv_append, List.take_left' (bv_length bs)]), hlen, fun h => by cases h⟩
  have HX2 := Lib.hid hx2; have HX3 := Lib.hid hx3; have HG2 := Lib.hid hg2; have HB := Lib.hid hb
  clear hx hg hb hx2 hx3 hg2 hlen
  go_enter Try.func48, Try.ntmps48
  go_wp2_with fail
  refine (SameEntry_eq t v s K G (some ⟨g, 0, none⟩) A n (n + 12) n c bs _ HX3.out HX2.out (by omega)).mono ?_
  rintro e w1 ⟨rfl, hb1⟩
  have d5 : w1.cell? ⟨w.heap.size, 5, none⟩ = some (.slice (some ⟨g, 0, none⟩) n (n + 12)) := (hb1.cell (p := ⟨w.heap.size, 5, none⟩) (by simp; omega)).trans (block_cell (xs := entL t v s K G (some ⟨g, 0, none⟩) n (n + 12)) (heap_alloc2_old w _ _) rfl)
  have e5 : w1.cell? ⟨w.heap.size + 1, 5, none⟩ = some (.slice A n c) := (hb1.cell (p := ⟨w.heap.size + 1, 5, none⟩) (by simp)).trans (block_cell (xs := entL t v s K G A n c) (heap_alloc2_new w _ _) rfl)
  have HB1 := Lib.hid (HB.out.trans (hb1.mono (by simp; omega)))
  have HX4 := Lib.hid (HX2.out.below hb1)
  have HG4 := Lib.hid ((hb1.block g (by simp; omega)).trans HG2.out)
  clear hb1
  go_wp2_with fail
  refine (KeptBytes_any g A n c bs _ HG4.out HX4.out.rd HX4.out.len hn2).mono ?_
  rintro e w2 ⟨rfl, q, rfl⟩
  have HB2 := Lib.hid (below_drewN HB1.out q)
  clear d5 e5
  generalize World.drewN _ q = w2 at *
  go_wp2
  go_ret
  exact ⟨rfl, HB2.out⟩

end Go.Proofs.Ytdmpphioflcofaa.K

/- Entries in memory that are read: six cells each, one behind the other. -/
namespace Go.Proofs.Ytdmpphioflcofaa.K
open Go Go.RowKit

abbrev EntCells (w : World) (b o : Nat) (e : M.Ent) (A : Option Addr) (n c : Nat) : Prop := w.cell? ⟨b, o, none⟩ = some (.int .i64 e.term) ∧ w.cell? ⟨b, o + 1, none⟩ = some (B8 e.kind) ∧ w.cell? ⟨b, o + 2, none⟩ = some (.int .i64 e.version) ∧ w.cell? ⟨b, o + 3, none⟩ = some (.int .i64 e.server) ∧ w.cell? ⟨b, o + 4, none⟩ = some (.bool e.good) ∧ w.cell? ⟨b, o + 5, none⟩ = some (.slice A n c)
theorem EntCells.since {w0 w : World} {b o : Nat} {e : M.Ent} {A : Option Addr} {n c : Nat} (h : EntCells w0 b o e A n c) (hs : Since w0 w) : EntCells w b o e A n c := by
  obtain ⟨h0, h1, h2, h3, h4, h5⟩ := h
  exact ⟨(hs.cell (block_lt_of_cell h0)).trans h0, (hs.cell (block_lt_of_cell h1)).trans h1, (hs.cell (block_lt_of_cell h2)).trans h2, (hs.cell (block_lt_of_cell h3)).trans h3, (hs.cell (block_lt_of_cell h4)).trans h4, (hs.cell (block_lt_of_cell h5)).trans h5⟩
/-- an entry, its first cell at o of block b -/
def EntRow (w : World) (b o : Nat) (e : M.Ent) : Prop := ∃ A n c, EntCells w b o e A n c ∧ RowRd w ⟨A, n, c⟩ e.data
theorem EntRow.since {w0 w : World} {b o : Nat} {e : M.Ent} (h : EntRow w0 b o e) (hs : Since w0 w) : EntRow w b o e := by
  obtain ⟨A, n, c, h1, h2⟩ := h
  exact ⟨A, n, c, h1.since hs, hs.row h2⟩
/-- entries, one behind the other -/
def EntsRd (w : World) (A : Option Addr) (es : List M.Ent) : Prop := ∀ i, (h : i < es.length) → ∃ b o, A = some ⟨b, o, none⟩ ∧ EntRow w b (o + i * 6) es[i]
theorem EntsRd.since {w0 w : World} {A : Option Addr} {es : List M.Ent} (h : EntsRd w0 A es) (hs : Since w0 w) : EntsRd w A es := fun i hi => by
  obtain ⟨b, o, e, hc⟩ := h i hi
  exact ⟨b, o, e, hc.since hs⟩
theorem EntsRd.nil (w : World) (A : Option Addr) : EntsRd w A [] := fun _ h => absurd h (Nat.not_lt_zero _)
end Go.Proofs.Ytdmpphioflcofaa.K

/- (made by genletcheck.py) The contracts of letter's bare, times, ask, vote, puts, done, ack. -/
namespace Go.Proofs.Ytdmpphioflcofaa.K
open Go Go.RowKit

/-- numbers that are read -/
def IntsRd (w : World) (A : Option Addr) (ns : List Int) : Prop := ∀ k, (h : k < ns.length) → ∃ b o, A = some ⟨b, o, none⟩ ∧ w.cell? ⟨b, o + k, none⟩ = some (.int .i64 ns[k])
theorem IntsRd.since {w w' : World} {A : Option Addr} {ns : List Int} (h : IntsRd w A ns) (hs : Since w w') : IntsRd w' A ns := fun k hk => by
  obtain ⟨b, o, e, hc⟩ := h k hk
  exact ⟨b, o, e, (hs.cell (p := ⟨b, o + k, none⟩) (block_lt_of_cell hc)).trans hc⟩
theorem IntsRd.nil (w : World) (A : Option Addr) : IntsRd w A [] := fun _ h => absurd h (Nat.not_lt_zero _)
theorem ints_lit (X : Nat) (w : World) (ns : List Int) (cs : Array Value) (t : TypeId) (hX : w.heap.size = X) (hcs : cs = (ns.map (Value.int .i64)).toArray) : IntsRd (w.alloc (.cells cs t)) (some ⟨X, 0, none⟩) ns := fun k h => by
  subst hcs hX
  refine ⟨w.heap.size, 0, rfl, ?_⟩
  rw [World.cell?_alloc_new, Nat.zero_add]
  simp [h]
set_option maxHeartbeats 2000000 in
set_option maxRecDepth 100000 in
theorem bare_any (l : M.Let) (A : Option Addr) (n c : Nat) (B : Option Addr) (m d : Nat) (ns : List Int) (w : World) (hl : ns.length = m) (hB : IntsRd w B ns) (hm : m ≤ 1000000) :
    Calls Try.prog 110 #[.agg #[B8 l.kind, .int .i64 l.src, .int .i64 l.dst, .int .i64 l.term, .int .i64 l.index, .int .i64 l.was, .bool l.ok, .int .i64 l.commit, .int .i64 l.version, .slice A n c], .slice B m d] w (MustPost w (ns.all M.z)) := by
  have HB := Lib.hid hB; have HL := Lib.hid hl
  have S0 := Lib.hid (Since.alloc (Below.refl w.heap.size w) (.cells #[B8 l.kind, .int .i64 l.src, .int .i64 l.dst, .int .i64 l.term, .int .i64 l.index, .int .i64 l.was, .bool l.ok, .int .i64 l.commit, .int .i64 l.version, .slice A n c] 55))
  clear hB hl
  go_enter Try.func110, Try.ntmps110
  go_wp2
  generalize w.alloc (.cells #[B8 l.kind, .int .i64 l.src, .int .i64 l.dst, .int .i64 l.term, .int .i64 l.index, .int .i64 l.was, .bool l.ok, .int .i64 l.commit, .int .i64 l.version, .slice A n c] 55) = w1 at *
  go_loopw [8] (fun i wr => ∃ k : Nat, k ≤ m ∧ i = .int .i64 (k : Int) ∧ (ns.take k).all M.z = true ∧ Since w wr) (fun i _ => m - (intOf i).toNat)
  case atStart => exact ⟨0, by omega, rfl, rfl, S0.out⟩
  case round =>
    clear S0
    obtain ⟨k, hk, rfl, hall, hs⟩ := hrel
    have HALL := Lib.hid hall; have S1 := Lib.hid hs
    clear hall hs
    have k0 : (0 : Int) ≤ (k : Int) := by omega
    by_cases hkn : k < m
    · have i1 : (k : Int) < (m : Int) := by omega
      have hkl : k < ns.length := by rw [HL.out]; exact hkn
      obtain ⟨b, o, rfl, hc⟩ := HB.out.since S1.out k hkl
      obtain ⟨x, hx⟩ : ∃ x, x = ns[k] := ⟨_, rfl⟩
      rw [← hx] at hc
      have HX := Lib.hid hx
      clear hx
      go_wp2_with fail
      refine (must_lit wr.heap.size [x == 0] 1 1 _ _ wr rfl rfl rfl (by omega)).mono ?_
      rintro e w2 (⟨h, rfl, hs⟩ | ⟨h, rfl, hs⟩)
      · have H := Lib.hid (show M.z ns[k] = true by rw [← HX.out]; simpa [M.z] using h)
        have S2 := Lib.hid (S1.out.add hs)
        clear h hs hc
        go_wp2
        go_roundw
        case rel => exact ⟨k + 1, by omega, by go_num, take_all hkl HALL.out H.out, S2.out⟩
        case measure => simp [intOf]; omega
      · have HFIN := Lib.hid (show MustPost w (ns.all M.z) (.panicked wrongP) w2 from .inr ⟨all_false hkl (by rw [← HX.out]; simpa [M.z] using h), rfl, S1.out.add hs⟩)
        clear h hs hc
        go_wp2
        exact ⟨rfl, HFIN.out⟩
    · have i1 : ¬ (k : Int) < (m : Int) := by omega
      have HFIN := Lib.hid (show MustPost w (ns.all M.z) (.returned (.tuple #[])) wr from .inl ⟨by have := HALL.out; rwa [show k = ns.length by rw [HL.out]; omega, List.take_length] at this, rfl, S1.out⟩)
      go_wp2
      go_end0
      exact HFIN.out
set_option maxHeartbeats 4000000 in
set_option maxRecDepth 100000 in
theorem times_any (l : M.Let) (A : Option Addr) (n c : Nat) (B : Option Addr) (m d : Nat) (ns : List Int) (C : Option Addr) (p q : Nat) (is : List Int) (w : World) (hl : ns.length = m) (hB : IntsRd w B ns) (hm : m ≤ 1000000) (hl2 : is.length = p) (hC : IntsRd w C is) (hp : p ≤ 1000000) :
    Calls Try.prog 111 #[.agg #[B8 l.kind, .int .i64 l.src, .int .i64 l.dst, .int .i64 l.term, .int .i64 l.index, .int .i64 l.was, .bool l.ok, .int .i64 l.commit, .int .i64 l.version, .slice A n c], .slice B m d, .slice C p q] w (MustPost w (ns.all M.tm && is.all M.ix)) := by
  have HB := Lib.hid hB; have HL := Lib.hid hl; have HC := Lib.hid hC; have HL2 := Lib.hid hl2
  have S0 := Lib.hid (Since.alloc (Below.refl w.heap.size w) (.cells #[B8 l.kind, .int .i64 l.src, .int .i64 l.dst, .int .i64 l.term, .int .i64 l.index, .int .i64 l.was, .bool l.ok, .int .i64 l.commit, .int .i64 l.version, .slice A n c] 55))
  clear hB hl hC hl2
  go_enter Try.func111, Try.ntmps111
  go_wp2
  generalize w.alloc (.cells #[B8 l.kind, .int .i64 l.src, .int .i64 l.dst, .int .i64 l.term, .int .i64 l.index, .int .i64 l.was, .bool l.ok, .int .i64 l.commit, .int .i64 l.version, .slice A n c] 55) = w1 at *
  go_loopw [12] (fun i wr => ∃ k : Nat, k ≤ m ∧ i = .int .i64 (k : Int) ∧ (ns.take k).all M.tm = true ∧ Since w wr) (fun i _ => m - (intOf i).toNat)
  case atStart => exact ⟨0, by omega, rfl, rfl, S0.out⟩
  case round =>
    clear S0
    obtain ⟨k, hk, rfl, hall, hs⟩ := hrel
    have HALL := Lib.hid hall; have S1 := Lib.hid hs
    clear hall hs
    have k0 : (0 : Int) ≤ (k : Int) := by omega
    by_cases hkn : k < m
    · have i1 : (k : Int) < (m : Int) := by omega
      have hkl : k < ns.length := by rw [HL.out]; exact hkn
      obtain ⟨b, o, rfl, hc⟩ := HB.out.since S1.out k hkl
      obtain ⟨x, hx⟩ : ∃ x, x = ns[k] := ⟨_, rfl⟩
      rw [← hx] at hc
      have HX := Lib.hid hx
      clear hx
      go_wp2_with fail
      refine (within_any x 0 1099511627776 wr).mono ?_
      rintro e w2 (⟨h, rfl, hs⟩ | ⟨h, rfl, hs⟩)
      · have H := Lib.hid (show M.tm ns[k] = true by rw [← HX.out]; exact h)
        have S2 := Lib.hid (S1.out.add hs)
        clear h hs hc
        go_wp2
        go_roundw
        case rel => exact ⟨k + 1, by omega, by go_num, take_all hkl HALL.out H.out, S2.out⟩
        case measure => simp [intOf]; omega
      · have HFIN := Lib.hid (show MustPost w (ns.all M.tm && is.all M.ix) (.panicked wrongP) w2 from .inr ⟨by rw [all_false hkl (by rw [← HX.out]; exact h : M.tm ns[k] = false)]; rfl, rfl, S1.out.add hs⟩)
        clear h hs hc
        go_wp2
        exact ⟨rfl, HFIN.out⟩
    · have i1 : ¬ (k : Int) < (m : Int) := by omega
      have HA1 := Lib.hid (show ns.all M.tm = true by have := HALL.out; rwa [show k = ns.length by rw [HL.out]; omega, List.take_length] at this)
      clear HALL
      go_wp2
      go_loopw [21] (fun i wr => ∃ k : Nat, k ≤ p ∧ i = .int .i64 (k : Int) ∧ (is.take k).all M.ix = true ∧ Since w wr) (fun i _ => p - (intOf i).toNat)
      case atStart => exact ⟨0, by omega, rfl, rfl, S1.out⟩
      case round =>
        clear S1
        obtain ⟨k, hk, rfl, hall, hs⟩ := hrel
        have HALL := Lib.hid hall; have S1 := Lib.hid hs
        clear hall hs
        have k0 : (0 : Int) ≤ (k : Int) := by omega
        by_cases hkn : k < p
        · have i1 : (k : Int) < (p : Int) := by omega
          have hkl : k < is.length := by rw [HL2.out]; exact hkn
          obtain ⟨b, o, rfl, hc⟩ := HC.out.since S1.out k hkl
          obtain ⟨x, hx⟩ : ∃ x, x = is[k] := ⟨_, rfl⟩
          rw [← hx] at hc
          have HX := Lib.hid hx
          clear hx
          go_wp2_with fail
          refine (within_any x 0 1073741824 _).mono ?_
          rintro e w2 (⟨h, rfl, hs⟩ | ⟨h, rfl, hs⟩)
          · have H := Lib.hid (show M.ix is[k] = true by rw [← HX.out]; exact h)
            have S2 := Lib.hid (S1.out.add hs)
            clear h hs hc
            go_wp2
            go_roundw
            case rel => exact ⟨k + 1, by omega, by go_num, take_all hkl HALL.out H.out, S2.out⟩
            case measure => simp [intOf]; omega
          · have HFIN := Lib.hid (show MustPost w (ns.all M.tm && is.all M.ix) (.panicked wrongP) w2 from .inr ⟨by rw [all_false hkl (by rw [← HX.out]; exact h : M.ix is[k] = false), Bool.and_false], rfl, S1.out.add hs⟩)
            clear h hs hc
            go_wp2
            exact ⟨rfl, HFIN.out⟩
        · have i1 : ¬ (k : Int) < (p : Int) := by omega
          have HFIN := Lib.hid (show ∀ w', Since w w' → MustPost w (ns.all M.tm && is.all M.ix) (.returned (.tuple #[])) w' from fun w' hw => .inl ⟨by rw [HA1.out]; have := HALL.out; rwa [show k = is.length by rw [HL2.out]; omega, List.take_length] at this, rfl, hw⟩)
          go_wp2
          go_end0
          exact HFIN.out _ S1.out

set_option maxHeartbeats 4000000 in
set_option maxRecDepth 100000 in
theorem ask_any (l : M.Let) (A : Option Addr) (n c : Nat) (w : World) (hn : l.ents.length = n) (hn2 : n ≤ 9223372036854775807) :
    Calls Try.prog 76 #[.agg #[B8 l.kind, .int .i64 l.src, .int .i64 l.dst, .int .i64 l.term, .int .i64 l.index, .int .i64 l.was, .bool l.ok, .int .i64 l.commit, .int .i64 l.version, .slice A n c]] w (MustPost w (M.lask l)) := by
  have e0 : M.lask l = ([!l.ok].all id && [l.commit, l.version, (n : Int)].all M.z && ([l.term, l.was].all M.tm && [l.index].all M.ix)) := by subst hn; rfl
  have E := Lib.hid e0
  have BK0 := Lib.hid ((Bank.nil (Below.refl w.heap.size w)).box #[B8 l.kind, .int .i64 l.src, .int .i64 l.dst, .int .i64 l.term, .int .i64 l.index, .int .i64 l.was, .bool l.ok, .int .i64 l.commit, .int .i64 l.version, .slice A n c] 55 (by simp))
  clear hn e0
  go_enter Try.func76, Try.ntmps76
  go_wp2_with fail
  generalize hw1 : w.alloc (.cells #[B8 l.kind, .int .i64 l.src, .int .i64 l.dst, .int .i64 l.term, .int .i64 l.index, .int .i64 l.was, .bool l.ok, .int .i64 l.commit, .int .i64 l.version, .slice A n c] 55) = w1 at *
  have hX : w1.heap.size = w.heap.size + 1 := by rw [← hw1, World.size_alloc]
  clear hw1
  refine (must_lit (w.heap.size + 1) [!l.ok] 1 1 _ _ w1 hX rfl rfl (by omega)).mono ?_
  rintro e w2 (⟨h1, rfl, hs⟩ | ⟨h1, rfl, hs⟩)
  rotate_left
  · have HF := Lib.hid (show MustPost w (M.lask l) (.panicked wrongP) w2 from .inr ⟨by rw [E.out, h1]; simp only [Bool.and_false, Bool.false_and, Bool.and_self], rfl, (BK0.out.call (hs)).since⟩)
    clear h1 hs
    go_wp2
    exact ⟨rfl, HF.out⟩
  have H1 := Lib.hid h1
  have BK1 := Lib.hid (BK0.out.call (hs))
  clear h1 hs BK0
  have x0 := BK1.out.cell 0 rfl 0 rfl
  have x1 := BK1.out.cell 0 rfl 1 rfl
  have x2 := BK1.out.cell 0 rfl 2 rfl
  have x3 := BK1.out.cell 0 rfl 3 rfl
  have x4 := BK1.out.cell 0 rfl 4 rfl
  have x5 := BK1.out.cell 0 rfl 5 rfl
  have x6 := BK1.out.cell 0 rfl 6 rfl
  have x7 := BK1.out.cell 0 rfl 7 rfl
  have x8 := BK1.out.cell 0 rfl 8 rfl
  have x9 := BK1.out.cell 0 rfl 9 rfl
  go_wp2_with fail
  refine ((bare_any l A n c (some ⟨w2.heap.size, 0, none⟩) 3 3 [l.commit, l.version, (n : Int)] _ rfl (ints_lit w2.heap.size w2 _ _ _ rfl rfl) (by omega)).mono fun e w' h => h.from (Since.alloc (Below.refl _ _) _)).mono ?_
  rintro e w3 (⟨h2, rfl, hs⟩ | ⟨h2, rfl, hs⟩)
  rotate_left
  · have HF := Lib.hid (show MustPost w (M.lask l) (.panicked wrongP) w3 from .inr ⟨by rw [E.out, H1.out, h2]; simp only [Bool.and_false, Bool.false_and, Bool.and_self], rfl, (BK1.out.call (hs)).since⟩)
    clear h2 hs
    go_wp2
    exact ⟨rfl, HF.out⟩
  have H2 := Lib.hid h2
  have BK2 := Lib.hid (BK1.out.call (hs))
  clear h2 hs BK1
  clear x0
  clear x1
  clear x2
  clear x3
  clear x4
  clear x5
  clear x6
  clear x7
  clear x8
  clear x9
  have x0 := BK2.out.cell 0 rfl 0 rfl
  have x1 := BK2.out.cell 0 rfl 1 rfl
  have x2 := BK2.out.cell 0 rfl 2 rfl
  have x3 := BK2.out.cell 0 rfl 3 rfl
  have x4 := BK2.out.cell 0 rfl 4 rfl
  have x5 := BK2.out.cell 0 rfl 5 rfl
  have x6 := BK2.out.cell 0 rfl 6 rfl
  have x7 := BK2.out.cell 0 rfl 7 rfl
  have x8 := BK2.out.cell 0 rfl 8 rfl
  have x9 := BK2.out.cell 0 rfl 9 rfl
  have q1 : w.heap.size < w3.heap.size := block_lt_of_cell x0
  have q2 := Nat.ne_of_lt q1
  have q3 := Ne.symm q2
  go_wp2_with fail
  refine ((times_any l A n c (some ⟨w3.heap.size, 0, none⟩) 2 2 [l.term, l.was] (some ⟨w3.heap.size + 1, 0, none⟩) 1 1 [l.index] _ rfl ((ints_lit w3.heap.size w3 _ _ _ rfl rfl).since (Since.alloc (Below.refl _ _) _)) (by omega) rfl (ints_lit (w3.heap.size + 1) _ _ _ _ (by rw [World.size_alloc]) rfl) (by omega)).mono fun e w' h => h.from (Since.alloc (Since.alloc (Below.refl _ _) _) _)).mono ?_
  rintro e w4 (⟨h3, rfl, hs⟩ | ⟨h3, rfl, hs⟩)
  rotate_left
  · have HF := Lib.hid (show MustPost w (M.lask l) (.panicked wrongP) w4 from .inr ⟨by rw [E.out, H1.out, H2.out, h3]; simp only [Bool.and_false, Bool.false_and, Bool.and_self], rfl, (BK2.out.call (hs)).since⟩)
    clear h3 hs
    go_wp2
    exact ⟨rfl, HF.out⟩
  have H3 := Lib.hid h3
  have BK3 := Lib.hid (BK2.out.call (hs))
  clear h3 hs BK2
  have HF := Lib.hid (show MustPost w (M.lask l) (.returned (.tuple #[])) w4 from .inl ⟨by rw [E.out, H1.out, H2.out, H3.out]; rfl, rfl, BK3.out.since⟩)
  go_wp2
  go_end0
  exact HF.out

set_option maxHeartbeats 4000000 in
set_option maxRecDepth 100000 in
theorem vote_any (l : M.Let) (A : Option Addr) (n c : Nat) (w : World) (hn : l.ents.length = n) (hn2 : n ≤ 9223372036854775807) :
    Calls Try.prog 77 #[.agg #[B8 l.kind, .int .i64 l.src, .int .i64 l.dst, .int .i64 l.term, .int .i64 l.index, .int .i64 l.was, .bool l.ok, .int .i64 l.commit, .int .i64 l.version, .slice A n c]] w (MustPost w (M.lvote l)) := by
  have e0 : M.lvote l = ([l.index, l.was, l.commit, l.version, (n : Int)].all M.z && ([l.term].all M.tm && [].all M.ix)) := by subst hn; rfl
  have E := Lib.hid e0
  have BK0 := Lib.hid ((Bank.nil (Below.refl w.heap.size w)).box #[B8 l.kind, .int .i64 l.src, .int .i64 l.dst, .int .i64 l.term, .int .i64 l.index, .int .i64 l.was, .bool l.ok, .int .i64 l.commit, .int .i64 l.version, .slice A n c] 55 (by simp))
  clear hn e0
  go_enter Try.func77, Try.ntmps77
  go_wp2_with fail
  generalize hw1 : w.alloc (.cells #[B8 l.kind, .int .i64 l.src, .int .i64 l.dst, .int .i64 l.term, .int .i64 l.index, .int .i64 l.was, .bool l.ok, .int .i64 l.commit, .int .i64 l.version, .slice A n c] 55) = w1 at *
  have hX : w1.heap.size = w.heap.size + 1 := by rw [← hw1, World.size_alloc]
  clear hw1
  refine ((bare_any l A n c (some ⟨w.heap.size + 1, 0, none⟩) 5 5 [l.index, l.was, l.commit, l.version, (n : Int)] _ rfl (ints_lit (w.heap.size + 1) w1 _ _ _ hX rfl) (by omega)).mono fun e w' h => h.from (Since.alloc (Below.refl _ _) _)).mono ?_
  rintro e w2 (⟨h1, rfl, hs⟩ | ⟨h1, rfl, hs⟩)
  rotate_left
  · have HF := Lib.hid (show MustPost w (M.lvote l) (.panicked wrongP) w2 from .inr ⟨by rw [E.out, h1]; simp only [Bool.and_false, Bool.false_and, Bool.and_self], rfl, (BK0.out.call (hs)).since⟩)
    clear h1 hs
    go_wp2
    exact ⟨rfl, HF.out⟩
  have H1 := Lib.hid h1
  have BK1 := Lib.hid (BK0.out.call (hs))
  clear h1 hs BK0
  have x0 := BK1.out.cell 0 rfl 0 rfl
  have x1 := BK1.out.cell 0 rfl 1 rfl
  have x2 := BK1.out.cell 0 rfl 2 rfl
  have x3 := BK1.out.cell 0 rfl 3 rfl
  have x4 := BK1.out.cell 0 rfl 4 rfl
  have x5 := BK1.out.cell 0 rfl 5 rfl
  have x6 := BK1.out.cell 0 rfl 6 rfl
  have x7 := BK1.out.cell 0 rfl 7 rfl
  have x8 := BK1.out.cell 0 rfl 8 rfl
  have x9 := BK1.out.cell 0 rfl 9 rfl
  go_wp2_with fail
  refine ((times_any l A n c (some ⟨w2.heap.size, 0, none⟩) 1 1 [l.term] none 0 0 [] _ rfl (ints_lit w2.heap.size w2 _ _ _ rfl rfl) (by omega) rfl (IntsRd.nil _ _) (by omega)).mono fun e w' h => h.from (Since.alloc (Below.refl _ _) _)).mono ?_
  rintro e w3 (⟨h2, rfl, hs⟩ | ⟨h2, rfl, hs⟩)
  rotate_left
  · have HF := Lib.hid (show MustPost w (M.lvote l) (.panicked wrongP) w3 from .inr ⟨by rw [E.out, H1.out, h2]; simp only [Bool.and_false, Bool.false_and, Bool.and_self], rfl, (BK1.out.call (hs)).since⟩)
    clear h2 hs
    go_wp2
    exact ⟨rfl, HF.out⟩
  have H2 := Lib.hid h2
  have BK2 := Lib.hid (BK1.out.call (hs))
  clear h2 hs BK1
  have HF := Lib.hid (show MustPost w (M.lvote l) (.returned (.tuple #[])) w3 from .inl ⟨by rw [E.out, H1.out, H2.out]; rfl, rfl, BK2.out.since⟩)
  go_wp2
  go_end0
  exact HF.out

set_option maxHeartbeats 4000000 in
set_option maxRecDepth 100000 in
theorem done_any (l : M.Let) (A : Option Addr) (n c : Nat) (w : World) (hn : l.ents.length = n) (hn2 : n ≤ 9223372036854775807) :
    Calls Try.prog 79 #[.agg #[B8 l.kind, .int .i64 l.src, .int .i64 l.dst, .int .i64 l.term, .int .i64 l.index, .int .i64 l.was, .bool l.ok, .int .i64 l.commit, .int .i64 l.version, .slice A n c]] w (MustPost w (M.ldone l)) := by
  have e0 : M.ldone l = ([l.was, l.commit, l.version, (n : Int)].all M.z && ([l.term].all M.tm && [l.index].all M.ix)) := by subst hn; rfl
  have E := Lib.hid e0
  have BK0 := Lib.hid ((Bank.nil (Below.refl w.heap.size w)).box #[B8 l.kind, .int .i64 l.src, .int .i64 l.dst, .int .i64 l.term, .int .i64 l.index, .int .i64 l.was, .bool l.ok, .int .i64 l.commit, .int .i64 l.version, .slice A n c] 55 (by simp))
  clear hn e0
  go_enter Try.func79, Try.ntmps79
  go_wp2_with fail
  generalize hw1 : w.alloc (.cells #[B8 l.kind, .int .i64 l.src, .int .i64 l.dst, .int .i64 l.term, .int .i64 l.index, .int .i64 l.was, .bool l.ok, .int .i64 l.commit, .int .i64 l.version, .slice A n c] 55) = w1 at *
  have hX : w1.heap.size = w.heap.size + 1 := by rw [← hw1, World.size_alloc]
  clear hw1
  refine ((bare_any l A n c (some ⟨w.heap.size + 1, 0, none⟩) 4 4 [l.was, l.commit, l.version, (n : Int)] _ rfl (ints_lit (w.heap.size + 1) w1 _ _ _ hX rfl) (by omega)).mono fun e w' h => h.from (Since.alloc (Below.refl _ _) _)).mono ?_
  rintro e w2 (⟨h1, rfl, hs⟩ | ⟨h1, rfl, hs⟩)
  rotate_left
  · have HF := Lib.hid (show MustPost w (M.ldone l) (.panicked wrongP) w2 from .inr ⟨by rw [E.out, h1]; simp only [Bool.and_false, Bool.false_and, Bool.and_self], rfl, (BK0.out.call (hs)).since⟩)
    clear h1 hs
    go_wp2
    exact ⟨rfl, HF.out⟩
  have H1 := Lib.hid h1
  have BK1 := Lib.hid (BK0.out.call (hs))
  clear h1 hs BK0
  have x0 := BK1.out.cell 0 rfl 0 rfl
  have x1 := BK1.out.cell 0 rfl 1 rfl
  have x2 := BK1.out.cell 0 rfl 2 rfl
  have x3 := BK1.out.cell 0 rfl 3 rfl
  have x4 := BK1.out.cell 0 rfl 4 rfl
  have x5 := BK1.out.cell 0 rfl 5 rfl
  have x6 := BK1.out.cell 0 rfl 6 rfl
  have x7 := BK1.out.cell 0 rfl 7 rfl
  have x8 := BK1.out.cell 0 rfl 8 rfl
  have x9 := BK1.out.cell 0 rfl 9 rfl
  have q1 : w.heap.size < w2.heap.size := block_lt_of_cell x0
  have q2 := Nat.ne_of_lt q1
  have q3 := Ne.symm q2
  go_wp2_with fail
  refine ((times_any l A n c (some ⟨w2.heap.size, 0, none⟩) 1 1 [l.term] (some ⟨w2.heap.size + 1, 0, none⟩) 1 1 [l.index] _ rfl ((ints_lit w2.heap.size w2 _ _ _ rfl rfl).since (Since.alloc (Below.refl _ _) _)) (by omega) rfl (ints_lit (w2.heap.size + 1) _ _ _ _ (by rw [World.size_alloc]) rfl) (by omega)).mono fun e w' h => h.from (Since.alloc (Since.alloc (Below.refl _ _) _) _)).mono ?_
  rintro e w3 (⟨h2, rfl, hs⟩ | ⟨h2, rfl, hs⟩)
  rotate_left
  · have HF := Lib.hid (show MustPost w (M.ldone l) (.panicked wrongP) w3 from .inr ⟨by rw [E.out, H1.out, h2]; simp only [Bool.and_false, Bool.false_and, Bool.and_self], rfl, (BK1.out.call (hs)).since⟩)
    clear h2 hs
    go_wp2
    exact ⟨rfl, HF.out⟩
  have H2 := Lib.hid h2
  have BK2 := Lib.hid (BK1.out.call (hs))
  clear h2 hs BK1
  have HF := Lib.hid (show MustPost w (M.ldone l) (.returned (.tuple #[])) w3 from .inl ⟨by rw [E.out, H1.out, H2.out]; rfl, rfl, BK2.out.since⟩)
  go_wp2
  go_end0
  exact HF.out

set_option maxHeartbeats 4000000 in
set_option maxRecDepth 100000 in
theorem ack_any (l : M.Let) (A : Option Addr) (n c : Nat) (w : World) (hn : l.ents.length = n) (hn2 : n ≤ 9223372036854775807) :
    Calls Try.prog 80 #[.agg #[B8 l.kind, .int .i64 l.src, .int .i64 l.dst, .int .i64 l.term, .int .i64 l.index, .int .i64 l.was, .bool l.ok, .int .i64 l.commit, .int .i64 l.version, .slice A n c]] w (MustPost w (M.lack l)) := by
  have e0 : M.lack l = ([l.term, l.index, l.was, l.commit, (n : Int)].all M.z && M.wi l.version 1 1073741824) := by subst hn; rfl
  have E := Lib.hid e0
  have BK0 := Lib.hid ((Bank.nil (Below.refl w.heap.size w)).box #[B8 l.kind, .int .i64 l.src, .int .i64 l.dst, .int .i64 l.term, .int .i64 l.index, .int .i64 l.was, .bool l.ok, .int .i64 l.commit, .int .i64 l.version, .slice A n c] 55 (by simp))
  clear hn e0
  go_enter Try.func80, Try.ntmps80
  go_wp2_with fail
  generalize hw1 : w.alloc (.cells #[B8 l.kind, .int .i64 l.src, .int .i64 l.dst, .int .i64 l.term, .int .i64 l.index, .int .i64 l.was, .bool l.ok, .int .i64 l.commit, .int .i64 l.version, .slice A n c] 55) = w1 at *
  have hX : w1.heap.size = w.heap.size + 1 := by rw [← hw1, World.size_alloc]
  clear hw1
  refine ((bare_any l A n c (some ⟨w.heap.size + 1, 0, none⟩) 5 5 [l.term, l.index, l.was, l.commit, (n : Int)] _ rfl (ints_lit (w.heap.size + 1) w1 _ _ _ hX rfl) (by omega)).mono fun e w' h => h.from (Since.alloc (Below.refl _ _) _)).mono ?_
  rintro e w2 (⟨h1, rfl, hs⟩ | ⟨h1, rfl, hs⟩)
  rotate_left
  · have HF := Lib.hid (show MustPost w (M.lack l) (.panicked wrongP) w2 from .inr ⟨by rw [E.out, h1]; simp only [Bool.and_false, Bool.false_and, Bool.and_self], rfl, (BK0.out.call (hs)).since⟩)
    clear h1 hs
    go_wp2
    exact ⟨rfl, HF.out⟩
  have H1 := Lib.hid h1
  have BK1 := Lib.hid (BK0.out.call (hs))
  clear h1 hs BK0
  have x0 := BK1.out.cell 0 rfl 0 rfl
  have x1 := BK1.out.cell 0 rfl 1 rfl
  have x2 := BK1.out.cell 0 rfl 2 rfl
  have x3 := BK1.out.cell 0 rfl 3 rfl
  have x4 := BK1.out.cell 0 rfl 4 rfl
  have x5 := BK1.out.cell 0 rfl 5 rfl
  have x6 := BK1.out.cell 0 rfl 6 rfl
  have x7 := BK1.out.cell 0 rfl 7 rfl
  have x8 := BK1.out.cell 0 rfl 8 rfl
  have x9 := BK1.out.cell 0 rfl 9 rfl
  go_wp2_with fail
  refine (within_any l.version 1 1073741824 w2).mono ?_
  rintro e w3 (⟨h2, rfl, hs⟩ | ⟨h2, rfl, hs⟩)
  rotate_left
  · have HF := Lib.hid (show MustPost w (M.lack l) (.panicked wrongP) w3 from .inr ⟨by rw [E.out, H1.out, h2]; simp only [Bool.and_false, Bool.false_and, Bool.and_self], rfl, (BK1.out.call (hs)).since⟩)
    clear h2 hs
    go_wp2
    exact ⟨rfl, HF.out⟩
  have H2 := Lib.hid h2
  have BK2 := Lib.hid (BK1.out.call (hs))
  clear h2 hs BK1
  have HF := Lib.hid (show MustPost w (M.lack l) (.returned (.tuple #[])) w3 from .inl ⟨by rw [E.out, H1.out, H2.out]; rfl, rfl, BK2.out.since⟩)
  go_wp2
  go_end0
  exact HF.out

set_option maxHeartbeats 8000000 in
set_option maxRecDepth 100000 in
theorem puts_any (l : M.Let) (A : Option Addr) (n c : Nat) (w : World) (hn : l.ents.length = n) (hn2 : n ≤ 9223372036854775807) (hE : EntsRd w A l.ents) :
    Calls Try.prog 78 #[.agg #[B8 l.kind, .int .i64 l.src, .int .i64 l.dst, .int .i64 l.term, .int .i64 l.index, .int .i64 l.was, .bool l.ok, .int .i64 l.commit, .int .i64 l.version, .slice A n c]] w (MustPost w (M.lputs l)) := by
  have e0 : M.lputs l = ([!l.ok, decide ((n : Int) ≤ 4)].all id && [l.version].all M.z && ([l.term, l.was].all M.tm && [l.index, l.commit].all M.ix) && l.ents.all fun e => M.tm e.term) := by subst hn; rfl
  have E := Lib.hid e0; have HE := Lib.hid hE; have HN := Lib.hid hn
  have BK0 := Lib.hid ((Bank.nil (Below.refl w.heap.size w)).box #[B8 l.kind, .int .i64 l.src, .int .i64 l.dst, .int .i64 l.term, .int .i64 l.index, .int .i64 l.was, .bool l.ok, .int .i64 l.commit, .int .i64 l.version, .slice A n c] 55 (by simp))
  clear hn e0 hE
  go_enter Try.func78, Try.ntmps78
  go_wp2_with fail
  generalize hw1 : w.alloc (.cells #[B8 l.kind, .int .i64 l.src, .int .i64 l.dst, .int .i64 l.term, .int .i64 l.index, .int .i64 l.was, .bool l.ok, .int .i64 l.commit, .int .i64 l.version, .slice A n c] 55) = w1 at *
  have hX : w1.heap.size = w.heap.size + 1 := by rw [← hw1, World.size_alloc]
  clear hw1
  refine (must_lit (w.heap.size + 1) [!l.ok, decide ((n : Int) ≤ 4)] 2 2 _ _ w1 hX rfl rfl (by omega)).mono ?_
  rintro e w2 (⟨h1, rfl, hs⟩ | ⟨h1, rfl, hs⟩)
  rotate_left
  · have HF := Lib.hid (show MustPost w (M.lputs l) (.panicked wrongP) w2 from .inr ⟨by rw [E.out, h1]; simp only [Bool.and_false, Bool.false_and, Bool.and_self], rfl, (BK0.out.call (hs)).since⟩)
    clear h1 hs
    go_wp2
    exact ⟨rfl, HF.out⟩
  have H1 := Lib.hid h1
  have BK1 := Lib.hid (BK0.out.call (hs))
  clear h1 hs BK0
  have x0 := BK1.out.cell 0 rfl 0 rfl
  have x1 := BK1.out.cell 0 rfl 1 rfl
  have x2 := BK1.out.cell 0 rfl 2 rfl
  have x3 := BK1.out.cell 0 rfl 3 rfl
  have x4 := BK1.out.cell 0 rfl 4 rfl
  have x5 := BK1.out.cell 0 rfl 5 rfl
  have x6 := BK1.out.cell 0 rfl 6 rfl
  have x7 := BK1.out.cell 0 rfl 7 rfl
  have x8 := BK1.out.cell 0 rfl 8 rfl
  have x9 := BK1.out.cell 0 rfl 9 rfl
  go_wp2_with fail
  refine ((bare_any l A n c (some ⟨w2.heap.size, 0, none⟩) 1 1 [l.version] _ rfl (ints_lit w2.heap.size w2 _ _ _ rfl rfl) (by omega)).mono fun e w' h => h.from (Since.alloc (Below.refl _ _) _)).mono ?_
  rintro e w3 (⟨h2, rfl, hs⟩ | ⟨h2, rfl, hs⟩)
  rotate_left
  · have HF := Lib.hid (show MustPost w (M.lputs l) (.panicked wrongP) w3 from .inr ⟨by rw [E.out, H1.out, h2]; simp only [Bool.and_false, Bool.false_and, Bool.and_self], rfl, (BK1.out.call (hs)).since⟩)
    clear h2 hs
    go_wp2
    exact ⟨rfl, HF.out⟩
  have H2 := Lib.hid h2
  have BK2 := Lib.hid (BK1.out.call (hs))
  clear h2 hs BK1
  clear x0
  clear x1
  clear x2
  clear x3
  clear x4
  clear x5
  clear x6
  clear x7
  clear x8
  clear x9
  have x0 := BK2.out.cell 0 rfl 0 rfl
  have x1 := BK2.out.cell 0 rfl 1 rfl
  have x2 := BK2.out.cell 0 rfl 2 rfl
  have x3 := BK2.out.cell 0 rfl 3 rfl
  have x4 := BK2.out.cell 0 rfl 4 rfl
  have x5 := BK2.out.cell 0 rfl 5 rfl
  have x6 := BK2.out.cell 0 rfl 6 rfl
  have x7 := BK2.out.cell 0 rfl 7 rfl
  have x8 := BK2.out.cell 0 rfl 8 rfl
  have x9 := BK2.out.cell 0 rfl 9 rfl
  have q1 : w.heap.size < w3.heap.size := block_lt_of_cell x0
  have q2 := Nat.ne_of_lt q1
  have q3 := Ne.symm q2
  go_wp2_with fail
  refine ((times_any l A n c (some ⟨w3.heap.size, 0, none⟩) 2 2 [l.term, l.was] (some ⟨w3.heap.size + 1, 0, none⟩) 2 2 [l.index, l.commit] _ rfl ((ints_lit w3.heap.size w3 _ _ _ rfl rfl).since (Since.alloc (Below.refl _ _) _)) (by omega) rfl (ints_lit (w3.heap.size + 1) _ _ _ _ (by rw [World.size_alloc]) rfl) (by omega)).mono fun e w' h => h.from (Since.alloc (Since.alloc (Below.refl _ _) _) _)).mono ?_
  rintro e w4 (⟨h3, rfl, hs⟩ | ⟨h3, rfl, hs⟩)
  rotate_left
  · have HF := Lib.hid (show MustPost w (M.lputs l) (.panicked wrongP) w4 from .inr ⟨by rw [E.out, H1.out, H2.out, h3]; simp only [Bool.and_false, Bool.false_and, Bool.and_self], rfl, (BK2.out.call (hs)).since⟩)
    clear h3 hs
    go_wp2
    exact ⟨rfl, HF.out⟩
  have H3 := Lib.hid h3
  have BK3 := Lib.hid (BK2.out.call (hs))
  clear h3 hs BK2
  clear x0
  clear x1
  clear x2
  clear x3
  clear x4
  clear x5
  clear x6
  clear x7
  clear x8
  clear x9
  have x9 := BK3.out.cell 0 rfl 9 rfl
  go_wp2_with fail
  clear x9
  go_loopw [41] (fun i wr => ∃ k : Nat, k ≤ n ∧ i = .int .i64 (k : Int) ∧ (l.ents.take k).all (fun e => M.tm e.term) = true ∧ Bank w wr [boxAcc w.heap.size 55 #[B8 l.kind, .int .i64 l.src, .int .i64 l.dst, .int .i64 l.term, .int .i64 l.index, .int .i64 l.was, .bool l.ok, .int .i64 l.commit, .int .i64 l.version, .slice A n c].toList]) (fun i _ => n - (intOf i).toNat)
  case atStart => exact ⟨0, by omega, rfl, rfl, BK3.out⟩
  case round =>
    clear BK3
    obtain ⟨k, hk, rfl, hall, hB⟩ := hrel
    have HALL := Lib.hid hall; have BK := Lib.hid hB
    clear hall hB
    have k0 : (0 : Int) ≤ (k : Int) := by omega
    by_cases hkn : k < n
    · have i1 : (k : Int) < (n : Int) := by omega
      have hkl : k < l.ents.length := by rw [HN.out]; exact hkn
      obtain ⟨b, o, rfl, A', m', c', ⟨y0, y1, y2, y3, y4, y5⟩, hrd⟩ := HE.out.since BK.out.since k hkl
      clear hrd
      obtain ⟨x, hx⟩ : ∃ x, x = l.ents[k] := ⟨_, rfl⟩
      rw [← hx] at y0 y1 y2 y3 y4
      have HX := Lib.hid hx
      clear hx
      have x0 := BK.out.cell 0 rfl 0 rfl
      have x1 := BK.out.cell 0 rfl 1 rfl
      have x2 := BK.out.cell 0 rfl 2 rfl
      have x3 := BK.out.cell 0 rfl 3 rfl
      have x4 := BK.out.cell 0 rfl 4 rfl
      have x5 := BK.out.cell 0 rfl 5 rfl
      have x6 := BK.out.cell 0 rfl 6 rfl
      have x7 := BK.out.cell 0 rfl 7 rfl
      have x8 := BK.out.cell 0 rfl 8 rfl
      have x9 := BK.out.cell 0 rfl 9 rfl
      have q1 : w.heap.size < wr.heap.size := block_lt_of_cell x0
      have q2 := Nat.ne_of_lt q1
      have q3 := Ne.symm q2
      go_wp2_with fail
      clear x0 x1 x2 x3 x4 x5 x6 x7 x8 x9 y0 y1 y2 y3 y4 y5 q1 q2 q3
      have BK1 := Lib.hid (BK.out.alloc (.cells #[.int .i64 x.term, B8 x.kind, .int .i64 x.version, .int .i64 x.server, .bool x.good, .slice A' m' c'] 48))
      refine ((times_any l (some ⟨b, o, none⟩) n c (some ⟨wr.heap.size + 1, 0, none⟩) 1 1 [x.term] none 0 0 [] _ rfl (ints_lit (wr.heap.size + 1) (wr.alloc (.cells #[.int .i64 x.term, B8 x.kind, .int .i64 x.version, .int .i64 x.server, .bool x.good, .slice A' m' c'] 48)) _ _ _ (by rw [World.size_alloc]) rfl) (by omega) rfl (IntsRd.nil _ _) (by omega)).mono fun e w' h => h.from (Since.alloc (Below.refl _ _) _)).mono ?_
      rintro e w5 (⟨h, rfl, hs⟩ | ⟨h, rfl, hs⟩)
      · have H := Lib.hid (show M.tm l.ents[k].term = true by rw [← HX.out]; simpa using h)
        have BK2 := Lib.hid (BK1.out.call hs)
        clear h hs BK1
        go_wp2
        go_roundw
        case rel => exact ⟨k + 1, by omega, by go_num, take_all hkl HALL.out H.out, BK2.out⟩
        case measure => simp [intOf]; omega
      · have HF := Lib.hid (show MustPost w (M.lputs l) (.panicked wrongP) w5 from .inr ⟨by rw [E.out, all_false (p := fun e : M.Ent => M.tm e.term) hkl (by show M.tm l.ents[k].term = false; rw [← HX.out]; simpa using h), Bool.and_false], rfl, (BK1.out.call hs).since⟩)
        clear h hs
        go_wp2
        exact ⟨rfl, HF.out⟩
    · have i1 : ¬ (k : Int) < (n : Int) := by omega
      have HF := Lib.hid (show MustPost w (M.lputs l) (.returned (.tuple #[])) wr from .inl ⟨by have := HALL.out; rw [show k = l.ents.length by rw [HN.out]; omega, List.take_length] at this; rw [E.out, H1.out, H2.out, H3.out, this]; rfl, rfl, BK.out.since⟩)
      go_wp2
      go_end0
      exact HF.out

end Go.Proofs.Ytdmpphioflcofaa.K

/- The contracts of letter's kinds and check. -/
namespace Go.Proofs.Ytdmpphioflcofaa.K
open Go Go.RowKit Go.Maps

theorem setBlock_alloc (w : World) (o o' : Obj) : Go.ChangeMaps.setBlock (w.alloc o) w.heap.size o' = w.alloc o' := by
  have h : (w.heap.push o).setIfInBounds w.heap.size o' = w.heap.push o' := by
    apply Array.toList_inj.1
    rw [Array.toList_setIfInBounds, Array.toList_push, Array.toList_push, List.set_append_right _ _ (by simp)]
    simp
  exact congrArg (fun x => ({ w with heap := x } : World)) h
theorem put_map {P : Program} {t k e : TypeId} (ht : P.underlying t = some (.map k e)) (hk : P.underlying k = some (.int .u8)) (w : World) (es : Array MapEntry) (c : Nat) (n : Int) (v : Value) (hn : (Lit.int .u8 n).wf = true) (hf : Instr.findNow (.int .u8) (.int .u8 n) es.toList 0 = some none) :
    (Instr.mapUpdate t (.map (some w.heap.size)) (.int .u8 n) v).run P (w.alloc (.map es c)) = .ok () (w.alloc (.map (es.push { key := .int .u8 n, val := v, born := c }) (c + 1))) := by
  have hb := (MapKept.heap_alloc w (.map es c)).1
  simp [Instr.mapUpdate, run_underlying ht, MapKept.run_getObj_map hb, (int_keyed hk).check _ false (keyOf_int_mk hk hn), Instr.findKey, run_underlying hk, hf, MapKept.run_setObj_map _ hb, Result.andThen]
  exact setBlock_alloc _ _ _
theorem look_map {P : Program} {t k e : TypeId} (ht : P.underlying t = some (.map k e)) (hk : P.underlying k = some (.int .u8)) {w : World} {g : Nat} {es : Array MapEntry} {c : Nat} (hb : w.heap[g]? = some (.map es c)) (n : Int) (i : Nat) (v : Value) (hn : (Lit.int .u8 n).wf = true) (hf : Instr.findNow (.int .u8) (.int .u8 n) es.toList 0 = some (some (i, v))) :
    (Instr.lookup t (.map (some g)) (.int .u8 n) true).run P w = .ok (.tuple #[v, .bool true]) w := by
  simp [Instr.lookup, run_underlying ht, MapKept.run_getObj_map hb, (int_keyed hk).check _ _ (keyOf_int_mk hk hn), Instr.findKey, run_underlying hk, hf, Result.andThen]
theorem look_none {P : Program} {t k e : TypeId} (ht : P.underlying t = some (.map k e)) (hk : P.underlying k = some (.int .u8)) {w : World} {g : Nat} {es : Array MapEntry} {c : Nat} (hb : w.heap[g]? = some (.map es c)) (n : Int) (z : Value) (hz : (zeroValue e).run P w = .ok z w) (hn : (Lit.int .u8 n).wf = true) (hf : Instr.findNow (.int .u8) (.int .u8 n) es.toList 0 = some none) :
    (Instr.lookup t (.map (some g)) (.int .u8 n) true).run P w = .ok (.tuple #[z, .bool false]) w := by
  simp [Instr.lookup, run_underlying ht, MapKept.run_getObj_map hb, (int_keyed hk).check _ _ (keyOf_int_mk hk hn), Instr.findKey, run_underlying hk, hf, hz, Result.andThen]

def fnV (f : FuncId) : Value := .func (.func f) #[] #[]
def kindsEs : Array MapEntry := #[{ key := .int .u8 1, val := fnV 76, born := 0 }, { key := .int .u8 2, val := fnV 77, born := 1 }, { key := .int .u8 3, val := fnV 78, born := 2 }, { key := .int .u8 4, val := fnV 79, born := 3 }, { key := .int .u8 5, val := fnV 80, born := 4 }]
/-- the map of kinds -/
def KindsPost (w : World) (e : Ending) (w' : World) : Prop := ∃ g, e = .returned (.map (some g)) ∧ w'.heap[g]? = some (.map kindsEs 5) ∧ Since w w'
set_option maxHeartbeats 1000000 in
set_option maxRecDepth 100000 in
theorem kinds_any (w : World) : Calls Try.prog 45 #[] w (KindsPost w) := by
  have hmm := @run_makeMap Try.prog
  have ht := Try.underlying94
  have hk := Try.underlying22
  have h1 := put_map ht hk w #[] 0 1 (fnV 76) (by decide) rfl
  have h2 := put_map ht hk w #[{ key := .int .u8 1, val := fnV 76, born := 0 }] 1 2 (fnV 77) (by decide) rfl
  have h3 := put_map ht hk w #[{ key := .int .u8 1, val := fnV 76, born := 0 }, { key := .int .u8 2, val := fnV 77, born := 1 }] 2 3 (fnV 78) (by decide) rfl
  have h4 := put_map ht hk w #[{ key := .int .u8 1, val := fnV 76, born := 0 }, { key := .int .u8 2, val := fnV 77, born := 1 }, { key := .int .u8 3, val := fnV 78, born := 2 }] 3 4 (fnV 79) (by decide) rfl
  have h5 := put_map ht hk w #[{ key := .int .u8 1, val := fnV 76, born := 0 }, { key := .int .u8 2, val := fnV 77, born := 1 }, { key := .int .u8 3, val := fnV 78, born := 2 }, { key := .int .u8 4, val := fnV 79, born := 3 }] 4 5 (fnV 80) (by decide) rfl
  have HFIN := Lib.hid (show KindsPost w (.returned (.map (some w.heap.size))) (w.alloc (.map kindsEs 5)) from ⟨_, rfl, heap_alloc_new w _, Since.alloc (Below.refl _ _) _⟩)
  simp only [List.push_toArray, List.cons_append, List.nil_append, fnV, Nat.reduceAdd] at h1 h2 h3 h4 h5
  clear ht hk
  go_enter Try.func45, Try.ntmps45
  go_wp2
  go_ret
  exact HFIN.out
end Go.Proofs.Ytdmpphioflcofaa.K

/- The contract of letter's check. -/
namespace Go.Proofs.Ytdmpphioflcofaa.K
open Go Go.RowKit Go.Maps

/-- what the look-up tells: a check, or none -/
def LookedUp (x : BitVec 8) (v : Value) (ok : Bool) : Prop := ∀ (w : World) (g : Nat), w.heap[g]? = some (.map kindsEs 5) → (Instr.lookup 94 (.map (some g)) (B8 x) true).run Try.prog w = .ok (.tuple #[v, .bool ok]) w
set_option maxHeartbeats 8000000 in
set_option maxRecDepth 100000 in
theorem chk_any (l : M.Let) (A : Option Addr) (n c : Nat) (v : Value) (is ok : Bool) (w : World) (hv : LookedUp l.kind v is) (e0 : M.lright l = (is && M.wi l.src 1 7 && M.wi l.dst 1 7 && ok))
    (hf : is = true → ∃ f, (f = 76 ∨ f = 77 ∨ f = 78 ∨ f = 79 ∨ f = 80) ∧ v = .func (.func f) #[] #[] ∧ ∀ w', Since w w' → Calls Try.prog f #[.agg #[B8 l.kind, .int .i64 l.src, .int .i64 l.dst, .int .i64 l.term, .int .i64 l.index, .int .i64 l.was, .bool l.ok, .int .i64 l.commit, .int .i64 l.version, .slice A n c]] w' (MustPost w' ok)) :
    Calls Try.prog 27 #[.agg #[B8 l.kind, .int .i64 l.src, .int .i64 l.dst, .int .i64 l.term, .int .i64 l.index, .int .i64 l.was, .bool l.ok, .int .i64 l.commit, .int .i64 l.version, .slice A n c]] w (MustPost w (M.lright l)) := by
  have E := Lib.hid e0; have HV := Lib.hid hv; have HF := Lib.hid hf
  have BK0 := Lib.hid ((Bank.nil (Below.refl w.heap.size w)).box #[B8 l.kind, .int .i64 l.src, .int .i64 l.dst, .int .i64 l.term, .int .i64 l.index, .int .i64 l.was, .bool l.ok, .int .i64 l.commit, .int .i64 l.version, .slice A n c] 55 (by simp))
  clear e0 hv hf
  go_enter Try.func27, Try.ntmps27
  go_wp2_with fail
  generalize w.alloc (.cells #[B8 l.kind, .int .i64 l.src, .int .i64 l.dst, .int .i64 l.term, .int .i64 l.index, .int .i64 l.was, .bool l.ok, .int .i64 l.commit, .int .i64 l.version, .slice A n c] 55) = w1 at *
  have hB := BK0.out.drew
  have x0 := hB.cell 0 rfl 0 rfl
  go_region_law (first
    | (go_simp; go_at_call 45; refine (kinds_any _).mono ?_; rintro e w2 ⟨g, rfl, hg, hs⟩; have hB := hB.call hs; have x0 := hB.cell 0 rfl 0 rfl; have hl := HV.out w2 g hg; clear hg hs)
    | fail "arm")
  all_goals
    have BK1 := Lib.hid hB
    clear hB x0 hl BK0
    go_wp2_with fail
    refine (must_lit w2.heap.size [is] 1 1 _ _ w2 rfl rfl rfl (by omega)).mono ?_
    rintro e w3 (⟨h1, rfl, hs⟩ | ⟨h1, rfl, hs⟩)
    rotate_left
    · have HFIN := Lib.hid (show MustPost w (M.lright l) (.panicked wrongP) w3 from .inr ⟨by rw [E.out, show is = false by simpa using h1]; rfl, rfl, (BK1.out.call hs).since⟩)
      clear h1 hs
      go_wp2
      exact ⟨rfl, HFIN.out⟩
    have his : is = true := by simpa using h1
    subst his
    have BK2 := Lib.hid (BK1.out.call hs)
    obtain ⟨f, hfm, rfl, hc⟩ := HF.out rfl
    have HFM := Lib.hid hfm
    have HC := Lib.hid hc
    clear h1 hs hc hfm BK1 HF
    have x1 := BK2.out.cell 0 rfl 1 rfl
    go_wp2_with fail
    clear x1
    refine (within_any l.src 1 7 w3).mono ?_
    rintro e w4 (⟨h2, rfl, hs⟩ | ⟨h2, rfl, hs⟩)
    rotate_left
    · have HFIN := Lib.hid (show MustPost w (M.lright l) (.panicked wrongP) w4 from .inr ⟨by rw [E.out, h2]; rfl, rfl, (BK2.out.call hs).since⟩)
      clear h2 hs
      go_wp2
      exact ⟨rfl, HFIN.out⟩
    have H2 := Lib.hid h2
    have BK3 := Lib.hid (BK2.out.call hs)
    clear h2 hs BK2
    have x2 := BK3.out.cell 0 rfl 2 rfl
    go_wp2_with fail
    clear x2
    refine (within_any l.dst 1 7 w4).mono ?_
    rintro e w5 (⟨h3, rfl, hs⟩ | ⟨h3, rfl, hs⟩)
    rotate_left
    · have HFIN := Lib.hid (show MustPost w (M.lright l) (.panicked wrongP) w5 from .inr ⟨by rw [E.out, h3, H2.out]; rfl, rfl, (BK3.out.call hs).since⟩)
      clear h3 hs
      go_wp2
      exact ⟨rfl, HFIN.out⟩
    have H3 := Lib.hid h3
    have BK4 := Lib.hid (BK3.out.call hs)
    clear h3 hs BK3
    have x0 := BK4.out.cell 0 rfl 0 rfl
    have x1 := BK4.out.cell 0 rfl 1 rfl
    have x2 := BK4.out.cell 0 rfl 2 rfl
    have x3 := BK4.out.cell 0 rfl 3 rfl
    have x4 := BK4.out.cell 0 rfl 4 rfl
    have x5 := BK4.out.cell 0 rfl 5 rfl
    have x6 := BK4.out.cell 0 rfl 6 rfl
    have x7 := BK4.out.cell 0 rfl 7 rfl
    have x8 := BK4.out.cell 0 rfl 8 rfl
    have x9 := BK4.out.cell 0 rfl 9 rfl
    rcases HFM.out with rfl | rfl | rfl | rfl | rfl
    all_goals
      go_wp2_with fail
      clear x0 x1 x2 x3 x4 x5 x6 x7 x8 x9
      refine (HC.out w5 BK4.out.since).mono ?_
      rintro e w6 (⟨h4, rfl, hs⟩ | ⟨h4, rfl, hs⟩)
      · have HFIN := Lib.hid (show MustPost w (M.lright l) (.returned (.tuple #[])) w6 from .inl ⟨by rw [E.out, H3.out, H2.out, h4]; rfl, rfl, (BK4.out.call hs).since⟩)
        clear h4 hs
        go_wp2
        go_end0
        exact HFIN.out
      · have HFIN := Lib.hid (show MustPost w (M.lright l) (.panicked wrongP) w6 from .inr ⟨by rw [E.out, H3.out, H2.out, h4]; rfl, rfl, (BK4.out.call hs).since⟩)
        clear h4 hs
        go_wp2
        exact ⟨rfl, HFIN.out⟩
theorem looked_1 : LookedUp 1#8 (fnV 76) true := fun _ _ h => look_map Try.underlying94 Try.underlying22 h 1 0 _ (by decide) rfl
theorem looked_2 : LookedUp 2#8 (fnV 77) true := fun _ _ h => look_map Try.underlying94 Try.underlying22 h 2 1 _ (by decide) rfl
theorem looked_3 : LookedUp 3#8 (fnV 78) true := fun _ _ h => look_map Try.underlying94 Try.underlying22 h 3 2 _ (by decide) rfl
theorem looked_4 : LookedUp 4#8 (fnV 79) true := fun _ _ h => look_map Try.underlying94 Try.underlying22 h 4 3 _ (by decide) rfl
theorem looked_5 : LookedUp 5#8 (fnV 80) true := fun _ _ h => look_map Try.underlying94 Try.underlying22 h 5 4 _ (by decide) rfl
theorem zero_fn (w : World) : (zeroValue 92).run Try.prog w = .ok .nilFunc w := by kernel_rfl
theorem looked_no {x : BitVec 8} (h1 : x ≠ 1#8) (h2 : x ≠ 2#8) (h3 : x ≠ 3#8) (h4 : x ≠ 4#8) (h5 : x ≠ 5#8) : LookedUp x .nilFunc false := fun w _ h => by
  have hx := x.isLt
  have k : ∀ m : Nat, m < 256 → x ≠ BitVec.ofNat 8 m → (((x.toNat : Int)) == (m : Int)) = false := fun m hm hne => by
    rw [beq_eq_false_iff_ne]
    intro e
    exact hne (BitVec.eq_of_toNat_eq (by rw [BitVec.toNat_ofNat]; omega))
  have k1 : ((x.toNat : Int) == 1) = false := k 1 (by omega) h1
  have k2 : ((x.toNat : Int) == 2) = false := k 2 (by omega) h2
  have k3 : ((x.toNat : Int) == 3) = false := k 3 (by omega) h3
  have k4 : ((x.toNat : Int) == 4) = false := k 4 (by omega) h4
  have k5 : ((x.toNat : Int) == 5) = false := k 5 (by omega) h5
  refine look_none Try.underlying94 Try.underlying22 h (x.toNat : Int) _ (zero_fn w) (by simp [Lit.wf, IntKind.min, IntKind.max, IntKind.bits, IntKind.signed]; omega) ?_
  simp [kindsEs, Instr.findNow, Instr.sameNow, k1, k2, k3, k4, k5]
/-- letter's check -/
theorem lcheck_any (l : M.Let) (A : Option Addr) (n c : Nat) (w : World) (hn : l.ents.length = n) (hn2 : n ≤ 9223372036854775807) (hE : EntsRd w A l.ents) :
    Calls Try.prog 27 #[.agg #[B8 l.kind, .int .i64 l.src, .int .i64 l.dst, .int .i64 l.term, .int .i64 l.index, .int .i64 l.was, .bool l.ok, .int .i64 l.commit, .int .i64 l.version, .slice A n c]] w (MustPost w (M.lright l)) := by
  have e : M.lright l = (M.wi l.src 1 7 && M.wi l.dst 1 7 && M.lkind l) := rfl
  by_cases h1 : l.kind = 1#8
  · exact chk_any l A n c _ true (M.lask l) w (by rw [h1]; exact looked_1) (by rw [e, M.lkind, if_pos h1, Bool.true_and]) fun _ => ⟨_, .inl rfl, rfl, fun w' hw => ask_any l A n c w' hn hn2⟩
  by_cases h2 : l.kind = 2#8
  · exact chk_any l A n c _ true (M.lvote l) w (by rw [h2]; exact looked_2) (by rw [e, M.lkind, if_neg h1, if_pos h2, Bool.true_and]) fun _ => ⟨_, .inr (.inl rfl), rfl, fun w' hw => vote_any l A n c w' hn hn2⟩
  by_cases h3 : l.kind = 3#8
  · exact chk_any l A n c _ true (M.lputs l) w (by rw [h3]; exact looked_3) (by rw [e, M.lkind, if_neg h1, if_neg h2, if_pos h3, Bool.true_and]) fun _ => ⟨_, .inr (.inr (.inl rfl)), rfl, fun w' hw => puts_any l A n c w' hn hn2 (hE.since hw)⟩
  by_cases h4 : l.kind = 4#8
  · exact chk_any l A n c _ true (M.ldone l) w (by rw [h4]; exact looked_4) (by rw [e, M.lkind, if_neg h1, if_neg h2, if_neg h3, if_pos h4, Bool.true_and]) fun _ => ⟨_, .inr (.inr (.inr (.inl rfl))), rfl, fun w' hw => done_any l A n c w' hn hn2⟩
  by_cases h5 : l.kind = 5#8
  · exact chk_any l A n c _ true (M.lack l) w (by rw [h5]; exact looked_5) (by rw [e, M.lkind, if_neg h1, if_neg h2, if_neg h3, if_neg h4, if_pos h5, Bool.true_and]) fun _ => ⟨_, .inr (.inr (.inr (.inr rfl))), rfl, fun w' hw => ack_any l A n c w' hn hn2⟩
  exact chk_any l A n c _ false false w (looked_no h1 h2 h3 h4 h5) (by rw [e, M.lkind, if_neg h1, if_neg h2, if_neg h3, if_neg h4, if_neg h5, Bool.and_false]; rfl) fun h => by cases h
end Go.Proofs.Ytdmpphioflcofaa.K

/- The contracts of letter's tried and Right. -/
namespace Go.Proofs.Ytdmpphioflcofaa.K
open Go Go.RowKit

theorem tmpsL (a x : Value) : (#[a] ++ ((Array.replicate 14 undef).setIfInBounds 3 x).setIfInBounds 0 x) = #[a, x, undef, undef, x, undef, undef, undef, undef, undef, undef, undef, undef, undef, undef] := by
  apply Array.toList_inj.1
  simp [List.replicate]
theorem catchL_idle (p : Addr) (w : World) :
    CallsD Try.prog 44 #[.pointer (some p)] .returning w fun e u' w' => e = .returned (.tuple #[]) ∧ u' = .returning ∧ w' = w := by
  refine callsD_of_wpS Try.func44 rfl fun c₀ cs hu => ?_
  apply wpS_seq
  apply wpS_region
  simp [wpOpsS, go_sem, recoverD, hu, Try.ntmps44, Exit.thenS]
  refine wpS_of_wp ?_
  rw [tmpsL]
  go_wp2
  cases c₀
  simp_all [bodyPostS, results, Try.results44]
set_option maxHeartbeats 1000000 in
set_option maxRecDepth 100000 in
theorem catchL_panicking (B : Nat) (v : Value) (w : World) (hb : w.heap[B]? = some (.cells #[v] 4 (0, 0))) :
    CallsD Try.prog 44 #[.pointer (some ⟨B, 0, none⟩)] (.panicking wrongP) w fun e u' w' =>
      e = .returned (.tuple #[]) ∧ u' = .panicking [{ v := .iface 90 (.agg #[]), recovered := true }] ∧ w' = (w.alloc (.cells #[] 90)).setCell ⟨B, 0, none⟩ (.bool false) := by
  have hta : ∀ w, (Instr.typeAssert (.iface 90 (.agg #[])) 20 90 true).run Try.prog w = .ok (.tuple #[.agg #[], .bool true]) w := fun _ => by kernel_rfl
  have hbc0 : w.cell? ⟨B, 0, none⟩ = some v := block_cell (xs := [v]) hb rfl
  have hbf0 : w.frozen? ⟨B, 0, none⟩ = false := frozen_of_row w B 0 _ _ hb
  have hbc := cell_old (.cells #[] 90) hbc0
  have hbf : (w.alloc (.cells #[] 90)).frozen? ⟨B, 0, none⟩ = false := (((Below.refl w.heap.size w).alloc (Nat.le_refl _) (.cells #[] 90)).frozen (p := ⟨B, 0, none⟩) (block_lt_of_cell hbc0)).trans hbf0
  refine callsD_of_wpS Try.func44 rfl fun c₀ cs hu => ?_
  unfold wrongP at hu
  clear hb hbc0 hbf0
  apply wpS_seq
  apply wpS_region
  simp [wpOpsS, go_sem, recoverD, hu, Try.ntmps44, Exit.thenS]
  refine wpS_of_wp ?_
  rw [tmpsL]
  go_wp2
  cases c₀
  simp_all [bodyPostS, results, Try.results44]
/-- whether something is done without a wrong -/
def TriedPost (w : World) (ok : Bool) (e : Ending) (w' : World) : Prop := e = .returned (.bool ok) ∧ Since w w'
set_option maxHeartbeats 4000000 in
set_option maxRecDepth 100000 in
theorem triedL_any (f : FuncId) (fst cap : Array Value) (ok : Bool) (w : World) (hfc : (f = 27 ∧ cap = #[] ∧ ∃ v, fst = #[v]))
    (hc : Calls Try.prog f (fst ++ cap) (w.alloc (.cells #[.bool false] 4)) (MustPost (w.alloc (.cells #[.bool false] 4)) ok)) :
    Calls Try.prog 26 #[.func (.func f) fst cap] w (TriedPost w ok) := by
  have hmf : ∀ (fn : Fn) (first cap : Array Value) (w : World), (Instr.makeFunc fn first cap).run Try.prog w = .ok (.func fn first cap) w := fun _ _ _ _ => rfl
  have BK0 := Lib.hid ((Bank.nil (Below.refl w.heap.size w)).box #[.bool false] 4 (by simp))
  have HC := Lib.hid hc
  clear hc
  obtain ⟨rfl, rfl, v, rfl⟩ := hfc
  simp only [List.append_toArray, List.cons_append, List.nil_append, List.append_nil] at HC
  all_goals
    go_enter_defers Try.func26, Try.ntmps26
    go_wp2_with fail
    generalize hw1 : (w.alloc (.cells #[.bool false] 4)) = w1 at *
    clear hw1
    refine HC.out.mono ?_
    rintro e w2 (⟨rfl, rfl, hs⟩ | ⟨rfl, rfl, hs⟩)
    · have BK2 := Lib.hid (BK0.out.call hs)
      have c1 := BK2.out.cell 0 rfl 0 rfl
      have f1 := BK2.out.free 0 rfl 0
      have BK3 := Lib.hid (BK2.out.boxSet 0 rfl 0 (.bool true))
      clear hs BK0 BK2
      go_wp2
      refine leaves_cons (f := 44) (args := #[.pointer (some ⟨w.heap.size, 0, none⟩)]) (by simp) (by simp [go_sem]) ?_
      refine (catchL_idle _ _).mono ?_
      rintro e u' w'' ⟨rfl, rfl, rfl⟩
      have r1 := BK3.out.cell 0 rfl 0 rfl
      exact ⟨.bool true, by simp [results, Try.results26, go_sem, r1], ⟨rfl, BK3.out.since⟩⟩
    · have BK2 := Lib.hid (BK0.out.call hs)
      have hbx := (BK2.out.boxAt 0 rfl).2
      have BK3 := Lib.hid ((BK2.out.alloc (.cells #[] 90)).boxSet 0 rfl 0 (.bool false))
      have HBX := Lib.hid hbx
      clear hs BK0 BK2 hbx
      go_wp2
      refine leaves_cons (f := 44) (args := #[.pointer (some ⟨w.heap.size, 0, none⟩)]) (by simp) (by simp [go_sem]) ?_
      refine (catchL_panicking w.heap.size _ _ HBX.out).mono ?_
      rintro e u' w'' ⟨rfl, rfl, rfl⟩
      have r1 := BK3.out.cell 0 rfl 0 rfl
      exact ⟨.bool false, by simp [results, Try.results26, go_sem, r1], ⟨rfl, BK3.out.since⟩⟩
set_option maxHeartbeats 4000000 in
set_option maxRecDepth 100000 in
/-- letter.Right -/
theorem lRight_any (l : M.Let) (A : Option Addr) (n c : Nat) (w : World) (hn : l.ents.length = n) (hn2 : n ≤ 9223372036854775807) (hE : EntsRd w A l.ents) :
    Calls Try.prog 10 #[.agg #[B8 l.kind, .int .i64 l.src, .int .i64 l.dst, .int .i64 l.term, .int .i64 l.index, .int .i64 l.was, .bool l.ok, .int .i64 l.commit, .int .i64 l.version, .slice A n c]] w (TriedPost w (M.lright l)) := by
  have hmf : ∀ (fn : Fn) (first cap : Array Value) (w : World), (Instr.makeFunc fn first cap).run Try.prog w = .ok (.func fn first cap) w := fun _ _ _ _ => rfl
  have S0 := Lib.hid (Since.alloc (Below.refl w.heap.size w) (.cells #[B8 l.kind, .int .i64 l.src, .int .i64 l.dst, .int .i64 l.term, .int .i64 l.index, .int .i64 l.was, .bool l.ok, .int .i64 l.commit, .int .i64 l.version, .slice A n c] 25))
  have HE := Lib.hid hE; have HN := Lib.hid hn
  clear hE hn
  go_enter Try.func10, Try.ntmps10
  go_wp2_with fail
  generalize w.alloc (.cells #[B8 l.kind, .int .i64 l.src, .int .i64 l.dst, .int .i64 l.term, .int .i64 l.index, .int .i64 l.was, .bool l.ok, .int .i64 l.commit, .int .i64 l.version, .slice A n c] 25) = w1 at *
  refine (triedL_any 27 #[.agg #[B8 l.kind, .int .i64 l.src, .int .i64 l.dst, .int .i64 l.term, .int .i64 l.index, .int .i64 l.was, .bool l.ok, .int .i64 l.commit, .int .i64 l.version, .slice A n c]] #[] (M.lright l) w1 ⟨rfl, rfl, _, rfl⟩ (lcheck_any l A n c _ HN.out hn2 (HE.out.since (Since.alloc S0.out _)))).mono ?_
  rintro e w2 ⟨rfl, hs⟩
  have HFIN := Lib.hid (show TriedPost w (M.lright l) (.returned (.bool (M.lright l))) w2 from ⟨rfl, S0.out.add hs⟩)
  clear hs
  go_wp2
  go_ret
  exact HFIN.out
end Go.Proofs.Ytdmpphioflcofaa.K
