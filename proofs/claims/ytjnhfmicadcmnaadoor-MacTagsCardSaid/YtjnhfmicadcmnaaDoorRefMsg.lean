/- The contract of the reference's message: the bytes, and what is put behind. -/
import Derived.Test.YtjnhfmicadcmnaaDoorRefLow
import Derived.Test.YtjnhfmicadcmnaaDoorRefRoots
import Derived.Test.YtjnhfmicadcmnaaDoorShaMsg
namespace Go.Proofs.YtjnhfmicadcmnaaDoor.K
open Go Go.RowKit

theorem msg_row (bs : List (BitVec 8)) (j : Nat) : bv (bs ++ [128#8] ++ List.replicate j 0#8) ++ [B8 0#8] = bv (bs ++ [128#8] ++ List.replicate (j + 1) 0#8) := by
  rw [List.replicate_succ', ← List.append_assoc, bv_append _ [0#8]]; rfl
/-- the last bytes, so many of them -/
def lastTo (n j : Nat) : List (BitVec 8) := (List.range j).map fun i => BitVec.ofNat 8 (n >>> (8 * (7 - i)))
theorem lastTo_succ (n j : Nat) : lastTo n (j + 1) = lastTo n j ++ [BitVec.ofNat 8 (n >>> (8 * (7 - j)))] := by simp [lastTo, List.range_succ]
theorem lastTo_eight (n : Nat) : lastTo n 8 = M.be8 n := rfl
theorem last_byte (m k : Nat) (hm : m < 18446744073709551616) : ((BitVec.ofNat 64 m) >>> k).setWidth 8 = BitVec.ofNat 8 (m >>> k) := by
  apply BitVec.eq_of_toNat_eq
  simp [BitVec.toNat_setWidth, Nat.mod_eq_of_lt hm]
theorem own_of_lit {w : World} {base : Nat} {e : TypeId} (hb : base ≤ w.heap.size) : (w.alloc (.cells #[] e)).ownsRow base e 1 (.slice (some ⟨w.heap.size, 0, none⟩) 0 0) 0 (bv []) :=
  World.ownsRow_lit w #[] 0 hb (by unfold maxLen; omega) rfl

theorem own_slice {w : World} {base size n : Nat} {e : TypeId} {v : Value} {xs : List Value} (h : w.ownsRow base e size v n xs) : ∃ A c, v = .slice A n c := by
  rcases h.2 with ⟨h0, rfl⟩ | ⟨g, cap, _, hv, _⟩
  · exact ⟨_, _, h0⟩
  · exact ⟨_, _, hv⟩
theorem cell_alloc_old {w : World} {a : Addr} {v : Value} (o : Obj) (h : w.cell? a = some v) : (w.alloc o).cell? a = some v :=
  (((Below.refl w.heap.size w).alloc (Nat.le_refl _) o).cell (block_lt_of_cell h)).trans h

set_option maxHeartbeats 1000000 in
set_option maxRecDepth 100000 in
theorem rmessage_any (A : Option Addr) (n c : Nat) (bs : List (BitVec 8)) (w : World) (hr : Rd w A bs) (hn : bs.length = n) (hn2 : n ≤ 1000000000000) (hnone : A = none → c = 0) :
    Calls Tryd.prog 28 #[.slice A n c] w fun e w' => ∃ g cap, e = .returned (.slice (some ⟨g, 0, none⟩) (M.total n) cap) ∧
      w'.ownsRow w.heap.size 5 1 (.slice (some ⟨g, 0, none⟩) (M.total n) cap) (M.total n) (bv (M.message bs)) ∧ Below w.heap.size w w' := by
  obtain ⟨i0, hi, hz0, hz1, hz2⟩ := info_parts infoByte
  have hnn : A = none → n = 0 ∧ c = 0 := fun h => ⟨by subst h; rw [← hn, hr.empty]; rfl, hnone h⟩
  have hlen : (bv bs).length = n * 1 := by rw [bv_length]; omega
  have hcells := hr.cells
  have HN := Lib.hid hn; have HR := Lib.hid hr; have HNN := Lib.hid hnn; have HL := Lib.hid hlen; have HC := Lib.hid hcells
  clear hn hr hnn hlen hcells hnone
  go_enter Tryd.func28, Tryd.ntmps28
  go_wp2_with (first
    | (at_builtin; refine wpList_append_own_any _ rfl _ _ 22 rfl w.heap.size 5 i0 (.int .u8 0) 1 1 Tryd.underlying22 hi hz0 hz1 hz2 rfl (by decide) _ 0 [] rfl (own_of_lit (Nat.le_refl _)) A n c (bv bs) rfl HNN.out HL.out (fun ad had j u hu => cell_alloc_old _ (HC.out ad had j u hu)) (bv_one bs) (by unfold maxLen; omega) (by omega) (by simp) ?_; intro v1 w1 hown1 hgrow1; rw [Nat.zero_add] at hown1; obtain ⟨A1, c1, rfl⟩ := own_slice hown1)
    | (at_builtin; refine wpList_append_own _ rfl _ _ 22 rfl w.heap.size 5 i0 (.int .u8 0) 1 1 Tryd.underlying22 hi hz0 hz1 hz2 rfl (by decide) _ _ _ rfl (hown1.alloc _) ⟨w1.heap.size, 0, none⟩ 1 1 [.int .u8 128] rfl rfl (cell_last _ _ _) (by intro u hu; simp at hu; subst hu; rfl) (by unfold maxLen; omega) (by omega) (by have := hgrow1.size; simp at this ⊢; omega) ?_; intro v2 w2 hown2 hgrow2 _))
  have hb2 : Below w.heap.size w w2 := ((((Below.refl w.heap.size w).alloc (Nat.le_refl _) _).grown hgrow1 (by simp) (fun k hk => ((own_of_lit (e := 5) (Nat.le_refl w.heap.size)).lt k hk).1)).alloc (by have := hgrow1.size; simp at this; omega) _).grown hgrow2 (by have := hgrow1.size; simp at this ⊢; omega) (fun k hk => (hown1.lt k hk).1)
  obtain ⟨g2, c2, rfl, _, _⟩ := own_some hown2 (by omega)
  have e2 : [] ++ bv bs ++ [Value.int .u8 128] = bv (bs ++ [128#8] ++ List.replicate 0 0#8) := by
    rw [List.replicate_zero, List.append_nil, bv_append]; rfl
  rw [e2] at hown2
  clear hgrow1 hgrow2 hown1
  have ht1 := M.total_ge n
  have ht2 : M.total n = (n + 8) / 64 * 64 + 64 := rfl
  have hmod := M.total_mod n
  obtain ⟨T, hT⟩ : ∃ T, T = M.total n := ⟨_, rfl⟩
  rw [← hT] at ht1 ht2 hmod
  have HT := Lib.hid hT; have HT2 := Lib.hid ht2; have HMOD := Lib.hid hmod
  have htn : T ≤ n + 72 := by omega
  clear hT ht2 hmod e2
  go_loopw [3] (fun v wr => ∃ (j m g cap : Nat), n + 1 + j + 8 ≤ T ∧ v = .slice (some ⟨g, 0, none⟩) m cap ∧ m = n + 1 + j ∧ wr.ownsRow w.heap.size 5 1 v m (bv (bs ++ [128#8] ++ List.replicate j 0#8)) ∧ Below w.heap.size w wr) (fun v _ => match v with | .slice _ m _ => T - m | _ => 0)
  case atStart => exact ⟨0, n + 1, g2, c2, by omega, by simp, rfl, by simpa using hown2, hb2⟩
  case round =>
    obtain ⟨j, m, g, cap, hj, rfl, hm, hown, hb⟩ := hrel
    have HM := Lib.hid hm; have HOWN := Lib.hid hown
    have hm1 : m + 8 ≤ T := by omega
    clear hm hown
    by_cases h56 : m % 64 = 56
    · have p56 : ((m : Int) % 64 != 56) = false := by simp; omega
      have hjT : j = T - n - 9 := by have := HT2.out; have := HM.out; omega
      have hmT : m = T - 8 := by have := HM.out; omega
      have HJT := Lib.hid hjT; have HMT := Lib.hid hmT
      have hown2 := HOWN.out
      rw [HM.out] at hown2
      clear HOWN
      clear h56 hjT hmT
      have em : Value.int .u64 ((n : Int) * 8) = W64 (BitVec.ofNat 64 (n * 8)) := by
        rw [W64, BitVec.toNat_ofNat, Nat.mod_eq_of_lt (by omega)]; simp
      have EM := Lib.hid em; clear em
      have hgrow := hown2
      have HO := Lib.hid hown2; clear hown2 hgrow
      go_wp2
      rw [EM.out]
      obtain ⟨u, hu⟩ : ∃ u, u = BitVec.ofNat 64 (n * 8) := ⟨_, rfl⟩
      rw [← hu]
      have HU := Lib.hid hu; clear hu
      go_loopw [3, 5] (fun v i wx => ∃ (q m' g' cap' : Nat), q ≤ 8 ∧ i = .int .i64 (7 - (q : Int)) ∧ v = .slice (some ⟨g', 0, none⟩) m' cap' ∧ m' = n + 1 + j + q ∧ wx.ownsRow w.heap.size 5 1 v m' (bv (bs ++ [128#8] ++ List.replicate j 0#8 ++ lastTo (n * 8) q)) ∧ Below w.heap.size w wx) (fun _ i _ => (intOf i + 1).toNat)
      case atStart => exact ⟨0, m, g, cap, by omega, by simp, rfl, by have := HM.out; omega, by rw [HM.out]; simpa [lastTo] using HO.out, hb⟩
      case round =>
        clear hb HO
        obtain ⟨q, m', g', cap', hq, rfl, rfl, hm', hown', hb'⟩ := hrel
        have HM' := Lib.hid hm'; have HO' := Lib.hid hown'
        have hmb : m' ≤ n + 100 := by have := HM.out; omega
        clear hm' hown'
        rcases Nat.lt_or_ge q 8 with h8 | h8
        · obtain ⟨k, hk⟩ : ∃ k, k = 7 - q := ⟨_, rfl⟩
          have ek : (7 - (q : Int)) = (k : Int) := by omega
          have k7 : k ≤ 7 := by omega
          have k0 : (0 : Int) ≤ (k : Int) := by omega
          have k8 : (0 : Int) ≤ 8 * (k : Int) := by omega
          have t8 : (8 * (k : Int)).toNat = 8 * k := by omega
          rw [ek]
          have HKQ := Lib.hid hk; have EK := Lib.hid ek
          clear hk ek
          go_wp2_with (at_builtin; refine wpList_append_own _ rfl _ _ 22 rfl w.heap.size 5 i0 (.int .u8 0) 1 1 Tryd.underlying22 hi hz0 hz1 hz2 rfl (by decide) _ _ _ rfl (HO'.out.alloc _) ⟨wr.heap.size, 0, none⟩ 1 1 [B8 ((u >>> (8 * k)).setWidth 8)] rfl rfl (cell_last _ _ _) (by intro x hx; simp at hx; subst hx; rfl) (by unfold maxLen; omega) (by omega) (by have := hb'.size; simp; omega) ?_; intro v3 w3 hown3 hgrow3 _)
          have hb3 : Below w.heap.size w w3 := (hb'.alloc hb'.size _).grown hgrow3 (by have := hb'.size; simp; omega) (fun k' hk' => (HO'.out.lt k' hk').1)
          obtain ⟨g3, c3, rfl, _, _⟩ := own_some hown3 (by omega)
          clear hgrow3
          go_roundw
          case rel =>
            refine ⟨q + 1, m' + 1, g3, c3, by omega, by have := EK.out; go_num, rfl, by have := HM'.out; omega, ?_, hb3⟩
            rw [lastTo_succ, ← List.append_assoc, bv_append _ [BitVec.ofNat 8 _], ← HKQ.out, ← last_byte _ _ (by omega), ← HU.out]
            exact hown3
          case measure => simp [intOf]
        · have hq8 : q = 8 := by omega
          have p8 : ¬ (0 : Int) ≤ 7 - (q : Int) := by omega
          have p9 : ¬ (q : Int) ≤ 7 := by omega
          have HQ8 := Lib.hid hq8; clear hq8
          go_wp2
          go_ret
          have e : m' = T := by have := HM'.out; have := HMT.out; have := HM.out; have := HQ8.out; omega
          refine ⟨g', cap', by rw [← HT.out, ← e]; rfl, ?_, hb'⟩
          have o := HO'.out
          rw [HQ8.out, lastTo_eight, HJT.out, HT.out, ← HN.out] at o
          rw [← HT.out, ← e]
          have em' : M.message bs = bs ++ [128#8] ++ List.replicate (M.total bs.length - bs.length - 9) 0#8 ++ M.be8 (bs.length * 8) := rfl
          rw [em']
          exact o
    · have p56 : ((m : Int) % 64 != 56) = true := by simp; omega
      have hj2 : n + 1 + (j + 1) + 8 ≤ T := by have := HT2.out; have := HM.out; omega
      clear h56
      go_wp2_with (at_builtin; refine wpList_append_own _ rfl _ _ 22 rfl w.heap.size 5 i0 (.int .u8 0) 1 1 Tryd.underlying22 hi hz0 hz1 hz2 rfl (by decide) _ _ _ rfl (HOWN.out.alloc _) ⟨wr.heap.size, 0, none⟩ 1 1 [.int .u8 0] rfl rfl (cell_last _ _ _) (by intro u hu; simp at hu; subst hu; rfl) (by unfold maxLen; omega) (by omega) (by have := hb.size; simp; omega) ?_; intro v3 w3 hown3 hgrow3 _)
      have hb3 : Below w.heap.size w w3 := (hb.alloc hb.size _).grown hgrow3 (by have := hb.size; simp; omega) (fun k' hk' => (HOWN.out.lt k' hk').1)
      obtain ⟨g3, c3, rfl, _, _⟩ := own_some hown3 (by omega)
      clear hgrow3
      go_roundw
      case rel => exact ⟨j + 1, m + 1, g3, c3, hj2, rfl, by have := HM.out; omega, by rw [← msg_row]; exact hown3, hb3⟩
      case measure => simp; omega
end Go.Proofs.YtjnhfmicadcmnaaDoor.K
