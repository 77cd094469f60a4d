/- The contracts of barbicankit's putBytes and ApartBytes: rows of bytes that lie apart are told to. -/
import Derived.Test.YtfpjmeknjhhakaaApart
namespace Go.Proofs.Ytfpjmeknjhhakaa.K
open Go Go.RowKit

theorem IsBag.set {w : World} {g : Nat} {v : Value} (h : IsBag w g v) (v' : Value) : IsBag (w.setCell ⟨g, 5, none⟩ v') g v' := by
  obtain ⟨t, h⟩ := h
  exact ⟨t, block_set h 5 v'⟩
theorem IsBag.grown {w w1 : World} {g B k : Nat} {v x : Value} {e t : TypeId} {vals : List Value} (h : IsBag w g v) (ho : w.ownsRow B e 1 v k vals) (hB : g < B) (hg : (w.alloc (.cells #[x] t)).grownBy w1 v.ownBlock) : IsBag w1 g v := by
  have hl := h.lt
  have hvg : v.ownBlock ≠ some g := fun h => by
    have := (ho.lt g h).1; omega
  obtain ⟨t, h⟩ := h
  exact ⟨t, (hg.block g (by simp; omega) (Ne.symm hvg)).trans ((heap_alloc_old w _ hl).trans h)⟩
theorem IsBag.free {w : World} {g : Nat} {v : Value} (h : IsBag w g v) (j : Nat) : w.frozen? ⟨g, j, none⟩ = false := by
  obtain ⟨t, h⟩ := h
  exact frozen_of_row w g j _ t h

set_option maxHeartbeats 1000000 in
set_option maxRecDepth 100000 in
theorem putBytes_any (g B : Nat) (v : Value) (k : Nat) (vals : List Value) (A : Option Addr) (n c : Nat) (w : World) (hg : IsBag w g v) (hown : w.ownsRow B 27 1 v k vals) (hgB : g < B) (hB : B ≤ w.heap.size) (hk : k ≤ 1000000) :
    Calls Try.prog 48 #[.pointer (some ⟨g, 0, none⟩), .slice A n c] w fun e w' => e = .returned (.tuple #[]) ∧ ∃ v', IsBag w' g v' ∧ w'.ownsRow B 27 1 v' (k + 1) (vals ++ [.slice A n c]) ∧ Below g w w' := by
  obtain ⟨j0, hj0, hy0, hy1, hy2⟩ := info_parts infoBytes
  have c5 := hg.five
  have hgl := hg.lt
  have HG := Lib.hid hg; have HO := Lib.hid hown
  clear hg hown
  go_enter Try.func48, Try.ntmps48
  go_wp2_with (first
    | (at_builtin; refine wpList_append_own _ rfl _ _ 39 rfl B 27 j0 (.slice none 0 0) 1 24 Try.underlying39 hj0 hy0 hy1 hy2 rfl (by decide) v k vals rfl (HO.out.alloc _) ⟨w.heap.size, 0, none⟩ 1 1 [.slice A n c] rfl rfl (cell_last _ _ _) (by intro u hu; simp at hu; subst hu; rfl) (by unfold maxLen; omega) (by omega) (by simp; omega) ?_; intro v' w1 hown1 hgrow1 _; obtain ⟨L, cL, rfl, hgL, _⟩ := hown1.form (Nat.succ_pos _); have hg1 : IsBag w1 g v := IsBag.grown HG.out HO.out hgB hgrow1; have d5 := hg1.five; have f5 := hg1.free 5; have HG1 := Lib.hid hg1; have HO1 := Lib.hid hown1; clear hg1 hown1)
    | (with_reducible refine wpList_store_one rfl 39 (.tmp 13) (.tmp 11) rfl ⟨g, 5, none⟩ _ _ rfl rfl rfl (by kernel_rfl) d5 f5 ?_))
  go_end0
  refine ⟨rfl, _, HG1.out.set _, ?_, ?_⟩
  · exact HO1.out.kept (grownBy_setCell w1 g 5 _) (.inr (by simp [Value.ownBlock]; omega))
  · exact (((Below.refl _ _).mono (Nat.le_of_lt hgl)).alloc (Nat.le_of_lt hgl) _).grown hgrow1 (by simp; omega) (fun k' hk' => by have := (HO.out.lt k' hk').1; omega) |>.setCell (Nat.le_refl _) _

set_option maxHeartbeats 2000000 in
set_option maxRecDepth 100000 in
theorem ApartBytes_any (S : Option Addr) (m cS : Nat) (r : Nat → Rw) (f : Nat → List (BitVec 8)) (base : Nat) (w : World)
    (hS : ∀ j, j < m → ∃ b o, S = some ⟨b, o, none⟩ ∧ w.cell? ⟨b, o + j, none⟩ = some (r j).v) (hown : ∀ j, j < m → (r j).own w base 5 (f j))
    (hsep : ∀ i j, i < m → j < m → i ≠ j → ∀ b, (r i).blk = some b → (r j).blk ≠ some b) (hm : m ≤ 1000000) (hn : ∀ j, j < m → (r j).n ≤ 1000000000000) (hbase : base ≤ w.heap.size) :
    Calls Try.prog 19 #[.slice S m cS] w fun e w' => e = .returned (.bool true) ∧ Below base w w' := by
  have hlt : ∀ j, j < m → ∀ b, (r j).blk = some b → b < w.heap.size := fun j hj b hb => ((hown j hj).lt b hb).2
  have HS := Lib.hid hS; have HOWN := Lib.hid hown; have HSEP := Lib.hid hsep; have HN := Lib.hid hn; have HLT := Lib.hid hlt
  clear hS hown hsep hn hlt
  go_enter Try.func19, Try.ntmps19
  go_wp2
  have hbag : IsBag (w.alloc (.cells (bagCells nilS).toArray 117)) w.heap.size nilS := ⟨_, heap_alloc_new w _⟩
  have hb0 : Below w.heap.size w (w.alloc (.cells (bagCells nilS).toArray 117)) := (Below.refl _ _).alloc (Nat.le_refl _) _
  have hsz : (w.alloc (.cells (bagCells nilS).toArray 117)).heap.size = w.heap.size + 1 := by simp
  have hsz1 : w.heap.size + 1 ≤ (w.alloc (.cells (bagCells nilS).toArray 117)).heap.size := by omega
  have HBAG := Lib.hid hbag; have HB0 := Lib.hid hb0; have HZ := Lib.hid hsz1
  clear hbag hb0 hsz hsz1
  go_loopw [4] (fun i wr => ∃ k : Nat, k ≤ m ∧ i = .int .i64 (k : Int) ∧ ∃ v, IsBag wr w.heap.size v ∧ wr.ownsRow (w.heap.size + 1) 27 1 v k ((List.range k).map fun j => (r j).v) ∧ (k = 0 → v = nilS) ∧ Below w.heap.size w wr ∧ w.heap.size + 1 ≤ wr.heap.size) (fun i _ => m - (intOf i).toNat)
  case atStart => exact ⟨0, Nat.zero_le _, rfl, nilS, HBAG.out, World.ownsRow_nil _ _ _ _, fun _ => rfl, HB0.out, HZ.out⟩
  case round =>
    clear HBAG HB0 HZ
    obtain ⟨k, hk, rfl, v, hbag, hown, hv0, hb, hsz⟩ := hrel
    have k0 : (0 : Int) ≤ (k : Int) := by omega
    have HBAG := Lib.hid hbag; have HO := Lib.hid hown; have HV := Lib.hid hv0
    clear hbag hown hv0
    rcases Nat.lt_or_ge k m with h1 | h1
    · have i1 : (k : Int) < (m : Int) := by omega
      obtain ⟨b, o, rfl, hc⟩ := HS.out k h1
      obtain ⟨A, n, c, hr⟩ : ∃ A n c, r k = ⟨A, n, c⟩ := ⟨_, _, _, rfl⟩
      have hc1 : wr.cell? ⟨b, o + k, none⟩ = some (.slice A n c) := (hb.cell (block_lt_of_cell hc)).trans (by rw [hc, hr]; rfl)
      have HR := Lib.hid hr
      clear hc hr
      go_wp2_with fail
      refine (putBytes_any w.heap.size (w.heap.size + 1) v k _ A n c wr HBAG.out HO.out (by omega) hsz (by omega)).mono ?_
      rintro e w2 ⟨rfl, v', hg', ho', hb'⟩
      have HG' := Lib.hid hg'; have HO' := Lib.hid ho'; have HB' := Lib.hid (hb.trans hb')
      have hsz2 := hb'.size
      clear hg' ho' hb' hc1
      go_wp2
      go_roundw
      case rel =>
        refine ⟨k + 1, by omega, by go_num, v', HG'.out, ?_, fun h => by omega, HB'.out, by omega⟩
        have o := HO'.out
        rw [List.range_succ, List.map_append, List.map_cons, List.map_nil, HR.out]
        exact o
      case measure => simp [intOf]; omega
    · have hkm : k = m := by omega
      have i1 : ¬ (k : Int) < (m : Int) := by omega
      rw [hkm] at HO HV
      go_wp2_with fail
      have hcall : ∀ w1, Below wr.heap.size wr w1 → Calls Try.prog 87 #[v] w1 fun e w' => e = .returned (.bool true) ∧ Below base w1 w' ∧ w'.heap[w.heap.size]? = w1.heap[w.heap.size]? := by
        intro w1 hb1
        have hb01 : Below w.heap.size w w1 := hb.trans (hb1.mono hb.size)
        rcases Nat.eq_zero_or_pos m with hm0 | hm0
        · rw [HV.out hm0]
          refine (flatBytes_nil w1).mono ?_
          rintro e w2 ⟨he, hb2⟩
          exact ⟨he, hb2.mono (Nat.le_trans hbase hb01.size), hb2.block _ (by have := hb1.size; omega)⟩
        · obtain ⟨L, cL, rfl, hL1, hL2⟩ := HO.out.form (by omega)
          have hs1 := hb1.size
          refine (flatBytes_any (fun b => b = L ∨ b = w.heap.size) L m cL r f base w1 ⟨fun j hj => ?_, HSEP.out, fun _ h => absurd h (Nat.not_lt_zero _), fun _ _ _ h => absurd h (Nat.not_lt_zero _), fun _ _ h => absurd h (Nat.not_lt_zero _), fun b hb2 => ⟨?_, fun j hj h => ?_, fun _ h => absurd h (Nat.not_lt_zero _)⟩⟩ (fun j hj => ?_) hm HN.out (Nat.le_trans hbase hb01.size) (.inl rfl)).mono ?_
          · exact World.ownsRow.kept (HOWN.out j hj) (row := none) ⟨hb01.os, hb01.tape, hb01.output, hb01.size, fun k' hk' _ => hb01.block k' hk'⟩ (by cases h : (r j).v.ownBlock <;> simp)
          · rcases hb2 with rfl | rfl <;> omega
          · have := HLT.out j hj b h
            rcases hb2 with rfl | rfl <;> omega
          · have hc := (HO.out).cellAt j (by omega)
            refine (hb1.cell (p := ⟨L, j, none⟩) hL2).trans (hc.trans ?_)
            simp [hj]
          · rintro e w2 ⟨he, h2, h3⟩
            exact ⟨he, h2, h3 _ (.inr rfl)⟩
      refine (apart_any w.heap.size v base wr HBAG.out (by omega) hcall).mono ?_
      rintro e w2 ⟨rfl, hb2⟩
      have HB2 := Lib.hid ((hb.mono hbase).trans hb2)
      clear hb2 hcall
      go_wp2
      go_ret
      exact ⟨rfl, HB2.out⟩
end Go.Proofs.Ytfpjmeknjhhakaa.K
