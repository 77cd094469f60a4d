/- Merged: FrNextS, FrNext, FrScanS, FrScanN, FrAllS, FrAll, FrRound, FrScan, FrPut. -/
import Derived.Test.YtfpjmeknjhhakaaSq6
import Derived.StillTailTactics
import Derived.RangeFuncNested
import Derived.RangeFuncBound
import Derived.RangeFuncCalls
import Derived.RangeFuncLeaves
import Derived.Shelf.Abstract
import Derived.Shelf.RegionOpen
import Derived.WalkKit
import Derived.OwnWalkIn
import Derived.TacticsInMore
import Derived.LoopNIn
import Derived.LoopIn
set_option linter.unusedVariables false
/- Small parts of the contract of frame's scan.next. -/
namespace Go.Proofs.Ytfpjmeknjhhakaa.K
open Go Go.RowKit

theorem heap_set_same {w0 w : World} {S : Nat} (j : Nat) (v : Value) {k : Nat} (h : w.heap[k]? = w0.heap[k]?) : (w.setCell ⟨S, j, none⟩ v).heap[k]? = (w0.setCell ⟨S, j, none⟩ v).heap[k]? := by
  show (w.heap.modify S _)[k]? = (w0.heap.modify S _)[k]?
  rw [Array.getElem?_modify, Array.getElem?_modify, h]
/-- a block that lay before is written, in the base world too -/
theorem Bank.storeOld {w0 w : World} {L : List Acc} (h : Bank w0 w L) {S : Nat} (hS : S < w0.heap.size) (j : Nat) (v : Value) : Bank (w0.setCell ⟨S, j, Option.none⟩ v) (w.setCell ⟨S, j, Option.none⟩ v) L := by
  have hz : ∀ w : World, (w.setCell ⟨S, j, Option.none⟩ v).heap.size = w.heap.size := fun w => by simp
  refine ⟨⟨h.since.os, h.since.tape, h.since.output, by rw [hz, hz]; exact h.since.size, fun k hk => heap_set_same j v (h.since.block k (by rw [hz] at hk; exact hk))⟩, fun p hp => ?_, h.sep⟩
  have hne : p.v.ownBlock ≠ some S := fun e => by have := (h.lt hp e).1; omega
  have := (h.own p hp).kept (grownBy_setCell w S j v) (by
    cases hq : p.v.ownBlock with
    | none => exact .inl rfl
    | some x => exact .inr (fun e => hne (hq.trans e)))
  rw [hz]
  exact this
/-- the block of a scan -/
def scanL (A : Option Addr) (n c : Nat) (u : Nat) (sp : Bool) : List Value := [.slice A n c, .int .i64 (u : Int), .bool sp]
def ScanAt (w : World) (S : Nat) (A : Option Addr) (n c u : Nat) (sp : Bool) : Prop := w.heap[S]? = some (.cells (scanL A n c u sp).toArray 124 (0, 0))
theorem ScanAt.cells {w : World} {S : Nat} {A : Option Addr} {n c u : Nat} {sp : Bool} (h : ScanAt w S A n c u sp) : w.cell? ⟨S, 0, none⟩ = some (.slice A n c) ∧ w.cell? ⟨S, 1, none⟩ = some (.int .i64 (u : Int)) ∧ w.cell? ⟨S, 2, none⟩ = some (.bool sp) := ⟨block_cell h rfl, block_cell h rfl, block_cell h rfl⟩
theorem ScanAt.free {w : World} {S : Nat} {A : Option Addr} {n c u : Nat} {sp : Bool} (h : ScanAt w S A n c u sp) : w.frozen? ⟨S, 0, none⟩ = false ∧ w.frozen? ⟨S, 1, none⟩ = false ∧ w.frozen? ⟨S, 2, none⟩ = false := ⟨frozen_of_row w S 0 _ _ h, frozen_of_row w S 1 _ _ h, frozen_of_row w S 2 _ _ h⟩
theorem ScanAt.since {w w' : World} {S : Nat} {A : Option Addr} {n c u : Nat} {sp : Bool} (h : ScanAt w S A n c u sp) (hs : Since w w') : ScanAt w' S A n c u sp := hs.at h
theorem ScanAt.lt {w : World} {S : Nat} {A : Option Addr} {n c u : Nat} {sp : Bool} (h : ScanAt w S A n c u sp) : S < w.heap.size := (Array.getElem?_eq_some_iff.1 h).1
theorem ScanAt.spoil {w : World} {S : Nat} {A : Option Addr} {n c u : Nat} {sp : Bool} (h : ScanAt w S A n c u sp) (b : Bool) : ScanAt (w.setCell ⟨S, 2, none⟩ (.bool b)) S A n c u b := block_set h 2 _
theorem ScanAt.go {w : World} {S : Nat} {A : Option Addr} {n c u : Nat} {sp : Bool} (h : ScanAt w S A n c u sp) (A' : Option Addr) (n' c' u' : Nat) : ScanAt ((w.setCell ⟨S, 0, none⟩ (.slice A' n' c')).setCell ⟨S, 1, none⟩ (.int .i64 (u' : Int))) S A' n' c' u' sp := block_set (block_set h 0 _) 1 _
/-- a row that no block that was written lies in -/
theorem RowRd.grown {w w' : World} {x : Rw} {bs : List (BitVec 8)} (h : RowRd w x bs) {row : Option Nat} (hg : w.grownBy w' row) (hne : ∀ a, x.A = some a → row ≠ some a.block) : RowRd w' x bs := by
  refine ⟨fun k hk => ?_, h.len, h.none⟩
  obtain ⟨b, o, e, hc⟩ := h.rd k hk
  exact ⟨b, o, e, hg.cell hc (fun e2 => hne _ e (by rw [e2]))⟩
def NextPost (w : World) (S : Nat) (A : Option Addr) (n c u : Nat) (l : List (BitVec 8)) (e : Ending) (w' : World) : Prop :=
  (∃ s kd D m d, F.first l = (none, s) ∧ e = .returned (.tuple #[.agg #[.int .i64 kd, .slice D m d], .bool false]) ∧ ScanAt w' S A n c u s ∧ w.grownBy w' (some S)) ∨
  (∃ f A' D m d, F.first l = (some f, false) ∧ m = f.data.length ∧ e = .returned (.tuple #[.agg #[.int .i64 f.kind, .slice D m d], .bool true]) ∧ w'.ownsRow w.heap.size 5 1 (.slice D m d) m (bv f.data) ∧
    ScanAt w' S A' (n - (9 + m)) (c - (9 + m)) (u + (9 + m)) false ∧ RowRd w' ⟨A', n - (9 + m), c - (9 + m)⟩ (l.drop (9 + m)) ∧ (∀ a, A' = some a → ∃ a0, A = some a0 ∧ a0.block = a.block) ∧ w.grownBy w' (some S))
theorem grown_since {w wS w' : World} {S : Nat} (h : w.grownBy wS (some S)) (hs : Since wS w') : w.grownBy w' (some S) :=
  ⟨hs.os.trans h.os, hs.tape.trans h.tape, hs.output.trans h.output, Nat.le_trans h.size hs.size, fun k hk hne => (hs.block k (Nat.lt_of_lt_of_le hk h.size)).trans (h.block k hk hne)⟩
theorem grown_two {a b c : World} {S : Nat} (h : a.grownBy b (some S)) (k : b.grownBy c (some S)) : a.grownBy c (some S) :=
  ⟨k.os.trans h.os, k.tape.trans h.tape, k.output.trans h.output, Nat.le_trans h.size k.size, fun i hi hne => (k.block i (Nat.lt_of_lt_of_le hi h.size) hne).trans (h.block i hi hne)⟩
theorem first_few (l : List (BitVec 8)) (h : l.length < 9) : F.first l = (none, false) := by unfold F.first; rw [if_pos h]
theorem first_big (l : List (BitVec 8)) (h : ¬ l.length < 9) (h2 : 262144 < (F.num4 (l.drop 1)).toNat) : F.first l = (none, true) := by unfold F.first; rw [if_neg h, if_pos h2]
theorem first_short (l : List (BitVec 8)) (h : ¬ l.length < 9) (h2 : ¬ 262144 < (F.num4 (l.drop 1)).toNat) (h3 : l.length < 9 + (F.num4 (l.drop 1)).toNat) : F.first l = (none, false) := by unfold F.first; rw [if_neg h, if_neg h2, if_pos h3]
theorem first_bad (l : List (BitVec 8)) (h : ¬ l.length < 9) (h2 : ¬ 262144 < (F.num4 (l.drop 1)).toNat) (h3 : ¬ l.length < 9 + (F.num4 (l.drop 1)).toNat) (h4 : F.num4 (l.drop 5) ≠ F.fsum (l.take 5 ++ (l.drop 9).take (F.num4 (l.drop 1)).toNat)) : F.first l = (none, true) := by unfold F.first; rw [if_neg h, if_neg h2, if_neg h3, if_neg h4]
theorem first_good (l : List (BitVec 8)) (h : ¬ l.length < 9) (h2 : ¬ 262144 < (F.num4 (l.drop 1)).toNat) (h3 : ¬ l.length < 9 + (F.num4 (l.drop 1)).toNat) (h4 : F.num4 (l.drop 5) = F.fsum (l.take 5 ++ (l.drop 9).take (F.num4 (l.drop 1)).toNat)) :
    F.first l = (some ⟨((l.getD 0 0).toNat : Int), (l.drop 9).take (F.num4 (l.drop 1)).toNat⟩, false) := by unfold F.first; rw [if_neg h, if_neg h2, if_neg h3, if_pos h4]
/-- a part of a row -/
theorem rowRd_cut {w : World} {b o n c : Nat} {bs : List (BitVec 8)} (h : RowRd w ⟨some ⟨b, o, none⟩, n, c⟩ bs) (lo len c' : Nat) (hl : lo + len ≤ n) : RowRd w ⟨some ⟨b, o + lo, none⟩, len, c'⟩ ((bs.drop lo).take len) := by
  have hN : bs.length = n := h.len
  refine ⟨fun j hj => ?_, by show _ = len; rw [List.length_take, List.length_drop]; omega, fun h => by cases h⟩
  rw [List.length_take, List.length_drop] at hj
  obtain ⟨b', o', e, hc⟩ := h.rd (lo + j) (by omega)
  obtain ⟨rfl, rfl⟩ : b = b' ∧ o = o' := by simpa using e
  refine ⟨b, o + lo, rfl, ?_⟩
  rw [Nat.add_assoc, hc, List.getElem_take, List.getElem_drop]
theorem conv_B8_num {P : Program} (w : World) (src dst : TypeId) (x : BitVec 8) (hs : P.underlying src = some (.int .u8)) (hd : P.underlying dst = some (.int .i64)) : (convert src dst (B8 x)).run P w = .ok (.int .i64 (x.toNat : Int)) w := by
  have h : IntKind.i64.wrap (x.toNat : Int) = (x.toNat : Int) := IntWalk.i64_in _ (by have := x.isLt; omega)
  simp [convert, run_underlying hs, run_underlying hd, Conv.intToInt, B8, h]
theorem rowRd_drewN {w : World} {x : Rw} {bs : List (BitVec 8)} (h : RowRd w x bs) (q : Nat) : RowRd (w.drewN q) x bs := ⟨h.rd, h.len, h.none⟩
end Go.Proofs.Ytfpjmeknjhhakaa.K

/- The contract of frame's scan.next. -/
namespace Go.Proofs.Ytfpjmeknjhhakaa.K
open Go Go.RowKit

set_option maxHeartbeats 4000000 in
set_option maxRecDepth 100000 in
theorem next_any (S : Nat) (A : Option Addr) (n c u : Nat) (l : List (BitVec 8)) (w : World) (hS : ScanAt w S A n c u false) (hr : RowRd w ⟨A, n, c⟩ l) (hn : n ≤ c) (hc : c ≤ 9223372036854775807) (hu : u + n ≤ 100000000000000) (hne : ∀ a, A = some a → a.block ≠ S) :
    Calls Try.prog 105 #[.pointer (some ⟨S, 0, none⟩)] w (NextPost w S A n c u l) := by
  have hlen : l.length = n := hr.len
  have hSl := hS.lt
  have BK0 := Lib.hid (show Bank w (w.alloc (.cells #[.int .i64 0, .slice none 0 0] 36)) [boxAcc w.heap.size 36 [.int .i64 0, .slice none 0 0]] from (Bank.nil (Below.refl w.heap.size w)).box _ _ (by simp))
  have S0 := Lib.hid (hS.since BK0.out.since); have R0 := Lib.hid (hr.below BK0.out.since)
  have HNE := Lib.hid hne; have HLEN := Lib.hid hlen
  have HS := Lib.hid hS; have HR := Lib.hid hr
  clear hS hr hne hlen
  go_enter Try.func105, Try.ntmps105
  go_upto_region 1 with fail
  change Code.wp _ _ _ _ (w.alloc (.cells #[.int .i64 0, .slice none 0 0] 36))
  generalize w.alloc (.cells #[.int .i64 0, .slice none 0 0] 36) = w0 at *
  obtain ⟨s0, s1, s2⟩ := S0.out.cells
  obtain ⟨z0, z1, z2⟩ := S0.out.free
  have x0 := BK0.out.cell 0 rfl 0 rfl
  have x1 := BK0.out.cell 0 rfl 1 rfl
  have y0 := BK0.out.free 0 rfl 0
  have y1 := BK0.out.free 0 rfl 1
  by_cases h9 : n < 9
  · have i9 : (n : Int) < 9 := by omega
    have HFI := Lib.hid (show F.first l = (none, false) by unfold F.first; rw [if_pos (by rw [HLEN.out]; exact h9)])
    have BK1 := Lib.hid ((BK0.out.boxSet 0 rfl 0 (.int .i64 0)).boxSet 0 rfl 1 (.slice none 0 0))
    clear s0 s1 s2 z0 z1 z2
    obtain ⟨s0, s1, s2⟩ := S0.out.cells
    go_wp2_with fail
    have rx0 := BK1.out.cell 0 rfl 0 rfl
    have rx1 := BK1.out.cell 0 rfl 1 rfl
    refine bodyPost_ret (v := .tuple #[.agg #[.int .i64 0, .slice none 0 0], .bool false]) (by simp [results, Try.results105, go_sem, rx0, rx1]) rfl ?_
    exact .inl ⟨false, 0, none, 0, 0, HFI.out, rfl, HS.out.since BK1.out.since, grown_since (World.grownBy.refl _ _) BK1.out.since⟩
  · have i9 : ¬ (n : Int) < 9 := by omega
    obtain ⟨b, o, hA, _⟩ := HR.out.rd 0 (by rw [HLEN.out]; omega)
    have hA' : A = some ⟨b, o, none⟩ := hA
    clear hA
    subst hA'
    have hbS : b ≠ S := HNE.out _ rfl
    have HNB := Lib.hid hbS
    have n9 := Lib.hid (show ¬ l.length < 9 by rw [HLEN.out]; exact h9)
    have HV := Lib.hid (show ∃ v, v = F.num4 (l.drop 1) from ⟨_, rfl⟩)
    go_wp2_with fail
    refine (number_any S 1 b o n c l w0 s0 R0.out (by omega) hn hc).mono ?_
    rintro e w0' ⟨rfl, rfl⟩
    clear HV
    obtain ⟨v, hv⟩ : ∃ v, v = F.num4 (l.drop 1) := ⟨_, rfl⟩
    rw [← hv]
    have HV := Lib.hid hv
    clear hv
    have hg : ∀ t, binOp .gtr t (W32 v) (.int .u32 262144) = pure (.bool (decide (262144 < v.toNat))) := fun t => W32_gtr_lit t v 262144 (by omega)
    have hcv := fun w => conv_W32_int (P := Try.prog) w 40 3 v Try.underlying40 Try.underlying3
    by_cases h2 : 262144 < v.toNat
    · have d2 : decide (262144 < v.toNat) = true := by simpa using h2
      have HFI := Lib.hid (first_big l n9.out (by rw [← HV.out]; exact h2))
      have BK1 := Lib.hid (BK0.out.storeOld hSl 2 (.bool true)); have HSS := Lib.hid (HS.out.spoil true)
      have S1 := Lib.hid (HSS.out.since BK1.out.since)
      go_upto_region 5 with fail
      generalize w0.setCell ⟨S, 2, none⟩ (.bool true) = w1 at *
      clear s0 s1 s2 z0 z1 z2 x0 x1 y0 y1 hg d2 h2 S0 BK0 R0
      obtain ⟨s0, s1, s2⟩ := S1.out.cells
      have x0 := BK1.out.cell 0 rfl 0 rfl
      have x1 := BK1.out.cell 0 rfl 1 rfl
      have y0 := BK1.out.free 0 rfl 0
      have y1 := BK1.out.free 0 rfl 1
      have BK2 := Lib.hid ((BK1.out.boxSet 0 rfl 0 (.int .i64 0)).boxSet 0 rfl 1 (.slice none 0 0))
      go_wp2_with fail
      have rx0 := BK2.out.cell 0 rfl 0 rfl
      have rx1 := BK2.out.cell 0 rfl 1 rfl
      refine bodyPost_ret (v := .tuple #[.agg #[.int .i64 0, .slice none 0 0], .bool false]) (by simp [results, Try.results105, go_sem, rx0, rx1]) rfl ?_
      exact .inl ⟨true, 0, none, 0, 0, HFI.out, rfl, HSS.out.since BK2.out.since, grown_since (grownBy_setCell _ _ _ _) BK2.out.since⟩
    · have d2 : decide (262144 < v.toNat) = false := by simpa using h2
      have BK1 := Lib.hid (BK0.out.storeOld hSl 2 (.bool false)); have HSS := Lib.hid (HS.out.spoil false)
      have S1 := Lib.hid (HSS.out.since BK1.out.since)
      have RS := Lib.hid (HR.out.grown (grownBy_setCell w S 2 (.bool false)) (fun a e => by cases e; simpa using fun e => HNB.out e.symm))
      have HGS := Lib.hid (grownBy_setCell w S 2 (.bool false))
      have hSl2 : S < (w.setCell ⟨S, 2, none⟩ (.bool false)).heap.size := by simpa using hSl
      have hwz : (w.setCell ⟨S, 2, none⟩ (.bool false)).heap.size = w.heap.size := by simp
      have HWZ := Lib.hid hwz
      clear hwz
      go_upto_region 5 with fail
      generalize w0.setCell ⟨S, 2, none⟩ (.bool false) = w1 at *
      generalize w.setCell ⟨S, 2, none⟩ (.bool false) = wS at *
      clear s0 s1 s2 z0 z1 z2 x0 x1 y0 y1 hg d2 S0 BK0 R0
      obtain ⟨s0, s1, s2⟩ := S1.out.cells
      have x0 := BK1.out.cell 0 rfl 0 rfl
      have x1 := BK1.out.cell 0 rfl 1 rfl
      have y0 := BK1.out.free 0 rfl 0
      have y1 := BK1.out.free 0 rfl 1
      have hv5 : (v.toNat : Int) ≤ 262144 := by omega
      have hv0 : (0 : Int) ≤ (v.toNat : Int) := by omega
      by_cases h3 : n < 9 + v.toNat
      · have i3 : (n : Int) < 9 + (v.toNat : Int) := by omega
        have HFI := Lib.hid (first_short l n9.out (by rw [← HV.out]; exact h2) (by rw [← HV.out, HLEN.out]; exact h3))
        have BK2 := Lib.hid ((BK1.out.boxSet 0 rfl 0 (.int .i64 0)).boxSet 0 rfl 1 (.slice none 0 0))
        go_wp2_with fail
        have rx0 := BK2.out.cell 0 rfl 0 rfl
        have rx1 := BK2.out.cell 0 rfl 1 rfl
        refine bodyPost_ret (v := .tuple #[.agg #[.int .i64 0, .slice none 0 0], .bool false]) (by simp [results, Try.results105, go_sem, rx0, rx1]) rfl ?_
        exact .inl ⟨false, 0, none, 0, 0, HFI.out, rfl, HSS.out.since BK2.out.since, grown_since HGS.out BK2.out.since⟩
      · have i3 : ¬ (n : Int) < 9 + (v.toNat : Int) := by omega
        obtain ⟨N, hN⟩ : ∃ N, N = v.toNat := ⟨_, rfl⟩
        rw [← hN] at i3 h3 hv5 hv0 h2 hcv
        have HN := Lib.hid hN
        have hb0 := (RS.out.rd 0 (by rw [HLEN.out]; omega))
        have hb0' : wS.cell? ⟨b, o, none⟩ = some (B8 (l.getD 0 0)) := by
          obtain ⟨b', o', e, hcx⟩ := hb0
          obtain ⟨rfl, rfl⟩ : b = b' ∧ o = o' := by simpa using e
          rw [show b = b from rfl, ← Nat.add_zero o, hcx]
          simp [show 0 < l.length by rw [HLEN.out]; omega]
        have K10 : ∀ w', Since wS w' → w'.cell? ⟨S, 0, none⟩ = some (.slice (some ⟨b, o, none⟩) n c) ∧ w'.cell? ⟨b, o, none⟩ = some (B8 (l.getD 0 0)) := fun w' h => ⟨(HSS.out.since h).cells.1, (h.cell (p := ⟨b, o, none⟩) (block_lt_of_cell hb0')).trans hb0'⟩
        have K10H := Lib.hid K10
        have RD9 := Lib.hid (show ∀ A9, A9 = (if c = 9 then some (⟨b, o, none⟩ : Addr) else some ⟨b, o + 9, none⟩) → RowRd wS ⟨A9, N, c - 9⟩ ((l.drop 9).take N) from fun A9 e => by
          by_cases h : c = 9
          · rw [if_pos h] at e
            subst e
            have hN0 : N = 0 := by omega
            subst hN0
            exact ⟨by rw [List.take_zero]; exact Rd.of_nil _ _, rfl, fun h => by cases h⟩
          · rw [if_neg h] at e
            subst e
            exact rowRd_cut RS.out 9 N _ (by omega))
        clear hb0 hb0' K10
        have hcv2 := fun w x => conv_B8_num (P := Try.prog) w 5 3 x Try.underlying5 Try.underlying3
        go_upto_region 10 with fail
        rw [← hN]
        clear hN
        go_cut [5] (fun s5 wx => s5 = .int .i64 (9 + (N : Int)) ∧ ∃ D d, Bank wS wx [rowAcc D N d ((l.drop 9).take N), boxAcc w.heap.size 36 [.int .i64 ((l.getD 0 0).toNat : Int), .slice D N d]])
        case first =>
          have hB := BK1.out
          have hsl := K10H.out _ hB.since.drew
          have hsl2 := K10H.out _ (hB.since.alloc (.cells #[] 5)).drew
          have t0 : (0 : Int) < (n : Int) := by omega
          have t1 : (9 : Int) ≤ 9 + (N : Int) := by omega
          have t2 : 9 + (N : Int) ≤ (c : Int) := by omega
          have t3 : (9 + (N : Int)).toNat = 9 + N := by omega
          have t4 : 9 + N - 9 = N := by omega
          have t5 : (0 : Int) ≤ 9 + (N : Int) := by omega
          have t6 : 0 < n := by omega
          have t7 : IntKind.i64.wrap (9 + (N : Int)) = 9 + (N : Int) := IntWalk.i64_in _ (by omega)
          generalize l.getD 0 0 = y at *
          by_cases hc9 : c = 9
          · have r9 := RD9.out (some ⟨b, o, none⟩) (by rw [if_pos hc9])
            have hn9 : n = 9 := by omega
            have hN0 : N = 0 := by omega
            subst hc9 hn9 hN0
            rw [show (9 : Int) + ((0 : Nat) : Int) = 9 from rfl]
            clear t0 t1 t2 t3 t4 t5 t6 t7 i3 hv5 hv0
            go_region_held3 (fun w' => w'.cell? ⟨S, 0, none⟩ = some (.slice (some ⟨b, o, none⟩) 9 9) ∧ w'.cell? ⟨b, o, none⟩ = some (B8 y))
              (first
                | with_reducible exact hsl
                | with_reducible exact hsl2
                | with_reducible exact K10H.out _ hB.since
                | with_reducible exact K10H.out _ (Bank.boxSet (Bank.boxSet hB 1 rfl 0 _) 1 rfl 1 _).since
                | fail "keep")
              (first
                | (((with_reducible refine step_bank (Bank.drew (Bank.lit0 hB _)) ?_); intro hB); refine step_append_bytes hB rfl _ _ 27 rfl 5 infoByte Try.underlying27 0 _ _ _ [] rfl rfl _ _ _ _ rfl (Since.row hB.since r9) (by omega) ?_; intro A4 n4 c4 w4 hn4 hB; have hn4' := Lib.hid hn4; clear hn4; dsimp only [List.set] at hB; rw [List.nil_append] at hB; have x0 := hB.cell 1 rfl 0 rfl; have x1 := hB.cell 1 rfl 1 rfl; have y0 := hB.free 1 rfl 0; have y1 := hB.free 1 rfl 1)
                | fail "arm")
            all_goals
              have HFIN := Lib.hid (Bank.boxSet (Bank.boxSet hB 1 rfl 0 (.int .i64 (y.toNat : Int))) 1 rfl 1 (.slice A4 n4 c4))
              have hn4 := hn4'.out
              rw [Nat.zero_add] at hn4
              subst hn4
              clear hB x0 x1 y0 y1 hsl hsl2 hn4'
              go_wp2_with fail
              go_meet
              exact ⟨rfl, A4, c4, HFIN.out⟩
          · have r9 := RD9.out (some ⟨b, o + 9, none⟩) (by rw [if_neg hc9])
            go_region_held3 (fun w' => w'.cell? ⟨S, 0, none⟩ = some (.slice (some ⟨b, o, none⟩) n c) ∧ w'.cell? ⟨b, o, none⟩ = some (B8 y))
              (first
                | with_reducible exact hsl
                | with_reducible exact hsl2
                | with_reducible exact K10H.out _ hB.since
                | with_reducible exact K10H.out _ (Bank.boxSet (Bank.boxSet hB 1 rfl 0 _) 1 rfl 1 _).since
                | fail "keep")
              (first
                | (((with_reducible refine step_bank (Bank.drew (Bank.lit0 hB _)) ?_); intro hB); refine step_append_bytes hB rfl _ _ 27 rfl 5 infoByte Try.underlying27 0 _ _ _ [] rfl rfl _ _ _ _ rfl (Since.row hB.since r9) (by omega) ?_; intro A4 n4 c4 w4 hn4 hB; have hn4' := Lib.hid hn4; clear hn4; dsimp only [List.set] at hB; rw [List.nil_append] at hB; have x0 := hB.cell 1 rfl 0 rfl; have x1 := hB.cell 1 rfl 1 rfl; have y0 := hB.free 1 rfl 0; have y1 := hB.free 1 rfl 1)
                | fail "arm")
            all_goals
              have HFIN := Lib.hid (Bank.boxSet (Bank.boxSet hB 1 rfl 0 (.int .i64 (y.toNat : Int))) 1 rfl 1 (.slice A4 n4 c4))
              have hn4 := hn4'.out
              rw [Nat.zero_add] at hn4
              subst hn4
              clear hB x0 x1 y0 y1 hsl hsl2 hn4'
              go_wp2_with fail
              go_meet
              exact ⟨rfl, A4, c4, HFIN.out⟩
        case rest =>
          obtain ⟨rfl, D, d, hB⟩ := hcut
          obtain ⟨yb, hyb⟩ : ∃ yb, yb = l.getD 0 0 := ⟨_, rfl⟩
          rw [← hyb] at hB
          have HYB := Lib.hid hyb
          clear hyb
          clear s0 s1 s2 x0 x1 y0 y1 S1 BK1
          have BK5 := Lib.hid hB
          have S5 := Lib.hid (HSS.out.since hB.since)
          have R5 := Lib.hid (show RowRd wc ⟨some ⟨b, o, none⟩, 5, c⟩ (l.take 5) by simpa using rowRd_cut (Since.row hB.since RS.out) 0 5 c (by omega))
          have RD := Lib.hid (hB.row 0 rfl)
          clear hB
          generalize wc = w5 at *
          obtain ⟨s0, s1, s2⟩ := S5.out.cells
          have x1 := BK5.out.cell 1 rfl 1 rfl
          have t5 : (5 : Int) ≤ (c : Int) := by omega
          have hN63 : N ≤ 9223372036854775807 := by omega
          have HSM := Lib.hid (F.crc_append 4294967295#32 (l.take 5) ((l.drop 9).take N))
          have Q1 := Lib.hid (fun a => more_first (some ⟨b, o, none⟩) 5 c (l.take 5) (w5.drewN a) (rowRd_drewN R5.out a) (by omega))
          have Q2 := Lib.hid (fun a => more_any (F.crc 4294967295#32 (l.take 5)) D N d ((l.drop 9).take N) (w5.drewN a) (rowRd_drewN RD.out a) hN63)
          go_wp2_with fail
          go_quiet ((first
            | (go_at_call 50; with_reducible exact q_same (Q1.out _))
            | (go_at_call 50; with_reducible exact q_same (Q2.out _))
            | fail "q"))
          rw [← HSM.out]
          go_upto_region 12 with fail
          have S6 := Lib.hid (S5.out.since ((Below.refl _ w5).alloc (Nat.le_refl _) (.cells #[] 0)) |> fun _ => (show ScanAt (w5.drewN nq) S (some ⟨b, o, none⟩) n c u false from S5.out))
          have BK6 := Lib.hid (BK5.out.drewN nq)
          have R6 := Lib.hid (Since.row BK6.out.since RS.out)
          obtain ⟨z, hz⟩ : ∃ z, z = ~~~F.crc 4294967295#32 (l.take 5 ++ (l.drop 9).take N) := ⟨_, rfl⟩
          rw [← hz]
          have HZ := Lib.hid (show z = F.fsum (l.take 5 ++ (l.drop 9).take N) from hz)
          generalize w5.drewN nq = w6 at *
          clear hz s0 s1 s2 x1 Q1 Q2 HSM S5 BK5 R5 RD
          obtain ⟨s0, s1, s2⟩ := S6.out.cells
          obtain ⟨f0, f1, f2⟩ := S6.out.free
          obtain ⟨y5, hy5⟩ : ∃ y5, y5 = F.num4 (l.drop 5) := ⟨_, rfl⟩
          have HY5 := Lib.hid hy5
          clear hy5
          go_wp2_with fail
          refine (number_any S 5 b o n c l w6 s0 R6.out (by omega) hn hc).mono ?_
          rintro e w6' ⟨rfl, rfl⟩
          rw [← HY5.out]
          by_cases heq : y5 = z
          case neg =>
            have hne : (y5 != z) = true := by simpa using heq
            have HFI := Lib.hid (first_bad l n9.out (by rw [← HV.out, ← HN.out]; exact h2) (by rw [← HV.out, ← HN.out, HLEN.out]; exact h3) (by rw [← HV.out, ← HN.out, ← HY5.out, ← HZ.out]; exact heq))
            have BK7 := Lib.hid (BK6.out.storeOld hSl2 2 (.bool true)); have HSS7 := Lib.hid (HSS.out.spoil true)
            have S7 := Lib.hid (HSS7.out.since BK7.out.since)
            have HG7 := Lib.hid (grown_two HGS.out (grownBy_setCell wS S 2 (.bool true)))
            go_upto_region 13 with fail
            generalize w6.setCell ⟨S, 2, none⟩ (.bool true) = w7 at *
            clear s0 s1 s2 f0 f1 f2 S6 BK6 R6 heq hne
            obtain ⟨s0, s1, s2⟩ := S7.out.cells
            have x0 := BK7.out.cell 1 rfl 0 rfl
            have x1 := BK7.out.cell 1 rfl 1 rfl
            have g0 := BK7.out.free 1 rfl 0
            have g1 := BK7.out.free 1 rfl 1
            have BK8 := Lib.hid ((BK7.out.boxSet 1 rfl 0 (.int .i64 (yb.toNat : Int))).boxSet 1 rfl 1 (.slice D N d))
            go_wp2_with fail
            have rx0 := BK8.out.cell 1 rfl 0 rfl
            have rx1 := BK8.out.cell 1 rfl 1 rfl
            refine bodyPost_ret (v := .tuple #[.agg #[.int .i64 (yb.toNat : Int), .slice D N d], .bool false]) (by simp [results, Try.results105, go_sem, rx0, rx1]) rfl ?_
            exact .inl ⟨true, _, D, N, d, HFI.out, rfl, HSS7.out.since BK8.out.since, grown_since HG7.out BK8.out.since⟩
          case pos =>
            have hne : (y5 != z) = false := by simpa using heq
            have HFI := Lib.hid (first_good l n9.out (by rw [← HV.out, ← HN.out]; exact h2) (by rw [← HV.out, ← HN.out, HLEN.out]; exact h3) (by rw [← HV.out, ← HN.out, ← HY5.out, ← HZ.out]; exact heq))
            have BK7 := Lib.hid (BK6.out.storeOld hSl2 2 (.bool false)); have HSS7 := Lib.hid (HSS.out.spoil false)
            have S7 := Lib.hid (HSS7.out.since BK7.out.since)
            have HG7 := Lib.hid (grown_two HGS.out (grownBy_setCell wS S 2 (.bool false)))
            have RS7 := Lib.hid (RS.out.grown (grownBy_setCell wS S 2 (.bool false)) (fun a e => by cases e; simpa using fun e => HNB.out e.symm))
            have hSl7 : S < (wS.setCell ⟨S, 2, none⟩ (.bool false)).heap.size := by simpa using hSl2
            have HZ7 := Lib.hid (show (wS.setCell ⟨S, 2, none⟩ (.bool false)).heap.size = w.heap.size by simpa using HWZ.out)
            go_upto_region 13 with fail
            generalize w6.setCell ⟨S, 2, none⟩ (.bool false) = w7 at *
            generalize wS.setCell ⟨S, 2, none⟩ (.bool false) = wT at *
            clear s0 s1 s2 f0 f1 f2 S6 BK6 R6 hne heq RS HSS HGS hSl2 HWZ
            obtain ⟨s0, s1, s2⟩ := S7.out.cells
            obtain ⟨f0, f1, f2⟩ := S7.out.free
            have u0 : IntKind.i64.wrap ((u : Int) + (9 + (N : Int))) = (u : Int) + (9 + (N : Int)) := IntWalk.i64_in _ (by omega)
            have t1 : (0 : Int) ≤ 9 + (N : Int) := by omega
            have t2 : 9 + (N : Int) ≤ (n : Int) := by omega
            have t3 : (9 + (N : Int)).toNat = 9 + N := by omega
            have fin : ∀ (A' : Option Addr) (e : Ending) (w' : World), RowRd wT ⟨A', n - (9 + N), c - (9 + N)⟩ (l.drop (9 + N)) → (∀ a, A' = some a → a.block = b) → e = .returned (.tuple #[.agg #[.int .i64 (yb.toNat : Int), .slice D N d], .bool true]) →
                Bank ((wT.setCell ⟨S, 0, none⟩ (.slice A' (n - (9 + N)) (c - (9 + N)))).setCell ⟨S, 1, none⟩ (.int .i64 ((u + (9 + N) : Nat) : Int))) w' [rowAcc D N d ((l.drop 9).take N), boxAcc w.heap.size 36 [.int .i64 (yb.toNat : Int), .slice D N d]] →
                NextPost w S (some ⟨b, o, none⟩) n c u l e w' := fun A' e w' hr hA he hBf => by
              have hFI := HFI.out
              rw [← HV.out, ← HN.out, ← HYB.out] at hFI
              have hl : N = ((l.drop 9).take N).length := by rw [List.length_take, List.length_drop, HLEN.out]; omega
              have hr7 := RowRd.grown hr (grown_two (grownBy_setCell wT S 0 (.slice A' (n - (9 + N)) (c - (9 + N)))) (grownBy_setCell _ S 1 (.int .i64 ((u + (9 + N) : Nat) : Int)))) (fun a ea => by
                have := hA a ea
                intro e2
                have e3 : S = a.block := by simpa using e2
                exact HNB.out (this.symm.trans e3.symm))
              refine .inr ⟨_, A', D, N, d, hFI, hl, he, ?_, (HSS7.out.go A' _ _ _).since hBf.since, Since.row hBf.since hr7, fun a ea => ⟨_, rfl, (hA a ea).symm⟩, ?_⟩
              · have := hBf.at 0 rfl
                refine row_base this ?_
                simp
                rw [HZ7.out]
                exact Nat.le_refl _
              · exact grown_since (grown_two (grown_two HG7.out (grownBy_setCell _ _ _ _)) (grownBy_setCell _ _ _ _)) hBf.since
            have FIN := Lib.hid fin
            clear fin
            have x0 := BK7.out.cell 1 rfl 0 rfl
            have x1 := BK7.out.cell 1 rfl 1 rfl
            by_cases hce : c = 9 + N
            · have hne2 : n = 9 + N := by omega
              subst hce
              subst hne2
              go_upto_region 15 with fail
              go_region_law (fail)
              all_goals
                have BK8 := Lib.hid (Bank.drew ((BK7.out.storeOld hSl7 0 (.slice (some ⟨b, o, none⟩) 0 0)).storeOld (S := S) (by simpa using hSl7) 1 (.int .i64 ((u : Int) + (9 + (N : Int))))))
                go_upto_region 16 with fail
                generalize World.drew ((w7.setCell ⟨S, 0, none⟩ (.slice (some ⟨b, o, none⟩) 0 0)).setCell ⟨S, 1, none⟩ (.int .i64 ((u : Int) + (9 + (N : Int))))) = w8 at *
                clear s0 s1 s2 f0 f1 f2 x0 x1 u0
                have x0 := BK8.out.cell 1 rfl 0 rfl
                have x1 := BK8.out.cell 1 rfl 1 rfl
                have g0 := BK8.out.free 1 rfl 0
                have g1 := BK8.out.free 1 rfl 1
                have BK9 := Lib.hid ((BK8.out.boxSet 1 rfl 0 (.int .i64 (yb.toNat : Int))).boxSet 1 rfl 1 (.slice D N d))
                go_wp2_with fail
                have rx0 := BK9.out.cell 1 rfl 0 rfl
                have rx1 := BK9.out.cell 1 rfl 1 rfl
                refine bodyPost_ret (v := .tuple #[.agg #[.int .i64 (yb.toNat : Int), .slice D N d], .bool true]) (by simp [results, Try.results105, go_sem, rx0, rx1]) rfl ?_
                refine FIN.out (some ⟨b, o, none⟩) _ _ (by rw [List.drop_of_length_le (by rw [HLEN.out]; omega)]; exact ⟨Rd.of_nil _ _, by show 0 = _; simp, fun h => by cases h⟩) (fun a e => by cases e; rfl) rfl ?_
                rw [show ((u + (9 + N) : Nat) : Int) = (u : Int) + (9 + (N : Int)) by omega]
                rw [show 9 + N - (9 + N) = 0 by omega]
                exact BK9.out
            · have hcn : ¬ 9 + N = c := fun e => hce e.symm
              go_upto_region 15 with fail
              go_region_law (fail)
              all_goals
                have BK8 := Lib.hid (Bank.drew ((BK7.out.storeOld hSl7 0 (.slice (some ⟨b, o + (9 + N), none⟩) (n - (9 + N)) (c - (9 + N)))).storeOld (S := S) (by simpa using hSl7) 1 (.int .i64 ((u : Int) + (9 + (N : Int))))))
                go_upto_region 16 with fail
                generalize World.drew ((w7.setCell ⟨S, 0, none⟩ (.slice (some ⟨b, o + (9 + N), none⟩) (n - (9 + N)) (c - (9 + N)))).setCell ⟨S, 1, none⟩ (.int .i64 ((u : Int) + (9 + (N : Int))))) = w8 at *
                clear s0 s1 s2 f0 f1 f2 x0 x1 u0
                have x0 := BK8.out.cell 1 rfl 0 rfl
                have x1 := BK8.out.cell 1 rfl 1 rfl
                have g0 := BK8.out.free 1 rfl 0
                have g1 := BK8.out.free 1 rfl 1
                have BK9 := Lib.hid ((BK8.out.boxSet 1 rfl 0 (.int .i64 (yb.toNat : Int))).boxSet 1 rfl 1 (.slice D N d))
                go_wp2_with fail
                have rx0 := BK9.out.cell 1 rfl 0 rfl
                have rx1 := BK9.out.cell 1 rfl 1 rfl
                refine bodyPost_ret (v := .tuple #[.agg #[.int .i64 (yb.toNat : Int), .slice D N d], .bool true]) (by simp [results, Try.results105, go_sem, rx0, rx1]) rfl ?_
                refine FIN.out (some ⟨b, o + (9 + N), none⟩) _ _ (by have := rowRd_cut RS7.out (9 + N) (n - (9 + N)) (c - (9 + N)) (by omega); rwa [List.take_of_length_le (by rw [List.length_drop, HLEN.out]; omega)] at this) (fun a e => by cases e; rfl) rfl ?_
                rw [show ((u + (9 + N) : Nat) : Int) = (u : Int) + (9 + (N : Int)) by omega]
                exact BK9.out
end Go.Proofs.Ytfpjmeknjhhakaa.K

/- Small parts of frame.Scan's contract: what holds between two rounds of its range over a function. -/
namespace Go.Proofs.Ytfpjmeknjhhakaa.K
open Go Go.RowKit Go.Shelf
attribute [local go_sem] Oper.semAt_some

theorem Bank.perm {w0 w : World} {L L' : List Acc} (h : Bank w0 w L) (hp : L.Perm L') : Bank w0 w L' :=
  ⟨h.since, fun p hp' => h.own p (hp.mem_iff.2 hp'), (hp.pairwise_iff (fun h => Apartness.symm h)).1 h.sep⟩
/-- a block that holds no cells was turned -/
theorem Bank.putLoop {w0 w : World} {L : List Acc} (h : Bank w0 w L) {l : Nat} {o : Obj} (o' : Obj) (hl : w0.heap.size ≤ l) (ho : w.heap[l]? = some o) (hc : o.isCells = false) : Bank w0 (w.putObj l o') L := by
  refine h.other (grownBy_putObj' w l o') hl fun p hp e => ?_
  rcases (h.own p hp).2 with ⟨h0, _⟩ | ⟨g, cap, cur, hv, _, hg, _⟩
  · rw [h0] at e; cases e
  · rw [hv] at e
    have e2 : g = l := by simpa [Value.ownBlock] using e
    subst e2
    rw [hg] at ho
    cases ho
    simp [Obj.isCells] at hc
/-- the scan's block was written by next, and a row was made -/
theorem Bank.scanned {w0 w w' : World} {L : List Acc} (h : Bank w0 w L) (i : Nat) {S : Nat} {t : TypeId} {vs vs' : List Value} (hi : L[i]? = some (boxAcc S t vs)) (hl : vs'.length = vs.length) (hlen : vs.length ≤ 1000) (hg : w.grownBy w' (some S)) (hS : w'.heap[S]? = some (.cells vs'.toArray t (0, 0))) :
    Bank w0 w' (L.set i (boxAcc S t vs')) := by
  have hb := (h.boxAt i hi).1
  refine h.put i hi ?_ hg (.inl rfl)
  refine ⟨?_, .inr ⟨S, _, _, rfl, hb, hS, Nat.le_refl _, ?_, ?_, ?_⟩⟩
  · show vs'.length = vs'.length * 1; omega
  · show vs'.length ≤ maxLen; unfold maxLen; omega
  · show _ = vs'.length * 1; simp
  · show vs'.toArray.toList.take (vs'.length * 1) = vs'; simp
theorem Bank.fresh {w0 w' : World} {L : List Acc} (h : Bank w0 w' L) {B : Nat} (hlt : ∀ p ∈ L, ∀ b, p.v.ownBlock = some b → b < B) (hB : w0.heap.size ≤ B) {e : TypeId} {A : Option Addr} {n c : Nat} {bs : List (BitVec 8)} (ho : w'.ownsRow B e 1 (.slice A n c) n (bv bs)) : Bank w0 w' (⟨.slice A n c, n, e, 1, bv bs⟩ :: L) := h.add ho hB hlt
/-- a frame that was told -/
structure FR where
  k : Int
  x : Rw
  bs : List (BitVec 8)
def FR.acc (p : FR) : Acc := ⟨p.x.v, p.x.n, 5, 1, bv p.bs⟩
def FR.cells (p : FR) : List Value := [.int .i64 p.k, p.x.v]
def FR.fr (p : FR) : F.Fr := ⟨p.k, p.bs⟩
def FR.val (p : FR) : Value := .agg #[.int .i64 p.k, p.x.v]
def frAcc (Fa : Option Addr) (cF : Nat) (ps : List FR) : Acc := ⟨.slice Fa ps.length cF, ps.length, 36, 2, ps.flatMap FR.cells⟩
/-- the four that stand behind -/
def backL (Bx S Bf : Nat) (A : Option Addr) (n c u : Nat) (sp : Bool) (Fa : Option Addr) (cF : Nat) (ps : List FR) : List Acc :=
  boxAcc Bx 120 [.pointer (some ⟨S, 0, none⟩)] :: boxAcc S 124 (scanL A n c u sp) :: boxAcc Bf 25 [.slice Fa ps.length cF] :: frAcc Fa cF ps :: ps.reverse.map FR.acc
/-- what is left to scan -/
structure LeftAt (w0 : World) (l0 : List (BitVec 8)) (A : Option Addr) (n c u : Nat) (ps : List FR) : Prop where
  row : RowRd w0 ⟨A, n, c⟩ (l0.drop u)
  nc : n ≤ c
  c63 : c ≤ 9223372036854775807
  un : u + n = l0.length
  few : ps.length * 9 ≤ u
  lay : ∀ a, A = some a → a.block < w0.heap.size
  eq : F.scan l0 = (ps.map FR.fr ++ (F.scan (l0.drop u)).1, u + (F.scan (l0.drop u)).2.1, (F.scan (l0.drop u)).2.2)
/-- between two rounds -/
def SInv (w0 : World) (l0 : List (BitVec 8)) (Bx S Bf Lr Dd : Nat) (rec : LoopState → Option Code → Loop) (T : List Acc) (ps : List FR) (W : World) : Prop :=
  ∃ A n c u Fa cF, Bank w0 W (T ++ backL Bx S Bf A n c u false Fa cF ps) ∧ LeftAt w0 l0 A n c u ps ∧ W.heap[Lr]? = some (.loop (rec .ready none)) ∧ W.heap[Dd]? = some (.deferred (some [])) ∧ w0.heap.size ≤ Lr ∧ w0.heap.size ≤ Dd
/-- the scan has ended -/
def SEnd (w0 : World) (l0 : List (BitVec 8)) (Bx S Bf Lr Dd : Nat) (rec : LoopState → Option Code → Loop) (T : List Acc) (ps : List FR) (W : World) : Prop :=
  ∃ A n c u s Fa cF, Bank w0 W (T ++ backL Bx S Bf A n c u s Fa cF ps) ∧ F.scan l0 = (ps.map FR.fr, u, s) ∧ u ≤ l0.length ∧ ps.length * 9 ≤ u ∧ W.heap[Lr]? = some (.loop (rec .ready none)) ∧ W.heap[Dd]? = some (.deferred (some [])) ∧ w0.heap.size ≤ Lr ∧ w0.heap.size ≤ Dd
end Go.Proofs.Ytfpjmeknjhhakaa.K

/- frame's scan.next, in what holds between two rounds. -/
namespace Go.Proofs.Ytfpjmeknjhhakaa.K
open Go Go.RowKit

/-- a frame is at hand -/
def SPend (w0 : World) (l0 : List (BitVec 8)) (Bx S Bf Lr Dd : Nat) (rec : LoopState → Option Code → Loop) (T : List Acc) (ps : List FR) (p : FR) (W : World) : Prop :=
  ∃ A n c u Fa cF, Bank w0 W (p.acc :: (T ++ backL Bx S Bf A n c u false Fa cF ps)) ∧ LeftAt w0 l0 A n c u (ps ++ [p]) ∧ W.heap[Lr]? = some (.loop (rec .ready none)) ∧ W.heap[Dd]? = some (.deferred (some [])) ∧ w0.heap.size ≤ Lr ∧ w0.heap.size ≤ Dd
def NextI (w0 : World) (l0 : List (BitVec 8)) (Bx S Bf Lr Dd : Nat) (rec : LoopState → Option Code → Loop) (T : List Acc) (ps : List FR) (e : Ending) (W' : World) : Prop :=
  (∃ p : FR, e = .returned (.tuple #[.agg #[.int .i64 p.k, .slice p.x.A p.x.n p.x.c], .bool true]) ∧ SPend w0 l0 Bx S Bf Lr Dd rec T ps p W') ∨
  (∃ kd D m d, e = .returned (.tuple #[.agg #[.int .i64 kd, .slice D m d], .bool false]) ∧ SEnd w0 l0 Bx S Bf Lr Dd rec T ps W')
theorem back_at {T : List Acc} {X : List Acc} (i : Nat) : (T ++ X)[T.length + i]? = X[i]? := by
  rw [List.getElem?_append_right (by omega), show T.length + i - T.length = i by omega]
theorem back_set {T : List Acc} {X : List Acc} (i : Nat) (y : Acc) : (T ++ X).set (T.length + i) y = T ++ X.set i y := by
  rw [List.set_append_right _ _ (by omega), show T.length + i - T.length = i by omega]
theorem next_inv (w0 : World) (l0 : List (BitVec 8)) (Bx S Bf Lr Dd : Nat) (rec : LoopState → Option Code → Loop) (T : List Acc) (ps : List FR) (W : World) (hl0 : l0.length ≤ 100000000000) (h : SInv w0 l0 Bx S Bf Lr Dd rec T ps W) :
    Calls Try.prog 105 #[.pointer (some ⟨S, 0, none⟩)] W (NextI w0 l0 Bx S Bf Lr Dd rec T ps) := by
  obtain ⟨A, n, c, u, Fa, cF, hB, hL, hLr, hDd, hLr0, hDd0⟩ := h
  have hSi : (T ++ backL Bx S Bf A n c u false Fa cF ps)[T.length + 1]? = some (boxAcc S 124 (scanL A n c u false)) := by rw [back_at]; rfl
  obtain ⟨hS0, hSg⟩ := hB.boxAt (T.length + 1) hSi
  have hne : ∀ a, A = some a → a.block ≠ S := fun a e e2 => by have := hL.lay a e; omega
  have hun := hL.un
  have hdrop : (l0.drop u).length = n := hL.row.len
  have hLS : ∀ {o : Obj}, o.isCells = false → ∀ l, W.heap[l]? = some o → l ≠ S := fun {o} ho l hl e => by
    subst e
    rw [hSg] at hl
    cases hl
    simp [Obj.isCells] at ho
  refine (next_any S A n c u (l0.drop u) W hSg (Since.row hB.since hL.row) hL.nc hL.c63 (by omega) hne).mono ?_
  rintro e W' (⟨s, kd, D, m, d, hf, rfl, hS', hg⟩ | ⟨f, A', D, m, d, hf, hm, rfl, ho, hS', hr', hA', hg⟩)
  · refine .inr ⟨kd, D, m, d, rfl, A, n, c, u, s, Fa, cF, ?_, ?_, by omega, hL.few, ?_, ?_, hLr0, hDd0⟩
    · have := hB.scanned (T.length + 1) hSi (vs' := scanL A n c u s) rfl (by simp [scanL]) hg hS'
      rw [back_set] at this
      exact this
    · rw [hL.eq, F.scan_none hf]; simp
    · exact (hg.block Lr (Array.getElem?_eq_some_iff.1 hLr).1 (by have := hLS (by rfl) _ hLr; simpa using this)).trans hLr
    · exact (hg.block Dd (Array.getElem?_eq_some_iff.1 hDd).1 (by have := hLS (by rfl) _ hDd; simpa using this)).trans hDd
  · have h1 := F.first_some hf
    rw [hdrop] at h1
    have hm2 : f.data.length = m := hm.symm
    rw [hm2] at h1
    have hB2 := hB.scanned (T.length + 1) hSi (vs' := scanL A' (n - (9 + m)) (c - (9 + m)) (u + (9 + m)) false) rfl (by simp [scanL]) hg hS'
    rw [back_set] at hB2
    have hlt : ∀ p ∈ T ++ (backL Bx S Bf A n c u false Fa cF ps).set 1 (boxAcc S 124 (scanL A' (n - (9 + m)) (c - (9 + m)) (u + (9 + m)) false)), ∀ b, p.v.ownBlock = some b → b < W.heap.size := by
      intro p hp b hb
      rcases List.mem_append.1 hp with hp | hp
      · exact (hB.lt (List.mem_append_left _ hp) hb).2
      · rcases List.mem_or_eq_of_mem_set hp with hp | hp
        · exact (hB.lt (List.mem_append_right _ hp) hb).2
        · subst hp
          have : S = b := by simpa [boxAcc, Value.ownBlock] using hb
          subst this
          exact (Array.getElem?_eq_some_iff.1 hSg).1
    have hB3 := hB2.fresh hlt hB.since.size ho
    refine .inl ⟨⟨f.kind, ⟨D, m, d⟩, f.data⟩, rfl, A', n - (9 + m), c - (9 + m), u + (9 + m), Fa, cF, hB3, ?_, ?_, ?_, hLr0, hDd0⟩
    · have hlay : ∀ a, A' = some a → a.block < w0.heap.size := fun a e => by
        obtain ⟨a0, e0, e1⟩ := hA' a e
        rw [← e1]; exact hL.lay a0 e0
      have hdd : (l0.drop u).drop (9 + m) = l0.drop (u + (9 + m)) := by rw [List.drop_drop]
      rw [hdd] at hr'
      refine ⟨⟨fun k hk => ?_, hr'.len, hr'.none⟩, ?_, ?_, ?_, ?_, hlay, ?_⟩
      · obtain ⟨b, o, e, hc⟩ := hr'.rd k hk
        have hb : b < w0.heap.size := hlay _ e
        refine ⟨b, o, e, ?_⟩
        have hbS : b ≠ S := by omega
        rw [← hc]
        have h2 := hB3.since.cell (p := ⟨b, o + k, none⟩) hb
        exact h2.symm
      · have := hL.nc; omega
      · have := hL.c63; omega
      · omega
      · have := hL.few; simp; omega
      · rw [hL.eq, F.scan_some hf, hm2, hdd]
        simp [FR.fr, Nat.add_assoc]
    · exact (hg.block Lr (Array.getElem?_eq_some_iff.1 hLr).1 (by have := hLS (by rfl) _ hLr; simpa using this)).trans hLr
    · exact (hg.block Dd (Array.getElem?_eq_some_iff.1 hDd).1 (by have := hLS (by rfl) _ hDd; simpa using this)).trans hDd
end Go.Proofs.Ytfpjmeknjhhakaa.K

/- What holds between two rounds, through the small steps of the iterator. -/
namespace Go.Proofs.Ytfpjmeknjhhakaa.K
open Go Go.RowKit

section
variable {w0 : World} {l0 : List (BitVec 8)} {Bx S Bf Lr Dd : Nat} {rec : LoopState → Option Code → Loop} {T : List Acc} {ps : List FR} {p : FR} {W : World}
theorem heap_alloc_keep {l : Nat} {o : Obj} (x : Obj) (h : W.heap[l]? = some o) : (W.alloc x).heap[l]? = some o := (Below.heap_alloc W x l (Array.getElem?_eq_some_iff.1 h).1).trans h
theorem heap_set_keep {l X j : Nat} {v : Value} {o : Obj} (h : W.heap[l]? = some o) (hX : ∃ cs t fr, W.heap[X]? = some (.cells cs t fr)) (ho : o.isCells = false) : (W.setCell ⟨X, j, none⟩ v).heap[l]? = some o := by
  refine (heap_setCell_other W ⟨X, j, none⟩ l v ?_).trans h
  intro e
  obtain ⟨cs, t, fr, hc⟩ := hX
  have e2 : l = X := by simpa using e
  subst e2
  rw [hc] at h
  cases h
  simp [Obj.isCells] at ho
theorem SInv.alloc (h : SInv w0 l0 Bx S Bf Lr Dd rec T ps W) (cs : Array Value) (t : TypeId) (hs : cs.size ≤ 1000000) : SInv w0 l0 Bx S Bf Lr Dd rec (boxAcc W.heap.size t cs.toList :: T) ps (W.alloc (.cells cs t)) := by
  obtain ⟨A, n, c, u, Fa, cF, hB, hL, h1, h2, h3, h4⟩ := h
  exact ⟨A, n, c, u, Fa, cF, hB.box cs t hs, hL, heap_alloc_keep _ h1, heap_alloc_keep _ h2, h3, h4⟩
theorem SPend.alloc (h : SPend w0 l0 Bx S Bf Lr Dd rec T ps p W) (cs : Array Value) (t : TypeId) (hs : cs.size ≤ 1000000) : SPend w0 l0 Bx S Bf Lr Dd rec (boxAcc W.heap.size t cs.toList :: T) ps p (W.alloc (.cells cs t)) := by
  obtain ⟨A, n, c, u, Fa, cF, hB, hL, h1, h2, h3, h4⟩ := h
  exact ⟨A, n, c, u, Fa, cF, (hB.box cs t hs).swap, hL, heap_alloc_keep _ h1, heap_alloc_keep _ h2, h3, h4⟩
theorem SEnd.alloc (h : SEnd w0 l0 Bx S Bf Lr Dd rec T ps W) (cs : Array Value) (t : TypeId) (hs : cs.size ≤ 1000000) : SEnd w0 l0 Bx S Bf Lr Dd rec (boxAcc W.heap.size t cs.toList :: T) ps (W.alloc (.cells cs t)) := by
  obtain ⟨A, n, c, u, s, Fa, cF, hB, hL, h0, h0', h1, h2, h3, h4⟩ := h
  exact ⟨A, n, c, u, s, Fa, cF, hB.box cs t hs, hL, h0, h0', heap_alloc_keep _ h1, heap_alloc_keep _ h2, h3, h4⟩
theorem SPend.set {X : Nat} {t : TypeId} {vs : List Value} (h : SPend w0 l0 Bx S Bf Lr Dd rec (boxAcc X t vs :: T) ps p W) (j : Nat) (v : Value) : SPend w0 l0 Bx S Bf Lr Dd rec (boxAcc X t (vs.set j v) :: T) ps p (W.setCell ⟨X, j, none⟩ v) := by
  obtain ⟨A, n, c, u, Fa, cF, hB, hL, h1, h2, h3, h4⟩ := h
  have hX := (hB.boxAt 1 rfl).2
  exact ⟨A, n, c, u, Fa, cF, hB.boxSet 1 rfl j v, hL, heap_set_keep h1 ⟨_, _, _, hX⟩ rfl, heap_set_keep h2 ⟨_, _, _, hX⟩ rfl, h3, h4⟩
theorem SEnd.set {X : Nat} {t : TypeId} {vs : List Value} (h : SEnd w0 l0 Bx S Bf Lr Dd rec (boxAcc X t vs :: T) ps W) (j : Nat) (v : Value) : SEnd w0 l0 Bx S Bf Lr Dd rec (boxAcc X t (vs.set j v) :: T) ps (W.setCell ⟨X, j, none⟩ v) := by
  obtain ⟨A, n, c, u, s, Fa, cF, hB, hL, h0, h0', h1, h2, h3, h4⟩ := h
  have hX := (hB.boxAt 0 rfl).2
  exact ⟨A, n, c, u, s, Fa, cF, hB.boxSet 0 rfl j v, hL, h0, h0', heap_set_keep h1 ⟨_, _, _, hX⟩ rfl, heap_set_keep h2 ⟨_, _, _, hX⟩ rfl, h3, h4⟩
/-- the receiver's box -/
theorem SInv.recv (h : SInv w0 l0 Bx S Bf Lr Dd rec T ps W) : W.cell? ⟨Bx, 0, none⟩ = some (.pointer (some ⟨S, 0, none⟩)) := by
  obtain ⟨A, n, c, u, Fa, cF, hB, _⟩ := h
  exact hB.cell (T.length + 0) (by rw [back_at]; rfl) 0 rfl
/-- the loop variable's box -/
theorem SInv.head {X : Nat} {t : TypeId} {vs : List Value} (h : SInv w0 l0 Bx S Bf Lr Dd rec (boxAcc X t vs :: T) ps W) : W.heap[X]? = some (.cells vs.toArray t (0, 0)) := by
  obtain ⟨A, n, c, u, Fa, cF, hB, _⟩ := h
  exact (hB.boxAt 0 rfl).2
theorem SPend.head {X : Nat} {t : TypeId} {vs : List Value} (h : SPend w0 l0 Bx S Bf Lr Dd rec (boxAcc X t vs :: T) ps p W) : W.heap[X]? = some (.cells vs.toArray t (0, 0)) := by
  obtain ⟨A, n, c, u, Fa, cF, hB, _⟩ := h
  exact (hB.boxAt 1 rfl).2
theorem SEnd.head {X : Nat} {t : TypeId} {vs : List Value} (h : SEnd w0 l0 Bx S Bf Lr Dd rec (boxAcc X t vs :: T) ps W) : W.heap[X]? = some (.cells vs.toArray t (0, 0)) := by
  obtain ⟨A, n, c, u, s, Fa, cF, hB, _⟩ := h
  exact (hB.boxAt 0 rfl).2
theorem cells_two {X : Nat} {t : TypeId} {a b : Value} (h : W.heap[X]? = some (.cells [a, b].toArray t (0, 0))) : (W.cell? ⟨X, 0, none⟩ = some a ∧ W.cell? ⟨X, 1, none⟩ = some b) ∧ W.frozen? ⟨X, 0, none⟩ = false ∧ W.frozen? ⟨X, 1, none⟩ = false :=
  ⟨⟨block_cell h rfl, block_cell h rfl⟩, frozen_of_row W X 0 _ _ h, frozen_of_row W X 1 _ _ h⟩
/-- how many frames are told, read off the world -/
def toldOf (Bf : Nat) (W : World) : Nat := match W.cell? ⟨Bf, 0, none⟩ with
  | some (.slice _ n _) => n
  | _ => 0
theorem SPend.told (h : SPend w0 l0 Bx S Bf Lr Dd rec T ps p W) : toldOf Bf W = ps.length ∧ ps.length < l0.length := by
  obtain ⟨A, n, c, u, Fa, cF, hB, hL, _⟩ := h
  have hc : W.cell? ⟨Bf, 0, none⟩ = some (.slice Fa ps.length cF) := hB.cell ((p.acc :: T).length + 2) (by rw [← List.cons_append, back_at]; rfl) 0 rfl
  have h1 := hL.few
  have h2 := hL.un
  unfold toldOf
  rw [hc]
  simp at h1
  exact ⟨rfl, by omega⟩
end
end Go.Proofs.Ytfpjmeknjhhakaa.K

/- The iterator of frame's scan. -/
namespace Go.Proofs.Ytfpjmeknjhhakaa.K
open Go Go.RowKit Go.Shelf
attribute [local go_sem] Oper.semAt_some

theorem all_any (S : Nat) (w : World) : Calls Try.prog 51 #[.pointer (some ⟨S, 0, none⟩)] w fun e w' => e = .returned (.func (.func 104) #[] #[.pointer (some ⟨w.heap.size, 0, none⟩)]) ∧ w' = w.alloc (.cells #[.pointer (some ⟨S, 0, none⟩)] 120) := by
  have hmf : ∀ (fn : Fn) (first cap : Array Value) (w : World), (Instr.makeFunc fn first cap).run Try.prog w = .ok (.func fn first cap) w := fun _ _ _ _ => rfl
  go_enter Try.func51, Try.ntmps51
  go_wp2
  go_ret
  exact ⟨rfl, rfl⟩
/-- what next has told, both ways -/
def Uni (w0 : World) (l0 : List (BitVec 8)) (Bx S Bf Lr Dd : Nat) (rec : LoopState → Option Code → Loop) (T : List Acc) (ps : List FR) (kd : Int) (D : Option Addr) (m d : Nat) (bb : Bool) (W : World) : Prop :=
  (bb = true ∧ ∃ bs, SPend w0 l0 Bx S Bf Lr Dd rec T ps ⟨kd, ⟨D, m, d⟩, bs⟩ W) ∨ (bb = false ∧ SEnd w0 l0 Bx S Bf Lr Dd rec T ps W)
section
variable {w0 : World} {l0 : List (BitVec 8)} {Bx S Bf Lr Dd : Nat} {rec : LoopState → Option Code → Loop} {T : List Acc} {ps : List FR} {W : World} {kd : Int} {D : Option Addr} {m d : Nat} {bb : Bool}
theorem mono_next (hl0 : l0.length ≤ 100000000000) (h : SInv w0 l0 Bx S Bf Lr Dd rec T ps W) (n : Nat) :
    CallsIn Fence.wide n Try.prog 105 #[.pointer (some ⟨S, 0, none⟩)] W fun e W' => ∃ kd D m d bb, e = .returned (.tuple #[.agg #[.int .i64 kd, .slice D m d], .bool bb]) ∧ Uni w0 l0 Bx S Bf Lr Dd rec T ps kd D m d bb W' :=
  callsIn_wide.2 ((next_inv w0 l0 Bx S Bf Lr Dd rec T ps W hl0 h).mono fun e W' h => by
    rcases h with ⟨p, he, hP⟩ | ⟨kd, D, m, d, he, hE⟩
    · exact ⟨_, _, _, _, true, he, .inl ⟨rfl, p.bs, hP⟩⟩
    · exact ⟨_, _, _, _, false, he, .inr ⟨rfl, hE⟩⟩)
theorem Uni.alloc (h : Uni w0 l0 Bx S Bf Lr Dd rec T ps kd D m d bb W) (cs : Array Value) (t : TypeId) (hs : cs.size ≤ 1000000) : Uni w0 l0 Bx S Bf Lr Dd rec (boxAcc W.heap.size t cs.toList :: T) ps kd D m d bb (W.alloc (.cells cs t)) :=
  h.imp (fun ⟨h, bs, hp⟩ => ⟨h, bs, hp.alloc cs t hs⟩) (fun ⟨h, hp⟩ => ⟨h, hp.alloc cs t hs⟩)
theorem Uni.set {X : Nat} {t : TypeId} {vs : List Value} (h : Uni w0 l0 Bx S Bf Lr Dd rec (boxAcc X t vs :: T) ps kd D m d bb W) (j : Nat) (v : Value) : Uni w0 l0 Bx S Bf Lr Dd rec (boxAcc X t (vs.set j v) :: T) ps kd D m d bb (W.setCell ⟨X, j, none⟩ v) :=
  h.imp (fun ⟨h, bs, hp⟩ => ⟨h, bs, hp.set j v⟩) (fun ⟨h, hp⟩ => ⟨h, hp.set j v⟩)
theorem Uni.head {X : Nat} {t : TypeId} {vs : List Value} (h : Uni w0 l0 Bx S Bf Lr Dd rec (boxAcc X t vs :: T) ps kd D m d bb W) : W.heap[X]? = some (.cells vs.toArray t (0, 0)) := by
  rcases h with ⟨_, bs, h⟩ | ⟨_, h⟩
  · exact h.head
  · exact h.head
end
def AllRel (w0 : World) (l0 : List (BitVec 8)) (Bx S Bf Lr Dd : Nat) (rec : LoopState → Option Code → Loop) (a b : Value) (wr : World) : Prop :=
  ∃ T ps X kd D m d bb, a = .pointer (some ⟨X, 0, none⟩) ∧ b = .bool bb ∧ Uni w0 l0 Bx S Bf Lr Dd rec (boxAcc X 36 [.int .i64 kd, .slice D m d] :: T) ps kd D m d bb wr
/-- how much may be to come -/
def leftOf (l0 : List (BitVec 8)) (Bf : Nat) (b : Value) (wr : World) : Nat := match b with
  | .bool true => l0.length + 1 - toldOf Bf wr
  | _ => 0
set_option maxHeartbeats 4000000 in
set_option maxRecDepth 100000 in
theorem all1_in (w0 : World) (l0 : List (BitVec 8)) (Bx S Bf Lr Dd : Nat) (rec : LoopState → Option Code → Loop) (n : Nat) (hl0 : l0.length ≤ 100000000000)
    (hY : ∀ T ps p W, SPend w0 l0 Bx S Bf Lr Dd rec T ps p W → YieldAt Fence.wide (n - 1) Try.prog Lr #[.agg #[.int .i64 p.k, .slice p.x.A p.x.n p.x.c]] W fun e W' => e = .returned (.bool true) ∧ SInv w0 l0 Bx S Bf Lr Dd rec T (ps ++ [p]) W')
    (W : World) (h0 : SInv w0 l0 Bx S Bf Lr Dd rec [] [] W) :
    CallsIn Fence.wide n Try.prog 104 #[.func (.yield Lr) #[] #[], .pointer (some ⟨Bx, 0, none⟩)] W fun e W' => (∃ v, e = .returned v) ∧ ∃ T ps, SEnd w0 l0 Bx S Bf Lr Dd rec T ps W' := by
  refine callsIn_of_wp Try.func104 rfl trivial ?_ rfl
  simp only [Try.ntmps104, List.size_toArray, List.length_cons, List.length_nil, Nat.reduceAdd, Nat.reduceSub, Array.replicate_succ, Array.replicate_zero, List.push_toArray, List.append_toArray, List.nil_append, List.cons_append]
  have hc := h0.recv
  have HI := Lib.hid h0
  have HY := Lib.hid hY
  clear h0 hY
  gi_wp2_with fail
  refine ⟨trivial, (fun h => by simp [Fence.wide] at h), ?_⟩
  refine (mono_next hl0 HI.out _).mono ?_
  rintro e w1 ⟨kd, D, m, d, bb, rfl, hU⟩
  have HR := Lib.hid (show AllRel w0 l0 Bx S Bf Lr Dd rec (.pointer (some ⟨w1.heap.size, 0, none⟩)) (.bool bb) (w1.alloc (.cells #[.int .i64 kd, .slice D m d] 36)) from ⟨_, _, _, kd, D, m, d, bb, rfl, rfl, hU.alloc #[.int .i64 kd, .slice D m d] 36 (by simp)⟩)
  clear hU hc HI
  gi_wp2_with fail
  gi_loopw [3, 4] (fun a b wr => AllRel w0 l0 Bx S Bf Lr Dd rec a b wr) (fun _ b wr => leftOf l0 Bf b wr)
  case atStart => exact HR.out
  case round =>
    clear HR
    obtain ⟨T, ps, X, kd', D', m', d', bb', rfl, rfl, hU⟩ := hrel
    obtain ⟨⟨x0, x1⟩, y0, y1⟩ := cells_two hU.head
    rcases hU with ⟨rfl, bs, hP⟩ | ⟨rfl, hE⟩
    · obtain ⟨fn, tmps, assign, body, hy, hR⟩ := HY.out _ _ _ _ hP
      have hlt := hP.told
      have HLT := Lib.hid hlt
      clear hlt
      have HP := Lib.hid hP
      clear hP
      gi_wp2_with fail
      refine ⟨(fun h => by simp [Fence.wide] at h), ?_⟩
      refine hR.mono ?_
      rintro e w2 ⟨rfl, hI⟩
      obtain ⟨⟨q0, q1⟩, z0, z1⟩ := cells_two hI.head
      have HI2 := Lib.hid (hI.alloc #[.int .i64 kd', .slice D' m' d'] 36 (by simp))
      have rc := HI2.out.recv
      clear hI x0 x1 y0 y1 hR
      gi_wp2_with fail
      refine ⟨trivial, (fun h => by simp [Fence.wide] at h), ?_⟩
      refine (mono_next hl0 HI2.out _).mono ?_
      rintro e w3 ⟨kd3, D3, m3, d3, bb3, rfl, hU3⟩
      have HU4 := Lib.hid ((hU3.set 0 (.int .i64 kd3)).set 1 (.slice D3 m3 d3))
      obtain ⟨⟨v0, v1⟩, f0, f1⟩ := cells_two hU3.head
      clear hU3 q0 q1 z0 z1 rc HI2
      gi_wp2_with fail
      have hrel : AllRel w0 l0 Bx S Bf Lr Dd rec (.pointer (some ⟨w2.heap.size, 0, none⟩)) (.bool bb3) ((w3.setCell ⟨w2.heap.size, 0, none⟩ (.int .i64 kd3)).setCell ⟨w2.heap.size, 1, none⟩ (.slice D3 m3 d3)) := ⟨_, _, _, kd3, D3, m3, d3, bb3, rfl, rfl, HU4.out⟩
      have hmeas : leftOf l0 Bf (.bool bb3) ((w3.setCell ⟨w2.heap.size, 0, none⟩ (.int .i64 kd3)).setCell ⟨w2.heap.size, 1, none⟩ (.slice D3 m3 d3)) < leftOf l0 Bf (.bool true) wr := by
        have h1 := HLT.out
        show _ < l0.length + 1 - toldOf Bf wr
        rcases HU4.out with ⟨rfl, bs3, hP3⟩ | ⟨rfl, _⟩
        · have h2 := hP3.told
          show l0.length + 1 - toldOf Bf _ < _
          rw [h2.1, h1.1]
          have h3 := h2.2
          rw [List.length_append] at h3 ⊢
          simp at h3 ⊢
          omega
        · show 0 < _
          omega
      have HM := Lib.hid hmeas; have HRL := Lib.hid hrel
      clear hmeas hrel
      go_roundw
      case rel => exact HRL.out
      case measure => exact HM.out
    · have HE := Lib.hid hE
      clear hE
      gi_wp2_with fail
      refine ⟨fun _ h => (by cases h), ?_⟩
      gi_wp2_with fail
      go_end0
      exact ⟨⟨_, rfl⟩, _, _, HE.out⟩
end Go.Proofs.Ytfpjmeknjhhakaa.K

/- One round of frame.Scan's range over a function. -/
namespace Go.Proofs.Ytfpjmeknjhhakaa.K
open Go Go.RowKit Go.Shelf
attribute [local go_sem] Oper.semAt_some

theorem wpListIn_append_bankG {F : Fence} {nn : Nat} {P : Program} {w0 w : World} {L : List Acc} {ops : Array Oper} {rest : List Oper} {o : Oper} {a : Act} {Q : Exit → Act → World → Prop} (h : Bank w0 w L) (hgd : o.guard = Option.none) (s y : Operand) (t : TypeId)
    (ho : o.op = .call { callee := .builtin .append, args := #[s, y], argTypes := #[t, t] })
    (e : TypeId) (z : Value) (size bytes : Nat) (hz : (P.info? e).map (fun i => (i.zero, i.size, i.bytes)) = some (some z, size, bytes)) (ht : P.underlying t = some (.slice e)) (hzs : z.cells.size = size) (hsz : 0 < size)
    (k : Nat) (A : Option Addr) (n cap : Nat) (xs : List Value) (hs : a.eval s = .slice A n cap) (hk : L[k]? = some ⟨.slice A n cap, n, e, size, xs⟩)
    (ad : Addr) (m c : Nat) (news : List Value) (hx : a.eval y = .slice (some ad) m c) (hl : news.length = m * size) (hnews : ∀ j u, news[j]? = some u → w.cell? (ad.add j) = some u) (h1 : ∀ u ∈ news, u.oneCell' = true)
    (h63 : n + m ≤ maxLen) (hbytes : (n + m) * bytes ≤ 140737488355328)
    (hK : ∀ A' n' c' w', n' = n + m → Bank w0 w' (L.set k ⟨.slice A' n' c', n', e, size, xs ++ news⟩) → w.grownBy w' (Value.slice A n cap).ownBlock → wpListIn F nn P ops Q rest (a.put o.dst (.slice A' n' c')) w') : wpListIn F nn P ops Q (o :: rest) a w := by
  obtain ⟨i0, hi, hz0, hz1, hz2⟩ := info_parts hz
  refine wpListIn_plain hgd fun K hK' => ?_
  obtain ⟨A', c', w', hr, h2, h3, h4⟩ := run_append_bankG (P := P) h t o.type e i0 z size bytes ht hi hz0 hz1 hz2 hzs hsz k A n cap xs hk ad m c news hl hnews h1 h63 hbytes
  unfold Oper.wpIn
  refine ⟨?_, ?_⟩
  · simp [Oper.about, ho, resolve, Target.leads, Sem.run_pure]
  · rw [Oper.semAt_plain F _ _ (by rw [ho]; intro c hc'; cases hc')]
    simp [execOp, ho, resolve, invoke, builtin, hs, hx, hr, Result.andThen]
    exact hK' _ _ (hK A' _ c' w' rfl h2 h3)
theorem infoFrame : (Try.prog.info? 36).map (fun i => (i.zero, i.size, i.bytes)) = some (some (.agg #[.int .i64 0, .slice none 0 0]), 2, 32) := by kernel_rfl
/-- a range over a function: the record, and the mark, are laid; the one call -/
theorem wp_rangeFunc_F {F : Fence} {nn : Nat} {P : Program} {g : Operand} {ps : Array Tmp} {assign body : Code} {Q : Exit → Act → World → Prop} {a : Act} {w : World} (hro : F.round = none) (h1 : F.depth.isSome = true → 1 ≤ nn) {gf : Nat} {lb : Array Value} (hg : a.eval g = .func (.func gf) #[] lb) (hFg : F.fn gf) (eg : ∀ args w, (callFunc gf args).run P w = .ok (.enter gf args) w)
    (h : ∀ fn, F.fn fn → CallsIn F (nn - 1) P gf (#[.func (.yield (w.heap.size + 1)) #[] #[]] ++ lb) ((w.alloc (.deferred (some []))).alloc (.loop { state := .ready, pending := none, fn, tmps := a.tmps, params := ps, assign, body, defers := w.heap.size }))
      (rangePost F nn P (w.heap.size + 1) Q { a with defers := [{ target := .collected w.heap.size, args := #[] }] ++ a.defers })) :
    (Code.rangeFunc g ps assign body).wpIn F nn P Q a w := by
  refine wpIn_rangeFunc ?_
  intro fn hfn
  rw [hro]
  have hh := h fn hfn
  obtain ⟨W1, hW1⟩ : ∃ W1, (w.alloc (.deferred (some []))).alloc (.loop { state := .ready, pending := none, fn, tmps := a.tmps, params := ps, assign, body, defers := w.heap.size }) = W1 := ⟨_, rfl⟩
  rw [hW1] at hh
  refine ⟨w.heap.size + 1, [{ target := .collected w.heap.size, args := #[] }], W1, { target := .fn (.func gf) lb, args := #[.func (.yield (w.heap.size + 1)) #[] #[]] }, W1, gf, #[.func (.yield (w.heap.size + 1)) #[] #[]] ++ lb, W1, ?_, ?_, ?_, ?_, h1, ?_⟩
  · rw [← hW1]; exact run_enterLoop_outer _ _ _ _ _
  · simp only [resolve, hg]
    simp [go_sem]
  · intro f' hf'; simp [Target.leads] at hf'; subst hf'; exact hFg
  · simp [invoke, go_sem, eg]
  · exact hh
section
variable {w0 : World} {l0 : List (BitVec 8)} {Bx S Bf Lr Dd : Nat} {T : List Acc} {ps : List FR} {p : FR} {W : World}
theorem perm_told (a b c d q : Acc) (T R : List Acc) : (q :: (T ++ a :: b :: c :: d :: R)).Perm (T ++ a :: b :: c :: d :: q :: R) := by
  have h1 : (q :: (T ++ a :: b :: c :: d :: R)) = q :: ((T ++ [a, b, c, d]) ++ R) := by simp
  have h2 : (T ++ a :: b :: c :: d :: q :: R) = (T ++ [a, b, c, d]) ++ q :: R := by simp
  rw [h1, h2]
  exact List.perm_middle.symm
end
theorem cells_lit2 (w : World) (a b : Value) (t : TypeId) : ∀ j u, [a, b][j]? = some u → (w.alloc (.cells #[a, b] t)).cell? ((⟨w.heap.size, 0, none⟩ : Addr).add j) = some u := by
  intro j u hu
  match j, hu with
  | 0, hu => simp at hu; subst hu; simp [Addr.add]
  | 1, hu => simp at hu; subst hu; simp [Addr.add]
/-- what a record is good for -/
def RecOk (rec : LoopState → Option Code → Loop) : Prop := (∀ st pe, (rec st pe).state = st) ∧ (∀ pe, (rec .ready pe).pending = pe) ∧ { { rec .ready none with state := .busy } with state := .ready, pending := none } = rec .ready none
/-- the range over the scan's iterator -/
theorem wp_scan_range {g : Operand} {assign body : Code} {Q : Exit → Act → World → Prop} {a : Act} {W0 : World} {tt : Tmp} (w : World) (l0 : List (BitVec 8)) (Bx S Bf : Nat) (A : Option Addr) (n c : Nat) (hl0 : l0.length ≤ 100000000000)
    (hg : a.eval g = .func (.func 104) #[] #[.pointer (some ⟨Bx, 0, none⟩)]) (hB0 : Bank w W0 (backL Bx S Bf A n c 0 false none 0 [])) (hL0 : LeftAt w l0 A n c 0 [])
    (hround : ∀ (rec : LoopState → Option Code → Loop) (Lr Dd : Nat) T ps p W, RecOk rec → SPend w l0 Bx S Bf Lr Dd rec T ps p W →
      assign.wpIn (Fence.wide.inRound Lr) 7 Try.prog (Exit.then (fun a₁ w₁ => ∃ w₂, (Instr.beginRound Lr).run Try.prog w₁ = .ok () w₂ ∧ body.wpIn (Fence.wide.inRound Lr) 7 Try.prog (roundPost Try.prog Lr (fun e W' => e = .returned (.bool true) ∧ SInv w l0 Bx S Bf Lr Dd rec T (ps ++ [p]) W')) a₁ w₂) (fun _ _ _ => False))
        { tmps := (#[tt].zip #[Value.agg #[.int .i64 p.k, .slice p.x.A p.x.n p.x.c]]).foldl (fun tmps (t, a) => tmps.setIfInBounds t a) a.tmps, defers := [] } W)
    (hdone : ∀ Dd T ps A n c u s Fa cF W, Bank w W (T ++ backL Bx S Bf A n c u s Fa cF ps) → F.scan l0 = (ps.map FR.fr, u, s) → u ≤ l0.length → ps.length * 9 ≤ u → W.heap[Dd]? = some (.deferred (some [])) → w.heap.size ≤ Dd → Q .normal { a with defers := [{ target := .collected Dd, args := #[] }] ++ a.defers } W) :
    (Code.rangeFunc g #[tt] assign body).wpIn Fence.wide 9 Try.prog Q a W0 := by
  refine wp_rangeFunc_F rfl (fun h => by simp [Fence.wide] at h) hg trivial (enters_of Try.func104 (by kernel_rfl) rfl) ?_
  intro fn hfn
  obtain ⟨rec, hrec⟩ : ∃ rec : LoopState → Option Code → Loop, rec = fun st pe => { state := st, pending := pe, fn, tmps := a.tmps, params := #[tt], assign, body, defers := W0.heap.size } := ⟨_, rfl⟩
  have hok : RecOk rec := by rw [hrec]; exact ⟨fun _ _ => rfl, fun _ => rfl, rfl⟩
  obtain ⟨W1, hW1⟩ : ∃ W1, (W0.alloc (.deferred (some []))).alloc (.loop (rec .ready none)) = W1 := ⟨_, rfl⟩
  have hL1 : W1.heap[W0.heap.size + 1]? = some (.loop (rec .ready none)) := by
    rw [← hW1]; have := World.alloc_heap_new (W0.alloc (.deferred (some []))) (.loop (rec .ready none)); rwa [World.size_alloc] at this
  have hK1 : W1.heap[W0.heap.size]? = some (.deferred (some [])) := by
    rw [← hW1]; exact (Below.heap_alloc _ _ _ (by simp)).trans (World.alloc_heap_new W0 _)
  have hB1 : Bank w W1 (backL Bx S Bf A n c 0 false none 0 []) := by rw [← hW1]; exact (hB0.alloc _).alloc _
  have hsz := hB0.since.size
  have h0 : SInv w l0 Bx S Bf (W0.heap.size + 1) W0.heap.size rec [] [] W1 := ⟨A, n, c, 0, none, 0, hB1, hL0, hL1, hK1, by omega, hsz⟩
  have hlit : (W0.alloc (.deferred (some []))).alloc (.loop { state := .ready, pending := none, fn, tmps := a.tmps, params := #[tt], assign, body, defers := W0.heap.size }) = W1 := by rw [← hW1, hrec]
  rw [hlit]
  refine (all1_in w l0 Bx S Bf (W0.heap.size + 1) W0.heap.size rec 8 hl0 ?_ W1 h0).mono ?_
  · intro T ps p W hP
    have hP' := hP
    obtain ⟨_, _, _, _, _, _, _, _, hl, _⟩ := hP
    have hy := run_yield (P := Try.prog) (args := #[Value.agg #[.int .i64 p.k, .slice p.x.A p.x.n p.x.c]]) hl (by rw [hrec]; rfl)
    have hrd := hround rec _ _ T ps p W hok hP'
    rw [hrec] at hy
    exact ⟨fn, _, assign, body, hy, roundIn_of_wpIn hfn hrd⟩
  · rintro e W2 ⟨⟨v, rfl⟩, T, ps, A', n', c', u, s, Fa, cF, hB, hsc, hu, h9, hl, hk, hl0', hk0'⟩
    have hrun := run_endLoop (P := Try.prog) hl (by rw [hok.1]; simp)
    rw [hok.2.1] at hrun
    refine ⟨none, _, hrun, ?_⟩
    refine hdone W0.heap.size T ps A' n' c' u s Fa cF _ (hB.putLoop _ hl0' hl rfl) hsc hu h9 ?_ hk0'
    exact (World.putObj_heap_other (by omega)).trans hk
end Go.Proofs.Ytfpjmeknjhhakaa.K

/- The contract of frame.Scan. -/
namespace Go.Proofs.Ytfpjmeknjhhakaa.K
open Go Go.RowKit Go.Shelf
attribute [local go_sem] Oper.semAt_some

/-- the body of the range in frame.Scan -/
def ScanPost (w : World) (l0 : List (BitVec 8)) (e : Ending) (W' : World) : Prop := ∃ (ps : List FR) (Fa : Option Addr) (cF u : Nat) (s : Bool), e = .returned (.tuple #[.slice Fa ps.length cF, .int .i64 (u : Int), .bool s]) ∧ F.scan l0 = (ps.map FR.fr, u, s) ∧ u ≤ l0.length ∧ ps.length * 9 ≤ u ∧ Bank w W' (frAcc Fa cF ps :: ps.reverse.map FR.acc)
theorem Bank.dropL {w0 w : World} {T L : List Acc} (h : Bank w0 w (T ++ L)) : Bank w0 w L := by
  induction T with
  | nil => exact h
  | cons p T ih => exact ih (Bank.drop h)
set_option maxHeartbeats 4000000 in
set_option maxRecDepth 100000 in
theorem scan_any (A : Option Addr) (n c : Nat) (l0 : List (BitVec 8)) (w : World) (hr : RowRd w ⟨A, n, c⟩ l0) (hn : n ≤ c) (hc : c ≤ 9223372036854775807) (hl0 : l0.length ≤ 100000000000) (hA : ∀ a, A = some a → a.block < w.heap.size) :
    Calls Try.prog 23 #[.slice A n c] w (ScanPost w l0) := by
  have HR := Lib.hid hr
  have hlen : l0.length = n := hr.len
  have HLEN := Lib.hid hlen
  clear hr hlen
  refine (callsIn_wide (n := 9)).1 (callsIn_of_wp_marks Try.func23 rfl trivial ?_ rfl)
  simp only [Try.ntmps23, List.size_toArray, List.length_cons, List.length_nil, Nat.reduceAdd, Nat.reduceSub, Array.replicate_succ, Array.replicate_zero, List.push_toArray, List.append_toArray, List.nil_append, List.cons_append]
  gi_wp2_with fail
  refine ⟨trivial, ?_⟩
  refine (callsIn_wide.2 (all_any _ _)).mono ?_
  rintro e w' ⟨rfl, rfl⟩
  gi_wp2_with fail
  have hB0 : Bank w (((w.alloc (.cells #[.slice none 0 0] 25)).alloc (.cells #[.slice A n c, .int .i64 0, .bool false] 124)).alloc (.cells #[.pointer (some ⟨w.heap.size + 1, 0, none⟩)] 120)) (backL (w.heap.size + 1 + 1) (w.heap.size + 1) w.heap.size A n c 0 false none 0 []) := by
    have h1 := (Bank.nil (Below.refl w.heap.size w)).none 36 2
    have h2 := h1.box #[.slice none 0 0] 25 (by simp)
    have h3 := h2.box #[.slice A n c, .int .i64 0, .bool false] 124 (by simp)
    have h4 := h3.box #[.pointer (some ⟨w.heap.size + 1, 0, none⟩)] 120 (by simp)
    simp only [World.size_alloc] at h3 h4
    exact h4
  have hL0 : LeftAt w l0 A n c 0 [] := ⟨HR.out, hn, hc, by rw [HLEN.out]; omega, by simp, hA, by simp⟩
  have HB0 := Lib.hid hB0; have HL0 := Lib.hid hL0
  clear hB0 hL0
  generalize ((w.alloc (.cells #[.slice none 0 0] 25)).alloc (.cells #[.slice A n c, .int .i64 0, .bool false] 124)).alloc (.cells #[.pointer (some ⟨w.heap.size + 1, 0, none⟩)] 120) = W0 at *
  refine wp_scan_range w l0 (w.heap.size + 1 + 1) (w.heap.size + 1) w.heap.size A n c hl0 rfl HB0.out HL0.out ?round ?done
  case round =>
    intro rec Lr Dd T ps p W hok h
    obtain ⟨A1, n1, c1, u, Fa, cF, hB, hL, h1, h2, h3, h4⟩ := h
    have hps : ps.length * 9 ≤ 100000000000 := by have h5 := hL.few; have h6 := hL.un; rw [List.length_append] at h5; omega
    have hB1 := hB.box #[.int .i64 p.k, .slice p.x.A p.x.n p.x.c] 36 (by simp)
    have h1' := heap_alloc_keep (.cells #[.int .i64 p.k, .slice p.x.A p.x.n p.x.c] 36) h1
    have h2' := heap_alloc_keep (.cells #[.int .i64 p.k, .slice p.x.A p.x.n p.x.c] 36) h2
    have hlt := (Array.getElem?_eq_some_iff.1 h1').1
    have B2 := Lib.hid (show Bank w _ ((boxAcc W.heap.size 36 [.int .i64 p.k, .slice p.x.A p.x.n p.x.c] :: p.acc :: T) ++ backL (w.heap.size + 1 + 1) (w.heap.size + 1) w.heap.size A1 n1 c1 u false Fa cF ps) from hB1.putLoop (.loop { rec .ready none with state := .busy }) h3 h1' rfl)
    have L2 := Lib.hid (World.putObj_heap_same (o := .loop { rec .ready none with state := .busy }) hlt)
    have D2 := Lib.hid ((World.putObj_heap_other (o := .loop { rec .ready none with state := .busy }) (show Dd ≠ Lr from fun e => by subst e; rw [h1'] at h2'; cases h2')).trans h2')
    have HBR := Lib.hid (run_beginRound (P := Try.prog) h1' (hok.1 _ _))
    have HL := Lib.hid hL; have HOK := Lib.hid hok
    clear hB hB1 h1 h2 h1' h2' hlt hL hok
    gi_wp2_with fail
    refine ⟨_, HBR.out, ?_⟩
    generalize (W.alloc (.cells #[.int .i64 p.k, .slice p.x.A p.x.n p.x.c] 36)).putObj Lr (.loop { rec .ready none with state := .busy }) = W2 at *
    generalize W.heap.size = X at *
    have hTl : ∃ T', T' = (boxAcc X 36 [.int .i64 p.k, .slice p.x.A p.x.n p.x.c] :: p.acc :: T) := ⟨_, rfl⟩
    have x0 := B2.out.cell 0 rfl 0 rfl
    have x1 := B2.out.cell 0 rfl 1 rfl
    obtain ⟨T', hT'⟩ := hTl
    have HT' := Lib.hid hT'
    have B2' := Lib.hid (show Bank w W2 (T' ++ backL (w.heap.size + 1 + 1) (w.heap.size + 1) w.heap.size A1 n1 c1 u false Fa cF ps) by rw [hT']; exact B2.out)
    clear hT' B2 HBR
    have cb := B2'.out.cell (T'.length + 2) (by rw [back_at]; rfl) 0 rfl
    gi_wp2_with (gi_at_builtin; refine wpListIn_append_bankG (B2'.out.alloc _) rfl _ _ 25 rfl 36 _ 2 32 infoFrame Try.underlying25 rfl (by decide) (T'.length + 3) _ _ _ (ps.flatMap FR.cells) rfl (by rw [back_at]; rfl) ⟨W2.heap.size, 0, none⟩ 1 1 [.int .i64 p.k, .slice p.x.A p.x.n p.x.c] rfl rfl (cells_lit2 _ _ _ _) (by intro v hv; simp at hv; rcases hv with rfl | rfl <;> rfl) (by unfold maxLen; omega) (by omega) ?_; intro A3 n3 c3 w3 hn3 hB3 hg3; rw [back_set] at hB3; have HN3 := Lib.hid hn3; have HB3 := Lib.hid hB3; have HG3 := Lib.hid hg3; have cb3 := hB3.cell (T'.length + 2) (by rw [back_at]; rfl) 0 rfl; have fb3 := hB3.free (T'.length + 2) (by rw [back_at]; rfl) 0; clear hn3 hB3 hg3 cb x0 x1)
    have hl2 := L2.out
    have hd2 := D2.out
    have hne : ∀ {o : Obj}, o.isCells = false → ∀ l, (W2.alloc (.cells #[.int .i64 p.k, .slice p.x.A p.x.n p.x.c] 36)).heap[l]? = some o → (Value.slice Fa ps.length cF).ownBlock ≠ some l := fun {o} ho l hl e => by
      rcases (((B2'.out.alloc (.cells #[.int .i64 p.k, .slice p.x.A p.x.n p.x.c] 36)).at (T'.length + 3) (p := frAcc Fa cF ps) (by rw [back_at]; rfl))).2 with ⟨h0, _⟩ | ⟨g, cap, cur, hv, _, hg, _⟩
      · have h0' : Value.slice Fa ps.length cF = .slice none 0 0 := h0
        rw [h0'] at e; cases e
      · have hv' : Value.slice Fa ps.length cF = .slice (some ⟨g, 0, none⟩) ps.length cap := hv
        rw [hv'] at e
        have e2 : g = l := by simpa [Value.ownBlock] using e
        subst e2
        rw [hg] at hl
        cases hl
        simp [Obj.isCells] at ho
    have hl3 := heap_alloc_keep (.cells #[.int .i64 p.k, .slice p.x.A p.x.n p.x.c] 36) hl2
    have hd3 := heap_alloc_keep (.cells #[.int .i64 p.k, .slice p.x.A p.x.n p.x.c] 36) hd2
    have hl4 := (HG3.out.block Lr (Array.getElem?_eq_some_iff.1 hl3).1 (fun e => hne rfl _ hl3 e.symm)).trans hl3
    have hd4 := (HG3.out.block Dd (Array.getElem?_eq_some_iff.1 hd3).1 (fun e => hne rfl _ hd3 e.symm)).trans hd3
    have hbf := (HB3.out.boxAt (T'.length + 2) (by rw [back_at]; rfl)).2
    have hl5 := heap_set_keep (j := 0) (v := .slice A3 n3 c3) hl4 ⟨_, _, _, hbf⟩ rfl
    have hd5 := heap_set_keep (j := 0) (v := .slice A3 n3 c3) hd4 ⟨_, _, _, hbf⟩ rfl
    refine ⟨_, _, run_endRound none hl5, rfl, ?_⟩
    have hB4 := HB3.out.boxSet (T'.length + 2) (by rw [back_at]; rfl) 0 (.slice A3 n3 c3)
    rw [back_set] at hB4
    have hB5 := hB4.putLoop (.loop { { rec .ready none with state := .busy } with state := if (none : Option Code).isNone then .ready else .done, pending := none }) h3 hl5 rfl
    have hn3 := HN3.out
    subst hn3
    have hB6 := hB5
    rw [HT'.out] at hB6
    have hB7 := (Bank.drop hB6).perm (perm_told _ _ _ _ _ _ _)
    refine ⟨A1, n1, c1, u, A3, c3, ?_, HL.out, ?_, ?_, h3, h4⟩
    · rw [show backL (w.heap.size + 1 + 1) (w.heap.size + 1) w.heap.size A1 n1 c1 u false A3 c3 (ps ++ [p]) = boxAcc (w.heap.size + 1 + 1) 120 [.pointer (some ⟨w.heap.size + 1, 0, none⟩)] :: boxAcc (w.heap.size + 1) 124 (scanL A1 n1 c1 u false) :: boxAcc w.heap.size 25 [.slice A3 (ps.length + 1) c3] :: ⟨.slice A3 (ps.length + 1) c3, ps.length + 1, 36, 2, ps.flatMap FR.cells ++ [.int .i64 p.k, .slice p.x.A p.x.n p.x.c]⟩ :: p.acc :: ps.reverse.map FR.acc by
        simp [backL, frAcc, FR.cells, Rw.v]]
      exact hB7
    · have := World.putObj_heap_same (o := .loop { { rec .ready none with state := .busy } with state := if (none : Option Code).isNone then .ready else .done, pending := none }) (Array.getElem?_eq_some_iff.1 hl5).1
      rw [this]
      exact congrArg (fun r => some (Obj.loop r)) HOK.out.2.2
    · exact (World.putObj_heap_other (fun e => by subst e; rw [hl5] at hd5; cases hd5)).trans hd5
  case done =>
    intro Dd T ps A1 n1 c1 u s Fa cF W hB hsc hu h9 hk hk0
    have cb := hB.cell (T.length + 2) (by rw [back_at]; rfl) 0 rfl
    have fb := hB.free (T.length + 2) (by rw [back_at]; rfl) 0
    have s1 := hB.cell (T.length + 1) (by rw [back_at]; rfl) 1 rfl
    have s2 := hB.cell (T.length + 1) (by rw [back_at]; rfl) 2 rfl
    have hB0x := hB
    have HB := Lib.hid hB; have HSC := Lib.hid hsc; have HK := Lib.hid hk
    clear hB hsc hk
    gi_wp2_with fail
    have hbx := (hB0x.boxAt (T.length + 2) (by rw [back_at]; rfl)).2
    have HK5 := Lib.hid (show (World.drew (W.setCell ⟨w.heap.size, 0, none⟩ (.slice Fa ps.length cF))).heap[Dd]? = some (.deferred (some [])) from heap_set_keep (j := 0) (v := .slice Fa ps.length cF) HK.out ⟨_, _, _, hbx⟩ rfl)
    have HB5 := Lib.hid (Bank.drew (HB.out.boxSet (T.length + 2) (by rw [back_at]; rfl) 0 (.slice Fa ps.length cF)))
    have HB6 := Lib.hid (HB5.out.putLoop (.deferred none) hk0 HK5.out rfl)
    have hfin : ∃ T', (T ++ backL (w.heap.size + 1 + 1) (w.heap.size + 1) w.heap.size A1 n1 c1 u s Fa cF ps).set (T.length + 2) (boxAcc w.heap.size 25 ([Value.slice Fa ps.length cF].set 0 (.slice Fa ps.length cF))) = T' := ⟨_, rfl⟩
    clear hfin hbx
    have HB7 := Lib.hid (HB6.out.cell (T.length + 2) (by rw [back_set, back_at]; rfl) 0 rfl)
    have HP := Lib.hid (show ScanPost w l0 (.returned (.tuple #[.slice Fa ps.length cF, .int .i64 (u : Int), .bool s])) ((World.drew (W.setCell ⟨w.heap.size, 0, none⟩ (.slice Fa ps.length cF))).putObj Dd (.deferred none)) from by
      refine ⟨ps, Fa, cF, u, s, rfl, HSC.out, hu, h9, ?_⟩
      have h := HB6.out
      rw [back_set] at h
      have h2 := h.perm (L' := T ++ [boxAcc (w.heap.size + 1 + 1) 120 [.pointer (some ⟨w.heap.size + 1, 0, none⟩)], boxAcc (w.heap.size + 1) 124 (scanL A1 n1 c1 u s), boxAcc w.heap.size 25 [.slice Fa ps.length cF]] ++ (frAcc Fa cF ps :: ps.reverse.map FR.acc)) (by simp [backL])
      exact h2.dropL)
    refine wpIn_wide.2 ?_
    refine wp_region_noPanic ?_
    go_region_law (fail)
    all_goals refine NoPanic.normal ?_
    all_goals
      gi_wp2_with fail
      refine ⟨by simp, .inl ⟨_, _, rfl, run_takeDeferred HK5.out, ?_⟩⟩
      refine ⟨.tuple #[.slice Fa ps.length cF, .int .i64 (u : Int), .bool s], ?_, HP.out⟩
      have hc5 := HB7.out
      simp [results, Try.results23, go_sem, hc5]
end Go.Proofs.Ytfpjmeknjhhakaa.K

/- The contract of frame.Put. -/
namespace Go.Proofs.Ytfpjmeknjhhakaa.K
open Go Go.RowKit

def PutRel (w : World) (fs : List F.Fr) (k : Nat) (i : Value) (wr : World) : Prop := ∃ A N c, k ≤ fs.length ∧ i = .int .i64 (k : Int) ∧ F.perr (fs.take k) = 0 ∧
  Bank w wr [rowAcc A N c (F.pbytes (fs.take k)), boxAcc (w.heap.size + 1) 28 [.int .i64 0], boxAcc w.heap.size 27 [.slice A N c]]
set_option maxHeartbeats 4000000 in
set_option maxRecDepth 100000 in
theorem put_any (A : Option Addr) (n c : Nat) (fs : List F.Fr) (w : World) (hfs : Ones w A fs) (hn : fs.length = n) (hT : (F.pbytes fs).length ≤ 100000000000) :
    Calls Try.prog 14 #[.slice A n c] w (PutPost w fs) := by
  have hmf : ∀ (fn : Fn) (first cap : Array Value) (w : World), (Instr.makeFunc fn first cap).run Try.prog w = .ok (.func fn first cap) w := fun _ _ _ _ => rfl
  have HF := Lib.hid hfs; have HN := Lib.hid hn
  have hB0 : Bank w ((w.alloc (.cells #[.slice none 0 0] 27)).alloc (.cells #[.int .i64 0] 28)) [rowAcc none 0 0 (F.pbytes (fs.take 0)), boxAcc (w.heap.size + 1) 28 [.int .i64 0], boxAcc w.heap.size 27 [.slice none 0 0]] := by
    have h1 := (Bank.nil (Below.refl w.heap.size w)).box #[.slice none 0 0] 27 (by simp)
    have h2 := h1.box #[.int .i64 0] 28 (by simp)
    rw [show (w.alloc (.cells #[.slice none 0 0] 27)).heap.size = w.heap.size + 1 by simp] at h2
    exact h2.none _ _
  have HB0 := Lib.hid hB0
  have hn63 : n ≤ 9223372036854775807 := by
    have : fs.length ≤ (F.pbytes fs).length := by
      clear hT hfs HF HN hB0 HB0 hn
      induction fs with
      | nil => exact Nat.zero_le _
      | cons f fs ih => rw [F.pbytes_cons, List.length_append, F.one_length, List.length_cons]; omega
    omega
  clear hfs hn hB0
  go_enter_defers Try.func14, Try.ntmps14
  go_wp2_with fail
  go_loopw [9] (fun i wr => ∃ k, PutRel w fs k i wr) (fun i _ => n - (intOf i).toNat)
  case atStart => exact ⟨0, none, 0, 0, Nat.zero_le _, rfl, rfl, HB0.out⟩
  case round =>
    clear HB0
    obtain ⟨k, A', N, c', hk, rfl, hpe, hB⟩ := hrel
    have HB := Lib.hid hB; have HPE := Lib.hid hpe
    have k0 : (0 : Int) ≤ (k : Int) := by omega
    clear hB hpe
    by_cases hlt : k < n
    · have i1 : (k : Int) < (n : Int) := by omega
      have hkl : k < fs.length := by rw [HN.out]; exact hlt
      obtain ⟨b, o, hA, D, m, d, hc, _, hr, _, _⟩ := HF.out k hkl
      subst hA
      obtain ⟨kd, ds, hfk⟩ : ∃ kd ds, fs[k] = F.Fr.mk kd ds := ⟨_, _, rfl⟩
      simp only [hfk] at hc hr
      have HFK := Lib.hid hfk
      have c0 := (HB.out.since.cell (p := ⟨b, o + k * 2, none⟩) (block_lt_of_cell (hc 0 _ rfl))).trans (hc 0 _ rfl)
      have c1 := (HB.out.since.cell (p := ⟨b, o + k * 2 + 1, none⟩) (block_lt_of_cell (hc 1 _ rfl))).trans (hc 1 _ rfl)
      have HRD := Lib.hid (show RowRd w ⟨D, m, d⟩ ds from hr); have HLD := Lib.hid (show ds.length = m from hr.len)
      have BK1 := Lib.hid (HB.out.box #[.int .i64 kd, .slice D m d] 36 (by simp))
      clear hc hr hfk HB
      go_wp2_with fail
      refine (check_any kd D m d ds _ HLD.out).mono ?_
      rintro e w2 ⟨rfl, hs2⟩
      have BK2 := Lib.hid (BK1.out.call hs2)
      clear hs2 BK1 c0 c1
      by_cases hbad : F.errOf ⟨kd, ds⟩ = 0
      · rw [if_pos hbad]
        have HBAD := Lib.hid hbad
        clear hbad
        have HT := Lib.hid (show (F.pbytes (fs.take k)).length + (9 + ds.length) ≤ 100000000000 by
          have h1 := pbytes_take_le fs (k + 1)
          rw [pbytes_take fs k hkl, List.length_append, F.one_length, HFK.out] at h1
          have h2 : (F.Fr.mk kd ds).data.length = ds.length := rfl
          omega)
        have HNN := Lib.hid (show (F.pbytes (fs.take k)).length = N from (RowRd.of_row (BK2.out.at 1 rfl)).len)
        have HPK := Lib.hid (perr_take_ok fs k hkl HPE.out (by rw [HFK.out]; exact HBAD.out))
        have HPB := Lib.hid (show F.pbytes (fs.take (k + 1)) = F.pbytes (fs.take k) ++ F.one ⟨kd, ds⟩ by rw [pbytes_take fs k hkl, HFK.out])
        go_wp2_with fail
        have hB := BK2.out.drew
        have cb := BK2.out.cell 3 rfl 0 rfl
        have x0 := BK2.out.cell 0 rfl 0 rfl
        have x1 := BK2.out.cell 0 rfl 1 rfl
        have hm : m ≤ 100000000000 := by have := HT.out; have := HLD.out; omega
        have hNm : N + (9 + m) ≤ 100000000000 := by have := HT.out; have := HLD.out; have := HNN.out; omega
        refine wp_region_noPanic ?_
        go_region_law (first
          | (go_simp; go_at_call 45; refine (start_any kd D m d ds _ (Since.row hB.since HRD.out) (by omega)).mono ?_; rintro e w3 ⟨g3, N3, c3, rfl, hN3, ho3, hb3⟩; have hN3' := Nat.le_of_eq hN3; have hB := hB.madeB hb3 ho3; clear hN3 ho3 hb3; have cb := hB.cell 4 rfl 0 rfl; have x0 := hB.cell 1 rfl 0 rfl; have x1 := hB.cell 1 rfl 1 rfl)
          | (refine step_append_bytes hB rfl (.tmp 15) (.tmp 17) 27 rfl 5 infoByte Try.underlying27 2 _ _ _ _ rfl rfl _ _ _ _ rfl (hB.row 0 rfl) (by simp [F.five_length, F.be4_length] at hN3'; omega) ?_; intro A4 n4 c4 w4 hn4 hB; have hn4' := Nat.le_of_eq hn4; clear hn4; dsimp only [List.set] at hB; have cb := hB.cell 4 rfl 0 rfl; have cf := hB.free 4 rfl 0; have x0 := hB.cell 1 rfl 0 rfl; have x1 := hB.cell 1 rfl 1 rfl)
          | (refine step_append_bytes hB rfl (.tmp 18) (.tmp 20) 27 rfl 5 infoByte Try.underlying27 2 _ _ _ _ rfl rfl _ _ _ _ rfl (Since.row hB.since HRD.out) (by simp [F.five_length, F.be4_length] at hN3'; omega) ?_; intro A5 n5 c5 w5 hn5 hB; have hn5' := Nat.le_of_eq hn5; clear hn5; dsimp only [List.set] at hB; have cb := hB.cell 4 rfl 0 rfl; have cf := hB.free 4 rfl 0)
          | fail "arm")
        all_goals
          have hfin : Bank w (w5.setCell ⟨w.heap.size, 0, none⟩ (.slice A5 n5 c5)) [rowAcc A5 n5 c5 (F.pbytes (fs.take (k + 1))), boxAcc (w.heap.size + 1) 28 [.int .i64 0], boxAcc w.heap.size 27 [.slice A5 n5 c5]] := by
            have h := (hB.boxSet 4 rfl 0 (.slice A5 n5 c5)).drop.drop
            rw [HPB.out, show F.pbytes (fs.take k) ++ F.one ⟨kd, ds⟩ = (F.pbytes (fs.take k) ++ (F.five ⟨kd, ds⟩ ++ F.be4 (F.fsum (F.five ⟨kd, ds⟩ ++ ds)))) ++ ds by simp [F.one, List.append_assoc]]
            exact h
          have HFIN := Lib.hid (show PutRel w fs (k + 1) (.int .i64 ((k : Int) + 1)) (w5.setCell ⟨w.heap.size, 0, none⟩ (.slice A5 n5 c5)) from ⟨A5, n5, c5, by omega, by go_num, HPK.out, hfin⟩)
          clear hfin hB cb cf x0 x1 hn4' hn5' hN3' hm hNm
          refine NoPanic.normal ?_
          go_wp2_with fail
          exact ⟨⟨k + 1, HFIN.out⟩, by simp [intOf]; omega⟩
      · rw [if_neg hbad]
        have HPE2 := Lib.hid (show F.perr fs = F.errOf ⟨kd, ds⟩ by rw [perr_take_bad fs k hkl HPE.out (by rw [HFK.out]; exact hbad), HFK.out])
        have HPO := Lib.hid (show pout fs = [] by unfold pout; rw [if_neg (by rw [HPE2.out]; exact hbad)])
        have e0 := BK2.out.cell 2 rfl 0 rfl
        have ef := BK2.out.free 2 rfl 0
        have hbx := (BK2.out.boxAt 3 rfl).2
        have BKE := Lib.hid ((BK2.out.boxSet 2 rfl 0 (.int .i64 (F.errOf ⟨kd, ds⟩))).boxSet 3 rfl 0 (.slice none 0 0))
        have HEF := Lib.hid (show _ ∧ _ ∧ _ from ⟨e0, ef, hbx⟩)
        clear hbad e0 ef hbx
        go_wp2
        refine leaves_cons (f := 43) (args := #[.pointer (some ⟨w.heap.size + 1, 0, none⟩), .pointer (some ⟨w.heap.size, 0, none⟩)]) (by simp) (by simp [go_sem]) ?_
        refine (catchPut_panicking (w.heap.size + 1) w.heap.size _ _ _ _ HEF.out.1 HEF.out.2.1 HEF.out.2.2 rfl (by omega)).mono ?_
        rintro e u' w'' ⟨rfl, rfl, rfl⟩
        have rb := BKE.out.cell 3 rfl 0 rfl
        have re := BKE.out.cell 2 rfl 0 rfl
        refine ⟨.tuple #[.slice none 0 0, .int .i64 (F.errOf ⟨kd, ds⟩)], by simp [results, Try.results14, go_sem, rb, re], ?_⟩
        exact ⟨none, 0, 0, by rw [HPE2.out], by rw [HPO.out]; rfl, by rw [HPO.out]; exact World.ownsRow_nil _ _ _ _, BKE.out.since⟩
    · have i1 : ¬ (k : Int) < (n : Int) := by omega
      have hkn : k = fs.length := by rw [HN.out]; have := HN.out; omega
      have ht : fs.take k = fs := by rw [hkn, List.take_length]
      have hp0 : F.perr fs = 0 := by rw [← ht]; exact HPE.out
      have hpo : pout fs = F.pbytes fs := by unfold pout; rw [if_pos hp0]
      have hB2 := HB.out
      rw [ht] at hB2
      have cb := hB2.cell 2 rfl 0 rfl
      have ce := hB2.cell 1 rfl 0 rfl
      have fb := hB2.free 2 rfl 0
      have fe := hB2.free 1 rfl 0
      have BKE := Lib.hid ((hB2.boxSet 2 rfl 0 (.slice A' N c')).boxSet 1 rfl 0 (.int .i64 0))
      have HPO := Lib.hid hpo; have HP0 := Lib.hid hp0
      clear hkn ht hp0 hpo hB2
      go_wp2
      refine leaves_cons (f := 43) (args := #[.pointer (some ⟨w.heap.size + 1, 0, none⟩), .pointer (some ⟨w.heap.size, 0, none⟩)]) (by simp) (by simp [go_sem]) ?_
      refine (catchPut_idle _ _ _).mono ?_
      rintro e u' w'' ⟨rfl, rfl, rfl⟩
      have rb := BKE.out.cell 2 rfl 0 rfl
      have re := BKE.out.cell 1 rfl 0 rfl
      have ho := BKE.out.at 0 rfl
      refine ⟨.tuple #[.slice A' N c', .int .i64 0], by simp [results, Try.results14, go_sem, rb, re], ?_⟩
      exact ⟨A', N, c', by rw [HP0.out]; rfl, by rw [HPO.out]; exact (RowRd.of_row ho).len.symm, by rw [HPO.out]; exact ho, BKE.out.since⟩
end Go.Proofs.Ytfpjmeknjhhakaa.K
