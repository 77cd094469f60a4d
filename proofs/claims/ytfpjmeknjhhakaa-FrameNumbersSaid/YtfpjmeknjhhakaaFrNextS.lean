/- Small parts of the contract of frame's scan.next. -/
import Derived.Test.YtfpjmeknjhhakaaFrPutS
import Derived.Test.YtfpjmeknjhhakaaFrNumber
namespace Go.Proofs.Ytfpjmeknjhhakaa.K
open Go Go.RowKit

theorem heap_set_same {w0 w : World} {S : Nat} (j : Nat) (v : Value) {k : Nat} (h : w.heap[k]? = w0.heap[k]?) : (w.setCell ⟨S, j, none⟩ v).heap[k]? = (w0.setCell ⟨S, j, none⟩ v).heap[k]? := by
  show (w.heap.modify S _)[k]? = (w0.heap.modify S _)[k]?
  rw [Array.getElem?_modify, Array.getElem?_modify, h]
/-- a block that lay before is written, in the base world too -/
theorem Bank.storeOld {w0 w : World} {L : List Acc} (h : Bank w0 w L) {S : Nat} (hS : S < w0.heap.size) (j : Nat) (v : Value) : Bank (w0.setCell ⟨S, j, Option.none⟩ v) (w.setCell ⟨S, j, Option.none⟩ v) L := by
  have hz : ∀ w : World, (w.setCell ⟨S, j, Option.none⟩ v).heap.size = w.heap.size := fun w => by simp
  refine ⟨⟨h.since.os, h.since.tape, h.since.output, by rw [hz, hz]; exact h.since.size, fun k hk => heap_set_same j v (h.since.block k (by rw [hz] at hk; exact hk))⟩, fun p hp => ?_, h.sep⟩
  have hne : p.v.ownBlock ≠ some S := fun e => by have := (h.lt hp e).1; omega
  have := (h.own p hp).kept (grownBy_setCell w S j v) (by
    cases hq : p.v.ownBlock with
    | none => exact .inl rfl
    | some x => exact .inr (fun e => hne (hq.trans e)))
  rw [hz]
  exact this
/-- the block of a scan -/
def scanL (A : Option Addr) (n c : Nat) (u : Nat) (sp : Bool) : List Value := [.slice A n c, .int .i64 (u : Int), .bool sp]
def ScanAt (w : World) (S : Nat) (A : Option Addr) (n c u : Nat) (sp : Bool) : Prop := w.heap[S]? = some (.cells (scanL A n c u sp).toArray 124 (0, 0))
theorem ScanAt.cells {w : World} {S : Nat} {A : Option Addr} {n c u : Nat} {sp : Bool} (h : ScanAt w S A n c u sp) : w.cell? ⟨S, 0, none⟩ = some (.slice A n c) ∧ w.cell? ⟨S, 1, none⟩ = some (.int .i64 (u : Int)) ∧ w.cell? ⟨S, 2, none⟩ = some (.bool sp) := ⟨block_cell h rfl, block_cell h rfl, block_cell h rfl⟩
theorem ScanAt.free {w : World} {S : Nat} {A : Option Addr} {n c u : Nat} {sp : Bool} (h : ScanAt w S A n c u sp) : w.frozen? ⟨S, 0, none⟩ = false ∧ w.frozen? ⟨S, 1, none⟩ = false ∧ w.frozen? ⟨S, 2, none⟩ = false := ⟨frozen_of_row w S 0 _ _ h, frozen_of_row w S 1 _ _ h, frozen_of_row w S 2 _ _ h⟩
theorem ScanAt.since {w w' : World} {S : Nat} {A : Option Addr} {n c u : Nat} {sp : Bool} (h : ScanAt w S A n c u sp) (hs : Since w w') : ScanAt w' S A n c u sp := hs.at h
theorem ScanAt.lt {w : World} {S : Nat} {A : Option Addr} {n c u : Nat} {sp : Bool} (h : ScanAt w S A n c u sp) : S < w.heap.size := (Array.getElem?_eq_some_iff.1 h).1
theorem ScanAt.spoil {w : World} {S : Nat} {A : Option Addr} {n c u : Nat} {sp : Bool} (h : ScanAt w S A n c u sp) (b : Bool) : ScanAt (w.setCell ⟨S, 2, none⟩ (.bool b)) S A n c u b := block_set h 2 _
theorem ScanAt.go {w : World} {S : Nat} {A : Option Addr} {n c u : Nat} {sp : Bool} (h : ScanAt w S A n c u sp) (A' : Option Addr) (n' c' u' : Nat) : ScanAt ((w.setCell ⟨S, 0, none⟩ (.slice A' n' c')).setCell ⟨S, 1, none⟩ (.int .i64 (u' : Int))) S A' n' c' u' sp := block_set (block_set h 0 _) 1 _
/-- a row that no block that was written lies in -/
theorem RowRd.grown {w w' : World} {x : Rw} {bs : List (BitVec 8)} (h : RowRd w x bs) {row : Option Nat} (hg : w.grownBy w' row) (hne : ∀ a, x.A = some a → row ≠ some a.block) : RowRd w' x bs := by
  refine ⟨fun k hk => ?_, h.len, h.none⟩
  obtain ⟨b, o, e, hc⟩ := h.rd k hk
  exact ⟨b, o, e, hg.cell hc (fun e2 => hne _ e (by rw [e2]))⟩
def NextPost (w : World) (S : Nat) (A : Option Addr) (n c u : Nat) (l : List (BitVec 8)) (e : Ending) (w' : World) : Prop :=
  (∃ s kd D m d, F.first l = (none, s) ∧ e = .returned (.tuple #[.agg #[.int .i64 kd, .slice D m d], .bool false]) ∧ ScanAt w' S A n c u s ∧ w.grownBy w' (some S)) ∨
  (∃ f A' D m d, F.first l = (some f, false) ∧ m = f.data.length ∧ e = .returned (.tuple #[.agg #[.int .i64 f.kind, .slice D m d], .bool true]) ∧ w'.ownsRow w.heap.size 5 1 (.slice D m d) m (bv f.data) ∧
    ScanAt w' S A' (n - (9 + m)) (c - (9 + m)) (u + (9 + m)) false ∧ RowRd w' ⟨A', n - (9 + m), c - (9 + m)⟩ (l.drop (9 + m)) ∧ (∀ a, A' = some a → ∃ a0, A = some a0 ∧ a0.block = a.block) ∧ w.grownBy w' (some S))
theorem grown_since {w wS w' : World} {S : Nat} (h : w.grownBy wS (some S)) (hs : Since wS w') : w.grownBy w' (some S) :=
  ⟨hs.os.trans h.os, hs.tape.trans h.tape, hs.output.trans h.output, Nat.le_trans h.size hs.size, fun k hk hne => (hs.block k (Nat.lt_of_lt_of_le hk h.size)).trans (h.block k hk hne)⟩
theorem grown_two {a b c : World} {S : Nat} (h : a.grownBy b (some S)) (k : b.grownBy c (some S)) : a.grownBy c (some S) :=
  ⟨k.os.trans h.os, k.tape.trans h.tape, k.output.trans h.output, Nat.le_trans h.size k.size, fun i hi hne => (k.block i (Nat.lt_of_lt_of_le hi h.size) hne).trans (h.block i hi hne)⟩
theorem first_few (l : List (BitVec 8)) (h : l.length < 9) : F.first l = (none, false) := by unfold F.first; rw [if_pos h]
theorem first_big (l : List (BitVec 8)) (h : ¬ l.length < 9) (h2 : 262144 < (F.num4 (l.drop 1)).toNat) : F.first l = (none, true) := by unfold F.first; rw [if_neg h, if_pos h2]
theorem first_short (l : List (BitVec 8)) (h : ¬ l.length < 9) (h2 : ¬ 262144 < (F.num4 (l.drop 1)).toNat) (h3 : l.length < 9 + (F.num4 (l.drop 1)).toNat) : F.first l = (none, false) := by unfold F.first; rw [if_neg h, if_neg h2, if_pos h3]
theorem first_bad (l : List (BitVec 8)) (h : ¬ l.length < 9) (h2 : ¬ 262144 < (F.num4 (l.drop 1)).toNat) (h3 : ¬ l.length < 9 + (F.num4 (l.drop 1)).toNat) (h4 : F.num4 (l.drop 5) ≠ F.fsum (l.take 5 ++ (l.drop 9).take (F.num4 (l.drop 1)).toNat)) : F.first l = (none, true) := by unfold F.first; rw [if_neg h, if_neg h2, if_neg h3, if_neg h4]
theorem first_good (l : List (BitVec 8)) (h : ¬ l.length < 9) (h2 : ¬ 262144 < (F.num4 (l.drop 1)).toNat) (h3 : ¬ l.length < 9 + (F.num4 (l.drop 1)).toNat) (h4 : F.num4 (l.drop 5) = F.fsum (l.take 5 ++ (l.drop 9).take (F.num4 (l.drop 1)).toNat)) :
    F.first l = (some ⟨((l.getD 0 0).toNat : Int), (l.drop 9).take (F.num4 (l.drop 1)).toNat⟩, false) := by unfold F.first; rw [if_neg h, if_neg h2, if_neg h3, if_pos h4]
/-- a part of a row -/
theorem rowRd_cut {w : World} {b o n c : Nat} {bs : List (BitVec 8)} (h : RowRd w ⟨some ⟨b, o, none⟩, n, c⟩ bs) (lo len c' : Nat) (hl : lo + len ≤ n) : RowRd w ⟨some ⟨b, o + lo, none⟩, len, c'⟩ ((bs.drop lo).take len) := by
  have hN : bs.length = n := h.len
  refine ⟨fun j hj => ?_, by show _ = len; rw [List.length_take, List.length_drop]; omega, fun h => by cases h⟩
  rw [List.length_take, List.length_drop] at hj
  obtain ⟨b', o', e, hc⟩ := h.rd (lo + j) (by omega)
  obtain ⟨rfl, rfl⟩ : b = b' ∧ o = o' := by simpa using e
  refine ⟨b, o + lo, rfl, ?_⟩
  rw [Nat.add_assoc, hc, List.getElem_take, List.getElem_drop]
theorem conv_B8_num {P : Program} (w : World) (src dst : TypeId) (x : BitVec 8) (hs : P.underlying src = some (.int .u8)) (hd : P.underlying dst = some (.int .i64)) : (convert src dst (B8 x)).run P w = .ok (.int .i64 (x.toNat : Int)) w := by
  have h : IntKind.i64.wrap (x.toNat : Int) = (x.toNat : Int) := IntWalk.i64_in _ (by have := x.isLt; omega)
  simp [convert, run_underlying hs, run_underlying hd, Conv.intToInt, B8, h]
theorem rowRd_drewN {w : World} {x : Rw} {bs : List (BitVec 8)} (h : RowRd w x bs) (q : Nat) : RowRd (w.drewN q) x bs := ⟨h.rd, h.len, h.none⟩
end Go.Proofs.Ytfpjmeknjhhakaa.K
