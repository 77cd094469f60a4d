/- Small parts of frame.Put's contract: boxes as rows of a bank. -/
import Derived.Test.YtfpjmeknjhhakaaFrCatch
import Derived.Deep.RegionLaw
import Derived.Test.YtfpjmeknjhhakaaFrOpen
namespace Go.Proofs.Ytfpjmeknjhhakaa.K
open Go Go.RowKit

def rowAcc (A : Option Addr) (N c : Nat) (bs : List (BitVec 8)) : Acc := ⟨.slice A N c, N, 5, 1, bv bs⟩
/-- a block of cells as a row -/
def boxAcc (g : Nat) (t : TypeId) (vs : List Value) : Acc := ⟨.slice (some ⟨g, 0, none⟩) vs.length vs.length, vs.length, t, 1, vs⟩
theorem Bank.box {w0 w : World} {L : List Acc} (h : Bank w0 w L) (cs : Array Value) (t : TypeId) (hs : cs.size ≤ 1000000) : Bank w0 (w.alloc (.cells cs t)) (boxAcc w.heap.size t cs.toList :: L) := by
  have := h.litV cs t hs
  exact this
/-- a box's block -/
theorem Bank.boxAt {w0 w : World} {L : List Acc} (h : Bank w0 w L) (i : Nat) {g : Nat} {t : TypeId} {vs : List Value} (hi : L[i]? = some (boxAcc g t vs)) : w0.heap.size ≤ g ∧ w.heap[g]? = some (.cells vs.toArray t (0, 0)) := own_full (h.at i hi)
/-- a cell of a box is written -/
theorem Bank.boxSet {w0 w : World} {L : List Acc} (h : Bank w0 w L) (i : Nat) {g : Nat} {t : TypeId} {vs : List Value} (hi : L[i]? = some (boxAcc g t vs)) (j : Nat) (v : Value) : Bank w0 (w.setCell ⟨g, j, Option.none⟩ v) (L.set i (boxAcc g t (vs.set j v))) := by
  obtain ⟨ho, hg⟩ := (h.at i hi).stored j v
  refine h.put i hi ?_ hg (.inl ?_)
  · show (w.setCell ⟨g, j, Option.none⟩ v).ownsRow _ _ _ (.slice _ (vs.set j v).length (vs.set j v).length) (vs.set j v).length _
    rw [List.length_set]
    exact ho
  · show Value.ownBlock (.slice _ (vs.set j v).length (vs.set j v).length) = _
    rw [List.length_set]
    rfl
theorem Bank.ne {w0 w : World} {L : List Acc} (h : Bank w0 w L) {i j : Nat} {g g' : Nat} {t t' : TypeId} {vs vs' : List Value} (hi : L[i]? = some (boxAcc g t vs)) (hj : L[j]? = some (boxAcc g' t' vs')) (hij : i ≠ j) : g ≠ g' := by
  intro e
  subst e
  exact h.sepAt hi hj hij g rfl rfl
theorem Bank.cell {w0 w : World} {L : List Acc} (h : Bank w0 w L) (i : Nat) {g : Nat} {t : TypeId} {vs : List Value} (hi : L[i]? = some (boxAcc g t vs)) (j : Nat) {v : Value} (hv : vs[j]? = some v) : w.cell? ⟨g, j, Option.none⟩ = some v := block_cell (h.boxAt i hi).2 hv
theorem Bank.free {w0 w : World} {L : List Acc} (h : Bank w0 w L) (i : Nat) {g : Nat} {t : TypeId} {vs : List Value} (hi : L[i]? = some (boxAcc g t vs)) (j : Nat) : w.frozen? ⟨g, j, Option.none⟩ = false := frozen_of_row w g j _ _ (h.boxAt i hi).2
/-- what frame.Put tells -/
def pout (fs : List F.Fr) : List (BitVec 8) := if F.perr fs = 0 then F.pbytes fs else []
def PutPost (w : World) (fs : List F.Fr) (e : Ending) (w' : World) : Prop := ∃ A N c, e = .returned (.tuple #[.slice A N c, .int .i64 (F.perr fs)]) ∧ N = (pout fs).length ∧ w'.ownsRow w.heap.size 5 1 (.slice A N c) N (bv (pout fs)) ∧ Since w w'
theorem pbytes_take (fs : List F.Fr) (k : Nat) (h : k < fs.length) : F.pbytes (fs.take (k + 1)) = F.pbytes (fs.take k) ++ F.one fs[k] := by
  rw [List.take_succ_eq_append_getElem h, F.pbytes_append]; simp [F.pbytes]
theorem perr_take_bad (fs : List F.Fr) (k : Nat) (h : k < fs.length) (h0 : F.perr (fs.take k) = 0) (hb : F.errOf fs[k] ≠ 0) : F.perr fs = F.errOf fs[k] := by
  conv => lhs; rw [← List.take_append_drop k fs]
  rw [F.perr_append _ _ h0, List.drop_eq_getElem_cons h, F.perr, if_neg hb]
theorem perr_take_ok (fs : List F.Fr) (k : Nat) (h : k < fs.length) (h0 : F.perr (fs.take k) = 0) (hb : F.errOf fs[k] = 0) : F.perr (fs.take (k + 1)) = 0 := by
  rw [List.take_succ_eq_append_getElem h, F.perr_append _ _ h0, F.perr, if_pos hb]; rfl
theorem pbytes_take_le (fs : List F.Fr) (k : Nat) : (F.pbytes (fs.take k)).length ≤ (F.pbytes fs).length := by
  conv => rhs; rw [← List.take_append_drop k fs, F.pbytes_append]
  simp
end Go.Proofs.Ytfpjmeknjhhakaa.K
