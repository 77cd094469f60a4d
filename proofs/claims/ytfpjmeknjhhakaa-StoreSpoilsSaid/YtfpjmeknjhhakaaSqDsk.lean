/- A disk that holds one file or none, as accounts of a bank beside the map's block. -/
import Derived.Test.YtfpjmeknjhhakaaSq8
namespace Go.Proofs.Ytfpjmeknjhhakaa.K
open Go Go.RowKit Go.Maps

/-- the file's name -/
def storeS : ByteArray := { data := #[115, 116, 111, 114, 101] }
/-- a file and where it lies -/
structure Fil where
  g : Nat
  A : Option Addr
  n : Nat
  c : Nat
  bs : List (BitVec 8)
  safe : Nat
def Fil.ptr (f : Fil) : Value := .pointer (some ⟨f.g, 0, none⟩)
def Fil.box (f : Fil) : Acc := boxAcc f.g 137 [.slice f.A f.n f.c, .int .i64 (f.safe : Int)]
def Fil.row (f : Fil) : Acc := rowAcc f.A f.n f.c f.bs
def filAccs : Option Fil → List Acc
  | none => []
  | some f => [f.box, f.row]
def mapObj (o : Option Fil) : Obj := .map (oneEs storeS (o.map Fil.ptr)) (oneClock (o.map Fil.ptr))
def dAcc (D R : Nat) (room : Int) : Acc := boxAcc D 133 [.map (some R), .int .i64 room]
/-- the disk of one file or none, and what else the call owns -/
def Dk (w0 w : World) (D R : Nat) (room : Int) (o : Option Fil) (L : List Acc) : Prop := Side w0 w R (mapObj o) (dAcc D R room :: (filAccs o ++ L))
def obytes : Option Fil → List (BitVec 8)
  | none => []
  | some f => f.bs
def osafe : Option Fil → Nat
  | none => 0
  | some f => f.safe
section
variable {w0 w w' : World} {D R : Nat} {room : Int} {o : Option Fil} {L L' : List Acc}
theorem Dk.side (h : Dk w0 w D R room o L) : Side w0 w R (mapObj o) (dAcc D R room :: (filAccs o ++ L)) := h
theorem Dk.one (h : Dk w0 w D R room o L) : IsOne w R storeS (o.map Fil.ptr) := h.side.at'
theorem Dk.disk (h : Dk w0 w D R room o L) : w.heap[D]? = some (.cells #[.map (some R), .int .i64 room] 133 (0, 0)) := (h.side.bank.boxAt 0 rfl).2
theorem Dk.c0 (h : Dk w0 w D R room o L) : w.cell? ⟨D, 0, none⟩ = some (.map (some R)) := h.side.bank.cell 0 rfl 0 rfl
theorem Dk.c1 (h : Dk w0 w D R room o L) : w.cell? ⟨D, 1, none⟩ = some (.int .i64 room) := h.side.bank.cell 0 rfl 1 rfl
theorem Dk.since (h : Dk w0 w D R room o L) : Since w0 w := h.side.since
theorem Dk.call (h : Dk w0 w D R room o L) (hb : Below w.heap.size w w') : Dk w0 w' D R room o L := h.side.call hb
theorem Dk.drew (h : Dk w0 w D R room o L) : Dk w0 w.drew D R room o L := h.side.drew
theorem Dk.f0 {f : Fil} (h : Dk w0 w D R room (some f) L) : w.cell? ⟨f.g, 0, none⟩ = some (.slice f.A f.n f.c) := h.side.bank.cell 1 rfl 0 rfl
theorem Dk.f1 {f : Fil} (h : Dk w0 w D R room (some f) L) : w.cell? ⟨f.g, 1, none⟩ = some (.int .i64 (f.safe : Int)) := h.side.bank.cell 1 rfl 1 rfl
theorem Dk.frow {f : Fil} (h : Dk w0 w D R room (some f) L) : RowRd w ⟨f.A, f.n, f.c⟩ f.bs := h.side.bank.row 2 rfl
theorem Dk.ffree {f : Fil} (h : Dk w0 w D R room (some f) L) (j : Nat) : w.frozen? ⟨f.g, j, none⟩ = false := h.side.bank.free 1 rfl j
theorem Dk.flen {f : Fil} (h : Dk w0 w D R room (some f) L) : f.bs.length = f.n := h.frow.len
theorem Side.bank' {ob : Obj} (h : Side w0 w R ob L) : Bank w0 w L := h.bank
/-- accounts in another order, or fewer -/
theorem Dk.perm (h : Dk w0 w D R room o L) (hp : L.Perm L') : Dk w0 w D R room o L' := h.side.perm (.cons _ (.append_left _ hp))
theorem Dk.sub (h : Dk w0 w D R room o L) (hs : L'.Sublist L) : Dk w0 w D R room o L' := h.side.sub (.cons_cons _ ((List.Sublist.refl _).append hs))
/-- what a callee made stands with the rest -/
theorem Dk.made (h : Dk w0 w D R room o L) (hb : Below w.heap.size w w') {e : TypeId} {size n : Nat} {v : Value} {xs : List Value} (ho : w'.ownsRow w.heap.size e size v n xs) : Dk w0 w' D R room o (⟨v, n, e, size, xs⟩ :: L) :=
  (h.side.made hb ho).perm ((List.Perm.swap _ _ _).trans (.cons _ (List.perm_middle.symm)))
theorem Dk.box (h : Dk w0 w D R room o L) (cs : Array Value) (t : TypeId) (hs : cs.size ≤ 1000000) : Dk w0 (w.alloc (.cells cs t)) D R room o (boxAcc w.heap.size t cs.toList :: L) :=
  (h.side.box cs t hs).perm ((List.Perm.swap _ _ _).trans (.cons _ (List.perm_middle.symm)))
theorem Dk.madeB (h : Dk w0 w D R room o L) (hb : Below w.heap.size w w') {A : Option Addr} {n c : Nat} {bs : List (BitVec 8)} (ho : w'.ownsRow w.heap.size 5 1 (.slice A n c) n (bv bs)) : Dk w0 w' D R room o (rowAcc A n c bs :: L) := h.made hb ho
/-- the rest, at its place -/
theorem Dk.at (h : Dk w0 w D R room o L) (i : Nat) {p : Acc} (hi : L[i]? = some p) : (dAcc D R room :: (filAccs o ++ L))[(filAccs o).length + i + 1]? = some p := by
  rw [List.getElem?_cons_succ, List.getElem?_append_right (by omega)]
  rw [show (filAccs o).length + i - (filAccs o).length = i by omega]
  exact hi
theorem Dk.boxSet (h : Dk w0 w D R room o L) (i : Nat) {g : Nat} {t : TypeId} {vs : List Value} (hi : L[i]? = some (boxAcc g t vs)) (j : Nat) (v : Value) : Dk w0 (w.setCell ⟨g, j, Option.none⟩ v) D R room o (L.set i (boxAcc g t (vs.set j v))) := by
  have h1 := h.side.boxSet _ (h.at i hi) j v
  rw [List.set_cons_succ, List.set_append_right _ _ (by omega), show (filAccs o).length + i - (filAccs o).length = i by omega] at h1
  exact h1
theorem Dk.cell (h : Dk w0 w D R room o L) (i : Nat) {g : Nat} {t : TypeId} {vs : List Value} (hi : L[i]? = some (boxAcc g t vs)) (j : Nat) {v : Value} (hv : vs[j]? = some v) : w.cell? ⟨g, j, Option.none⟩ = some v := h.side.bank.cell _ (h.at i hi) j hv
theorem Dk.free (h : Dk w0 w D R room o L) (i : Nat) {g : Nat} {t : TypeId} {vs : List Value} (hi : L[i]? = some (boxAcc g t vs)) (j : Nat) : w.frozen? ⟨g, j, Option.none⟩ = false := h.side.bank.free _ (h.at i hi) j
theorem Dk.boxAt (h : Dk w0 w D R room o L) (i : Nat) {g : Nat} {t : TypeId} {vs : List Value} (hi : L[i]? = some (boxAcc g t vs)) : w0.heap.size ≤ g ∧ w.heap[g]? = some (.cells vs.toArray t (0, 0)) := h.side.bank.boxAt _ (h.at i hi)
theorem Dk.row (h : Dk w0 w D R room o L) (i : Nat) {A : Option Addr} {n c : Nat} {e : TypeId} {bs : List (BitVec 8)} (hi : L[i]? = some ⟨.slice A n c, n, e, 1, bv bs⟩) : RowRd w ⟨A, n, c⟩ bs := h.side.bank.row _ (h.at i hi)
theorem Dk.rest (h : Dk w0 w D R room o L) : Bank w0 w L := h.side.bank.sub (.cons _ (List.sublist_append_right _ _))
/-- the disk is thrown away -/
theorem Dk.lt (h : Dk w0 w D R room o L) : D < w.heap.size ∧ R < w.heap.size := ⟨(Array.getElem?_eq_some_iff.1 h.disk).1, h.side.lt⟩
theorem Dk.ne (h : Dk w0 w D R room o L) : D ≠ R := fun e => h.side.away _ (.head _) (by rw [← e]; rfl)
end
end Go.Proofs.Ytfpjmeknjhhakaa.K
