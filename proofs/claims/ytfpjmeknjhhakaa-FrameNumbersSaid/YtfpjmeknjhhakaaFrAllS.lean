/- What holds between two rounds, through the small steps of the iterator. -/
import Derived.Test.YtfpjmeknjhhakaaFrScanN
namespace Go.Proofs.Ytfpjmeknjhhakaa.K
open Go Go.RowKit

section
variable {w0 : World} {l0 : List (BitVec 8)} {Bx S Bf Lr Dd : Nat} {rec : LoopState → Option Code → Loop} {T : List Acc} {ps : List FR} {p : FR} {W : World}
theorem heap_alloc_keep {l : Nat} {o : Obj} (x : Obj) (h : W.heap[l]? = some o) : (W.alloc x).heap[l]? = some o := (Below.heap_alloc W x l (Array.getElem?_eq_some_iff.1 h).1).trans h
theorem heap_set_keep {l X j : Nat} {v : Value} {o : Obj} (h : W.heap[l]? = some o) (hX : ∃ cs t fr, W.heap[X]? = some (.cells cs t fr)) (ho : o.isCells = false) : (W.setCell ⟨X, j, none⟩ v).heap[l]? = some o := by
  refine (heap_setCell_other W ⟨X, j, none⟩ l v ?_).trans h
  intro e
  obtain ⟨cs, t, fr, hc⟩ := hX
  have e2 : l = X := by simpa using e
  subst e2
  rw [hc] at h
  cases h
  simp [Obj.isCells] at ho
theorem SInv.alloc (h : SInv w0 l0 Bx S Bf Lr Dd rec T ps W) (cs : Array Value) (t : TypeId) (hs : cs.size ≤ 1000000) : SInv w0 l0 Bx S Bf Lr Dd rec (boxAcc W.heap.size t cs.toList :: T) ps (W.alloc (.cells cs t)) := by
  obtain ⟨A, n, c, u, Fa, cF, hB, hL, h1, h2, h3, h4⟩ := h
  exact ⟨A, n, c, u, Fa, cF, hB.box cs t hs, hL, heap_alloc_keep _ h1, heap_alloc_keep _ h2, h3, h4⟩
theorem SPend.alloc (h : SPend w0 l0 Bx S Bf Lr Dd rec T ps p W) (cs : Array Value) (t : TypeId) (hs : cs.size ≤ 1000000) : SPend w0 l0 Bx S Bf Lr Dd rec (boxAcc W.heap.size t cs.toList :: T) ps p (W.alloc (.cells cs t)) := by
  obtain ⟨A, n, c, u, Fa, cF, hB, hL, h1, h2, h3, h4⟩ := h
  exact ⟨A, n, c, u, Fa, cF, (hB.box cs t hs).swap, hL, heap_alloc_keep _ h1, heap_alloc_keep _ h2, h3, h4⟩
theorem SEnd.alloc (h : SEnd w0 l0 Bx S Bf Lr Dd rec T ps W) (cs : Array Value) (t : TypeId) (hs : cs.size ≤ 1000000) : SEnd w0 l0 Bx S Bf Lr Dd rec (boxAcc W.heap.size t cs.toList :: T) ps (W.alloc (.cells cs t)) := by
  obtain ⟨A, n, c, u, s, Fa, cF, hB, hL, h0, h0', h1, h2, h3, h4⟩ := h
  exact ⟨A, n, c, u, s, Fa, cF, hB.box cs t hs, hL, h0, h0', heap_alloc_keep _ h1, heap_alloc_keep _ h2, h3, h4⟩
theorem SPend.set {X : Nat} {t : TypeId} {vs : List Value} (h : SPend w0 l0 Bx S Bf Lr Dd rec (boxAcc X t vs :: T) ps p W) (j : Nat) (v : Value) : SPend w0 l0 Bx S Bf Lr Dd rec (boxAcc X t (vs.set j v) :: T) ps p (W.setCell ⟨X, j, none⟩ v) := by
  obtain ⟨A, n, c, u, Fa, cF, hB, hL, h1, h2, h3, h4⟩ := h
  have hX := (hB.boxAt 1 rfl).2
  exact ⟨A, n, c, u, Fa, cF, hB.boxSet 1 rfl j v, hL, heap_set_keep h1 ⟨_, _, _, hX⟩ rfl, heap_set_keep h2 ⟨_, _, _, hX⟩ rfl, h3, h4⟩
theorem SEnd.set {X : Nat} {t : TypeId} {vs : List Value} (h : SEnd w0 l0 Bx S Bf Lr Dd rec (boxAcc X t vs :: T) ps W) (j : Nat) (v : Value) : SEnd w0 l0 Bx S Bf Lr Dd rec (boxAcc X t (vs.set j v) :: T) ps (W.setCell ⟨X, j, none⟩ v) := by
  obtain ⟨A, n, c, u, s, Fa, cF, hB, hL, h0, h0', h1, h2, h3, h4⟩ := h
  have hX := (hB.boxAt 0 rfl).2
  exact ⟨A, n, c, u, s, Fa, cF, hB.boxSet 0 rfl j v, hL, h0, h0', heap_set_keep h1 ⟨_, _, _, hX⟩ rfl, heap_set_keep h2 ⟨_, _, _, hX⟩ rfl, h3, h4⟩
/-- the receiver's box -/
theorem SInv.recv (h : SInv w0 l0 Bx S Bf Lr Dd rec T ps W) : W.cell? ⟨Bx, 0, none⟩ = some (.pointer (some ⟨S, 0, none⟩)) := by
  obtain ⟨A, n, c, u, Fa, cF, hB, _⟩ := h
  exact hB.cell (T.length + 0) (by rw [back_at]; rfl) 0 rfl
/-- the loop variable's box -/
theorem SInv.head {X : Nat} {t : TypeId} {vs : List Value} (h : SInv w0 l0 Bx S Bf Lr Dd rec (boxAcc X t vs :: T) ps W) : W.heap[X]? = some (.cells vs.toArray t (0, 0)) := by
  obtain ⟨A, n, c, u, Fa, cF, hB, _⟩ := h
  exact (hB.boxAt 0 rfl).2
theorem SPend.head {X : Nat} {t : TypeId} {vs : List Value} (h : SPend w0 l0 Bx S Bf Lr Dd rec (boxAcc X t vs :: T) ps p W) : W.heap[X]? = some (.cells vs.toArray t (0, 0)) := by
  obtain ⟨A, n, c, u, Fa, cF, hB, _⟩ := h
  exact (hB.boxAt 1 rfl).2
theorem SEnd.head {X : Nat} {t : TypeId} {vs : List Value} (h : SEnd w0 l0 Bx S Bf Lr Dd rec (boxAcc X t vs :: T) ps W) : W.heap[X]? = some (.cells vs.toArray t (0, 0)) := by
  obtain ⟨A, n, c, u, s, Fa, cF, hB, _⟩ := h
  exact (hB.boxAt 0 rfl).2
theorem cells_two {X : Nat} {t : TypeId} {a b : Value} (h : W.heap[X]? = some (.cells [a, b].toArray t (0, 0))) : (W.cell? ⟨X, 0, none⟩ = some a ∧ W.cell? ⟨X, 1, none⟩ = some b) ∧ W.frozen? ⟨X, 0, none⟩ = false ∧ W.frozen? ⟨X, 1, none⟩ = false :=
  ⟨⟨block_cell h rfl, block_cell h rfl⟩, frozen_of_row W X 0 _ _ h, frozen_of_row W X 1 _ _ h⟩
/-- how many frames are told, read off the world -/
def toldOf (Bf : Nat) (W : World) : Nat := match W.cell? ⟨Bf, 0, none⟩ with
  | some (.slice _ n _) => n
  | _ => 0
theorem SPend.told (h : SPend w0 l0 Bx S Bf Lr Dd rec T ps p W) : toldOf Bf W = ps.length ∧ ps.length < l0.length := by
  obtain ⟨A, n, c, u, Fa, cF, hB, hL, _⟩ := h
  have hc : W.cell? ⟨Bf, 0, none⟩ = some (.slice Fa ps.length cF) := hB.cell ((p.acc :: T).length + 2) (by rw [← List.cons_append, back_at]; rfl) 0 rfl
  have h1 := hL.few
  have h2 := hL.un
  unfold toldOf
  rw [hc]
  simp at h1
  exact ⟨rfl, by omega⟩
end
end Go.Proofs.Ytfpjmeknjhhakaa.K
