/- Slices of bytes that lie in a row, as they are handed to a variadic call. -/
import Derived.Test.YtfpjmeknjhhakaaRowRead
namespace Go.Proofs.Ytfpjmeknjhhakaa.K
open Go Go.RowKit

/-- m slices of bytes lie at S and read f -/
def Parts (w : World) (S : Option Addr) (m : Nat) (r : Nat → Rw) (f : Nat → List (BitVec 8)) : Prop :=
  ∀ j, j < m → (∃ b o, S = some ⟨b, o, none⟩ ∧ w.cell? ⟨b, o + j, none⟩ = some (.slice (r j).A (r j).n (r j).c)) ∧ Rd w (r j).A (f j) ∧ (f j).length = (r j).n ∧ ((r j).A = none → (r j).c = 0)
theorem Parts.below {w w' : World} {S : Option Addr} {m : Nat} {r : Nat → Rw} {f : Nat → List (BitVec 8)} (h : Parts w S m r f) (hb : Below w.heap.size w w') : Parts w' S m r f := fun j hj => by
  obtain ⟨⟨b, o, h1, h2⟩, h3, h4, h5⟩ := h j hj
  exact ⟨⟨b, o, h1, (hb.cell (block_lt_of_cell h2)).trans h2⟩, h3.below hb, h4, h5⟩
/-- what k of them are, one behind the other -/
def joined (f : Nat → List (BitVec 8)) : Nat → List (BitVec 8)
  | 0 => []
  | k + 1 => joined f k ++ f k
theorem joined_le (f : Nat → List (BitVec 8)) {k m : Nat} (h : k ≤ m) : (joined f k).length ≤ (joined f m).length := by
  induction m with
  | zero => obtain rfl : k = 0 := by omega
            exact Nat.le_refl _
  | succ m ih =>
    by_cases e : k = m + 1
    · subst e; exact Nat.le_refl _
    · have := ih (by omega)
      rw [joined, List.length_append]; omega

def rowsOf (l : List (Rw × List (BitVec 8))) (j : Nat) : Rw := (l.getD j (⟨none, 0, 0⟩, [])).1
def bytesAt (l : List (Rw × List (BitVec 8))) (j : Nat) : List (BitVec 8) := (l.getD j (⟨none, 0, 0⟩, [])).2
theorem parts_of {w w1 : World} {t : TypeId} (l : List (Rw × List (BitVec 8))) (hw : w1 = w.alloc (.cells (l.map fun p => p.1.v).toArray t)) (h : ∀ p ∈ l, RowRd w p.1 p.2) :
    Parts w1 (some ⟨w.heap.size, 0, none⟩) l.length (rowsOf l) (bytesAt l) := by
  subst hw
  intro j hj
  have hm : l.getD j (⟨none, 0, 0⟩, []) = l[j] := by simp [hj]
  have h1 := (h l[j] (List.getElem_mem _)).below ((Below.refl w.heap.size w).alloc (Nat.le_refl _) (.cells (l.map fun p => p.1.v).toArray t))
  refine ⟨⟨w.heap.size, 0, rfl, ?_⟩, ?_, ?_, ?_⟩
  · rw [World.cell?_alloc_new, rowsOf, hm]
    simp [hj, Rw.v]
  · rw [rowsOf, bytesAt, hm]; exact h1.rd
  · rw [rowsOf, bytesAt, hm]; exact h1.len
  · rw [rowsOf, hm]; exact h1.none
theorem joined_flat (l : List (Rw × List (BitVec 8))) (k : Nat) (hk : k ≤ l.length) : joined (bytesAt l) k = ((l.take k).map (·.2)).flatten := by
  induction k with
  | zero => rfl
  | succ k ih =>
    rw [joined, ih (by omega), List.take_succ_eq_append_getElem (by omega), List.map_append, List.flatten_append]
    simp [bytesAt, show k < l.length by omega]
theorem joined_all (l : List (Rw × List (BitVec 8))) : joined (bytesAt l) l.length = (l.map (·.2)).flatten := by
  rw [joined_flat l _ (Nat.le_refl _), List.take_length]

end Go.Proofs.Ytfpjmeknjhhakaa.K
