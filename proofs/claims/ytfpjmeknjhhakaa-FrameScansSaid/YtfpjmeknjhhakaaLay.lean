/- A slice that came in lies in memory that is there, also where nothing is read of it. -/
import Derived.Test.YtfpjmeknjhhakaaOpen
namespace Go.Proofs.Ytfpjmeknjhhakaa.K
open Go Go.RowKit Go.WideShapes

set_option maxRecDepth 100000 in
theorem okWide_lay {W : World} {r : Reach} {b0 : Nat} {t e : TypeId} {A : Option Addr} {n c : Nat} (ht : Try.prog.underlying t = some (.slice e)) (h : Value.okWide Try.prog W r b0 t (.slice A n c)) : ∀ a, A = some a → a.block < W.heap.size := by
  rintro a rfl
  simp only [Value.okWide, ht, Cell.okWide, Cell.ok] at h
  obtain ⟨_, _, _, _, row, cells, hs, _⟩ := h
  unfold World.shape? at hs
  cases hg : W.heap[a.block]? with
  | none => rw [hg] at hs; cases hs
  | some o => exact (Array.getElem?_eq_some_iff.1 hg).1
end Go.Proofs.Ytfpjmeknjhhakaa.K
