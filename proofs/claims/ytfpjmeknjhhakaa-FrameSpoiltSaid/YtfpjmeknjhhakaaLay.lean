/- A slice that came in lies in memory that is there, also where nothing is read of it. -/
import Derived.Test.YtfpjmeknjhhakaaOpen
namespace Go.Proofs.Ytfpjmeknjhhakaa.K
open Go Go.RowKit Go.WideShapes Go.ChangeShapes

set_option maxRecDepth 100000 in
theorem okWide_lay {W : World} {r : Reach} {b0 : Nat} {t e : TypeId} {A : Option Addr} {n c : Nat} (ht : Try.prog.underlying t = some (.slice e)) (h : Value.okWide Try.prog W r b0 t (.slice A n c)) : ∀ a, A = some a → a.block < W.heap.size := by
  rintro a rfl
  simp only [Value.okWide, ht, Cell.okWide, Cell.ok] at h
  obtain ⟨_, _, _, _, row, cells, hs, _⟩ := h
  unfold World.shape? at hs
  cases hg : W.heap[a.block]? with
  | none => rw [hg] at hs; cases hs
  | some o => exact (Array.getElem?_eq_some_iff.1 hg).1
set_option maxRecDepth 100000 in
/-- a word that came in -/
theorem open_u32 {H : Type} {enc : TypeId × Value → H} {W : World} {base b0 : Nat} {sp : Nat → Bool} {held : Bool} {r : Reach} {v : Value} {d : DataW H} {p : List MemPlace} (hv : Value.okWide Try.prog W r b0 40 v) (h : DataW.Trod enc Try.prog W base sp held 40 v d p) : ∃ x : BitVec 32, v = W32 x := by
  obtain ⟨n, rfl, _, _, hw⟩ := open_int Try.underlying40 hv h
  have h' : 0 ≤ n ∧ n < 4294967296 := by
    simp [Lit.wf, IntKind.min, IntKind.max, IntKind.bits, IntKind.signed] at hw
    omega
  refine ⟨BitVec.ofInt 32 n, ?_⟩
  simp only [W32, BitVec.toNat_ofInt, Value.int.injEq, true_and]
  omega
end Go.Proofs.Ytfpjmeknjhhakaa.K
