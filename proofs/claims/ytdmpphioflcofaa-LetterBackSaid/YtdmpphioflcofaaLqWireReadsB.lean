/- The contracts of the program's reader: Bytes. -/
import Derived.Test.YtdmpphioflcofaaLqWireReads
namespace Go.Proofs.Ytdmpphioflcofaa.K
open Go Go.RowKit

theorem own_low {w : World} {base base' : Nat} {e : TypeId} {size : Nat} {v : Value} {n : Nat} {xs : List Value} (h : w.ownsRow base e size v n xs) (hb : base' ≤ base) : w.ownsRow base' e size v n xs :=
  ⟨h.1, h.2.imp id fun ⟨g, cap, cur, h1, h2, h3⟩ => ⟨g, cap, cur, h1, Nat.le_trans hb h2, h3⟩⟩
theorem prdBytes_none {l : List (BitVec 8)} (h : (M.rdBytes (some l)).2 = none) : M.rdBytes (some l) = ([], none) := by
  unfold M.rdBytes at *
  split
  · rfl
  · rename_i hq
    simp only [hq] at h
    split at h
    · rename_i hc; rw [if_pos hc]
    · cases h

/-- bytes were got, or nothing -/
def GotByt (w : World) (P : Nat) (s : M.Rdr) (A0 : Option Addr) (e : Ending) (w' : World) : Prop := ∃ B m c, e = .returned (.slice B m c) ∧ w'.ownsRow w.heap.size 5 1 (.slice B m c) m (bv (M.rdBytes s).1) ∧ PrgN w' P (M.rdBytes s).2 A0 ∧ w.grownBy w' (some P)




end Go.Proofs.Ytdmpphioflcofaa.K
