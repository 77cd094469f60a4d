/- Join and ApartBytes at literal lists of slices. -/
import Derived.Test.YtjnhfmicadcmnaaFrom
import Derived.Test.YtjnhfmicadcmnaaLit
import Derived.Test.YtjnhfmicadcmnaaWireBackMath
namespace Go.Proofs.Ytjnhfmicadcmnaa.K
open Go Go.RowKit

theorem join_lit (l : List RB) (w : World) (cs : Array Value) (k c : Nat) (hcs : cs = (l.map fun p => p.1.v).toArray) (hk : k = l.length) (hl : ∀ p ∈ l, RowRd w p.1 p.2) (hm : l.length ≤ 1000) (hN : (flat l).length ≤ 100000000000000) :
    Calls Try.prog 17 #[.slice (some ⟨w.heap.size, 0, none⟩) k c] (w.alloc (.cells cs 22)) (MadeO (w.alloc (.cells cs 22)) (flat l)) := by
  subst hcs hk
  have hj : joined (bytesAt l) l.length = flat l := joined_all l
  refine (join_any _ l.length c (rowsOf l) (bytesAt l) _ (parts_of l rfl hl) (by omega) (by rw [hj]; exact hN)).mono ?_
  rintro e w' ⟨A, N, c', he, hN', ho, hb⟩
  rw [hj] at hN' ho
  exact ⟨A, N, c', he, hN', ho, hb⟩
theorem join_none (w : World) : Calls Try.prog 17 #[.slice none 0 0] w (MadeO w []) := by
  refine (join_any none 0 0 (fun _ => ⟨none, 0, 0⟩) (fun _ => []) w (fun j hj => absurd hj (Nat.not_lt_zero _)) (by omega) (by simp [joined])).mono ?_
  rintro e w' ⟨A, N, c', he, hN', ho, hb⟩
  exact ⟨A, N, c', he, hN', ho, hb⟩
theorem keptE_made {w0 : World} {e : M.Ent} {g : Nat} {A : Option Addr} {n c : Nat} (hg : w0.heap[g]? = some (.cells (bv (e.data ++ marks 1 0 12)).toArray 5 (0, 0))) (hr : RowRd w0 ⟨A, n, c⟩ e.data) (hn2 : n ≤ 140737488000000) {w : World} (h : Since w0 w) :
    Calls Try.prog 20 #[.agg #[.int .i64 e.term, B8 e.kind, .int .i64 e.version, .int .i64 e.server, .bool e.good, .slice (some ⟨g, 0, none⟩) n (n + 12)], .agg #[.int .i64 e.term, B8 e.kind, .int .i64 e.version, .int .i64 e.server, .bool e.good, .slice A n c]] w fun e w' => e = .returned (.bool true) ∧ Below w.heap.size w w' :=
  KeptEntry_any e.term e.version e.server e.kind e.good g A n c e.data w (h.at hg) (h.row hr) hn2
end Go.Proofs.Ytjnhfmicadcmnaa.K
