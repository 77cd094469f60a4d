/- A row that reads a list of bytes. -/
import Derived.Test.YtfpjmeknjhhakaaAppendAny
import Derived.Test.YtfpjmeknjhhakaaLent
namespace Go.Proofs.Ytfpjmeknjhhakaa.K
open Go Go.RowKit

/-- a row that reads bs -/
structure RowRd (w : World) (x : Rw) (bs : List (BitVec 8)) : Prop where
  rd : Rd w x.A bs
  len : bs.length = x.n
  none : x.A = Option.none → x.c = 0
theorem RowRd.below {w w' : World} {x : Rw} {bs : List (BitVec 8)} (h : RowRd w x bs) (hb : Below w.heap.size w w') : RowRd w' x bs := ⟨h.rd.below hb, h.len, h.none⟩
theorem RowRd.of_row {w : World} {base : Nat} {e : TypeId} {A : Option Addr} {n c : Nat} {bs : List (BitVec 8)} (h : w.ownsRow base e 1 (.slice A n c) n (bv bs)) : RowRd w ⟨A, n, c⟩ bs :=
  ⟨Rd.of_own h, by have := h.1; rw [bv_length] at this; show _ = n; omega, fun e => ((row_room h).2.2.1 e).2⟩
end Go.Proofs.Ytfpjmeknjhhakaa.K
