/- The contracts of the reference's reader: New, Number, Bad, Done. -/
import Derived.Test.YtdmpphioflcofaaLq7
namespace Go.Proofs.Ytdmpphioflcofaa.K
open Go Go.RowKit

def readL (A : Option Addr) (n c : Nat) (at' : Int) (bad : Bool) : List Value := [.slice A n c, .int .i64 at', .bool bad]
/-- the block R is a reader of the document's: s is what is left, or none if it is bad -/
structure RefR (w : World) (R : Nat) (s : M.Rdr) (A : Option Addr) (n c at' : Nat) (bad : Bool) (D : List (BitVec 8)) : Prop where
  blk : ∃ t, w.heap[R]? = some (.cells (readL A n c at' bad).toArray t (0, 0))
  rd : Rd w A D
  len : D.length = n
  none : A = Option.none → c = 0
  at_le : at' ≤ n
  is : s = if bad then Option.none else some (D.drop at')
  n_le : n ≤ 1000000000000
  cap : n ≤ c ∧ c ≤ 9223372036854775807
  ne : ∀ a, A = some a → a.block ≠ R
  form : ∀ a, A = some a → ∃ g, a = ⟨g, 0, Option.none⟩
/-- wherever it stands -/
def RefN (w : World) (R : Nat) (s : M.Rdr) (A : Option Addr) (n c : Nat) (D : List (BitVec 8)) : Prop := ∃ at' bad, RefR w R s A n c at' bad D
theorem RefR.cell {w : World} {R : Nat} {s : M.Rdr} {A : Option Addr} {n c at' : Nat} {bad : Bool} {D : List (BitVec 8)} (h : RefR w R s A n c at' bad D) {i : Nat} {v : Value} (hv : (readL A n c at' bad)[i]? = some v) : w.cell? ⟨R, i, Option.none⟩ = some v := by
  obtain ⟨t, hb⟩ := h.blk
  exact block_cell hb hv
theorem RefR.free {w : World} {R : Nat} {s : M.Rdr} {A : Option Addr} {n c at' : Nat} {bad : Bool} {D : List (BitVec 8)} (h : RefR w R s A n c at' bad D) (i : Nat) : w.frozen? ⟨R, i, Option.none⟩ = false := by
  obtain ⟨t, hb⟩ := h.blk
  exact frozen_of_row w R i _ t hb
theorem Rd.setCell' {w : World} {A : Option Addr} {l : List (BitVec 8)} (h : Rd w A l) {b i : Nat} (hb : ∀ a, A = some a → a.block ≠ b) (v : Value) : Rd (w.setCell ⟨b, i, none⟩ v) A l := fun k hk => by
  obtain ⟨g', o, e, hc⟩ := h k hk
  exact ⟨g', o, e, by rw [cell_setCell_ne _ (hb _ e)]; exact hc⟩
theorem RefR.bad {w : World} {R : Nat} {s : M.Rdr} {A : Option Addr} {n c at' : Nat} {bad : Bool} {D : List (BitVec 8)} (h : RefR w R s A n c at' bad D) : RefR (w.setCell ⟨R, 2, Option.none⟩ (.bool true)) R Option.none A n c at' true D := by
  obtain ⟨t, hb⟩ := h.blk
  exact ⟨⟨t, block_set hb 2 _⟩, h.rd.setCell' h.ne _, h.len, h.none, h.at_le, rfl, h.n_le, h.cap, h.ne, h.form⟩
theorem RefR.move {w : World} {R : Nat} {s : M.Rdr} {A : Option Addr} {n c at' : Nat} {D : List (BitVec 8)} (h : RefR w R s A n c at' false D) (k : Nat) (hk : at' + k ≤ n) : RefR (w.setCell ⟨R, 1, Option.none⟩ (.int .i64 ((at' + k : Nat) : Int))) R (some (D.drop (at' + k))) A n c (at' + k) false D := by
  obtain ⟨t, hb⟩ := h.blk
  exact ⟨⟨t, block_set hb 1 _⟩, h.rd.setCell' h.ne _, h.len, h.none, hk, rfl, h.n_le, h.cap, h.ne, h.form⟩
theorem RefR.drewN {w : World} {R : Nat} {s : M.Rdr} {A : Option Addr} {n c at' : Nat} {bad : Bool} {D : List (BitVec 8)} (h : RefR w R s A n c at' bad D) (q : Nat) : RefR (w.drewN q) R s A n c at' bad D :=
  ⟨h.blk, h.rd, h.len, h.none, h.at_le, h.is, h.n_le, h.cap, h.ne, h.form⟩
theorem conv_W64_int {P : Program} (w : World) (src dst : TypeId) (x : BitVec 64) (hs : P.underlying src = some (.int .u64)) (hd : P.underlying dst = some (.int .i64)) : (convert src dst (W64 x)).run P w = .ok (.int .i64 x.toInt) w := by
  have h : IntKind.i64.wrap (x.toNat : Int) = x.toInt := by
    rw [BitVec.toInt_eq_toNat_bmod]
    simp [IntKind.wrap, IntKind.bits, IntKind.signed, Int.bmod]
    split <;> split <;> omega
  simp [convert, run_underlying hs, run_underlying hd, Conv.intToInt, W64, h]
theorem grown_set {w : World} {g i : Nat} (v : Value) : w.grownBy (w.setCell ⟨g, i, none⟩ v) (some g) := grownBy_setCell w g i v
theorem grown_drew {w w' : World} {row : Option Nat} (h : w.grownBy w' row) (q : Nat) : w.grownBy (w'.drewN q) row := ⟨h.os, h.tape, h.output, h.size, h.block⟩

end Go.Proofs.Ytdmpphioflcofaa.K
