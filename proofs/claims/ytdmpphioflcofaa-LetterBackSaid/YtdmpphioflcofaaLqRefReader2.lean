/- The contracts of the reference's reader: New, Bad, Done, Bytes. -/
import Derived.Test.YtdmpphioflcofaaLqRefReader
import Derived.Deep.RegionHeld3
namespace Go.Proofs.Ytdmpphioflcofaa.K
open Go Go.RowKit

theorem RefR.grown {w w' : World} {R : Nat} {s : M.Rdr} {A : Option Addr} {n c at' : Nat} {bad : Bool} {D : List (BitVec 8)} (h : RefR w R s A n c at' bad D) {row : Option Nat} (hg : w.grownBy w' row) (hR : row ≠ some R) (hA : ∀ a, A = some a → row ≠ some a.block) : RefR w' R s A n c at' bad D := by
  obtain ⟨t, hb⟩ := h.blk
  refine ⟨⟨t, (hg.block R (Array.getElem?_eq_some_iff.1 hb).1 (Ne.symm hR)).trans hb⟩, fun k hk => ?_, h.len, h.none, h.at_le, h.is, h.n_le, h.cap, h.ne, h.form⟩
  obtain ⟨b, o, e, hc⟩ := h.rd k hk
  exact ⟨b, o, e, hg.cell hc (Ne.symm (hA ⟨b, o, Option.none⟩ e))⟩
theorem RefR.lt {w : World} {R : Nat} {s : M.Rdr} {A : Option Addr} {n c at' : Nat} {bad : Bool} {D : List (BitVec 8)} (h : RefR w R s A n c at' bad D) : R < w.heap.size := by
  obtain ⟨t, hb⟩ := h.blk
  exact (Array.getElem?_eq_some_iff.1 hb).1
theorem grown_trans {w w1 w2 : World} {row : Option Nat} (h : w.grownBy w1 row) (h' : w1.grownBy w2 row) : w.grownBy w2 row :=
  ⟨h'.os.trans h.os, h'.tape.trans h.tape, h'.output.trans h.output, Nat.le_trans h.size h'.size, fun k hk hne => (h'.block k (Nat.lt_of_lt_of_le hk h.size) hne).trans (h.block k hk hne)⟩
theorem grown_weak {w w1 : World} {row : Option Nat} (h : w.grownBy w1 none) : w.grownBy w1 row := ⟨h.os, h.tape, h.output, h.size, fun k hk _ => h.block k hk (by simp)⟩
theorem grown_of_below {w w1 : World} {row : Option Nat} (h : Below w.heap.size w w1) : w.grownBy w1 row := ⟨h.os, h.tape, h.output, h.size, fun k hk _ => h.block k hk⟩

/-- a new reader -/
def RNew (w : World) (n : Nat) (bs : List (BitVec 8)) (e : Ending) (w' : World) : Prop := ∃ R B c', e = .returned (.pointer (some ⟨R, 0, none⟩)) ∧ w.heap.size ≤ R ∧ RefR w' R (some bs) B n c' 0 false bs ∧ (∀ a, B = some a → w.heap.size ≤ a.block ∧ a.block < w'.heap.size) ∧ Below w.heap.size w w'


theorem src_old {W : World} {ad0 : Addr} {news : List Value} (h : ∀ j u, news[j]? = some u → W.cell? (ad0.add j) = some u) (o : Obj) : ∀ ad, some ad0 = some ad → ∀ j u, news[j]? = some u → (W.alloc o).cell? (ad.add j) = some u := by
  intro ad had j u hu
  cases had
  exact cell_old o (h j u hu)
theorem grown_new {W w3 : World} {o : Obj} {row : Option Nat} (hg : ((W.alloc o).drew).grownBy w3 (some W.heap.size)) : W.grownBy w3 row :=
  ⟨hg.os, hg.tape, hg.output, Nat.le_trans (by simp) hg.size, fun k hk _ => (hg.block k (by simp; omega) (by simp; omega)).trans (heap_alloc_old W o hk)⟩
/-- bytes that were read: they lie in memory of their own -/
def RBytes (w : World) (R : Nat) (s : M.Rdr) (A : Option Addr) (n c : Nat) (D : List (BitVec 8)) (e : Ending) (w' : World) : Prop :=
  ∃ B m c', e = .returned (.slice B m c') ∧ w'.ownsRow w.heap.size 5 1 (.slice B m c') m (bv (M.rdBytes s).1) ∧ RefN w' R (M.rdBytes s).2 A n c D ∧ w.grownBy w' (some R)
theorem rdBytes_none {s : M.Rdr} {n : Int} (h : M.rdNumber s = (n, none)) : M.rdBytes s = ([], none) := by simp [M.rdBytes, h]
theorem rdBytes_some {s : M.Rdr} {n : Int} {l : List (BitVec 8)} (h : M.rdNumber s = (n, some l)) : M.rdBytes s = if n < 0 ∨ (l.length : Int) < n then ([], none) else (l.take n.toNat, some (l.drop n.toNat)) := by simp [M.rdBytes, h]

end Go.Proofs.Ytdmpphioflcofaa.K
