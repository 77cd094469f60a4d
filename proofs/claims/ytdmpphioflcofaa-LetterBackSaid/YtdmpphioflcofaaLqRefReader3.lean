/- The contract of the reference's reader: Entry. -/
import Derived.Test.YtdmpphioflcofaaLqRefReader2
import Derived.Test.YtdmpphioflcofaaLq7
namespace Go.Proofs.Ytdmpphioflcofaa.K
open Go Go.RowKit

/-- an entry that was read -/
def REntry (w : World) (R : Nat) (s : M.Rdr) (A : Option Addr) (n c : Nat) (D : List (BitVec 8)) (e : Ending) (w' : World) : Prop :=
  ∃ B m c', e = .returned (.agg (entL (M.rdEntry s).1.term (M.rdEntry s).1.version (M.rdEntry s).1.server (M.rdEntry s).1.kind (M.rdEntry s).1.good B m c').toArray) ∧
    w'.ownsRow w.heap.size 5 1 (.slice B m c') m (bv (M.rdEntry s).1.data) ∧ RefN w' R (M.rdEntry s).2 A n c D ∧ w.grownBy w' (some R)
theorem grown_setRow {w W : World} {R g : Nat} (h : w.grownBy W (some R)) (hg : w.heap.size ≤ g) (cs : Array Value) : w.grownBy (W.setRow g cs) (some R) :=
  ⟨h.os, h.tape, h.output, by have := h.size; simp [World.setRow]; exact this, fun k hk hne => (setRow_other W g k cs (by omega)).trans (h.block k hk hne)⟩
theorem RefR.setRow {w : World} {R : Nat} {s : M.Rdr} {A : Option Addr} {n c at' : Nat} {bad : Bool} {D : List (BitVec 8)} (h : RefR w R s A n c at' bad D) (g : Nat) (hR : R ≠ g) (hA : ∀ a, A = some a → a.block ≠ g) (cs : Array Value) : RefR (w.setRow g cs) R s A n c at' bad D :=
  h.grown (row := some g) ⟨rfl, rfl, rfl, by simp [World.setRow], fun k _ hk => setRow_other w g k cs (fun e => hk (by rw [e]))⟩ (fun e => hR (by cases e; rfl)) (fun a e e' => hA a e (by cases e'; rfl))
theorem RefR.lt_row {w : World} {R : Nat} {s : M.Rdr} {A : Option Addr} {n c at' : Nat} {bad : Bool} {D : List (BitVec 8)} (h : RefR w R s A n c at' bad D) (hD : 0 < D.length) : ∀ a, A = some a → a.block < w.heap.size := by
  intro a e
  obtain ⟨b, o, e', hlt, _⟩ := h.rd.lay hD
  rw [e] at e'; cases e'; exact hlt
theorem row_setRow {w : World} {base : Nat} {e : TypeId} {B : Option Addr} {m c : Nat} {xs : List Value} (h : w.ownsRow base e 1 (.slice B m c) m xs) (g : Nat) (hg : (Value.slice B m c).ownBlock ≠ some g) (cs : Array Value) : (w.setRow g cs).ownsRow base e 1 (.slice B m c) m xs :=
  h.kept (row := some g) ⟨rfl, rfl, rfl, by simp [World.setRow], fun k _ hk => setRow_other w g k cs (fun e => hk (by rw [e]))⟩ (.inr hg)

end Go.Proofs.Ytdmpphioflcofaa.K
