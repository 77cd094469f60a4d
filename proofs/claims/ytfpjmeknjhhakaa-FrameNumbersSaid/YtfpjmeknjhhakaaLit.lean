/- Literal slices, lent ones, and the kit's questions about them. -/
import Derived.Test.YtfpjmeknjhhakaaApartBytes
import Derived.Test.YtfpjmeknjhhakaaBank
import Derived.Test.YtfpjmeknjhhakaaParts
namespace Go.Proofs.Ytfpjmeknjhhakaa.K
open Go Go.RowKit

theorem row_lit (w : World) (cs : Array Value) (t : TypeId) (bs : List (BitVec 8)) (n c : Nat) (h : cs.toList = bv bs) (hn : bs.length = n) : RowRd (w.alloc (.cells cs t)) ⟨some ⟨w.heap.size, 0, none⟩, n, c⟩ bs :=
  ⟨Rd.of_block (heap_alloc_new w _) (by rw [h, ← bv_length, List.take_length]), hn, fun h => by cases h⟩
/-- two rows that read the same -/
theorem SameBytes_eq (A B : Option Addr) (n m c d : Nat) (bs : List (BitVec 8)) (w : World) (hx : RowRd w ⟨A, n, c⟩ bs) (hy : RowRd w ⟨B, m, d⟩ bs) (hn2 : n ≤ 4611686018427387904) :
    Calls Try.prog 17 #[.slice A n c, .slice B m d] w fun e w' => e = .returned (.bool true) ∧ Below w.heap.size w w' := by
  have hnm : m ≤ 4611686018427387904 := by have := hx.len; have := hy.len; simp at *; omega
  refine (SameBytes_any A B n m c d bs bs w hx.rd hy.rd hx.len hy.len hn2 hnm).mono ?_
  rintro e w1 ⟨rfl, q, rfl⟩
  exact ⟨by rw [decide_eq_true rfl], below_drewN (Below.refl _ _) q⟩
theorem grown_none_of_below {w w1 : World} (h : Below w.heap.size w w1) : w.grownBy w1 none := ⟨h.os, h.tape, h.output, h.size, fun k hk _ => h.block k hk⟩
abbrev RB := Rw × List (BitVec 8)
def flat (l : List RB) : List (BitVec 8) := (l.map (·.2)).flatten
def accOf (p : RB) : Acc := ⟨p.1.v, p.1.n, 5, 1, bv p.2⟩
theorem apart_lit {w0 w : World} (l : List RB) (cs : Array Value) (k c : Nat) (hcs : cs = (l.map fun p => p.1.v).toArray) (hk : k = l.length) (hB : Bank w0 w (l.reverse.map accOf)) (hm : l.length ≤ 1000000) (hn : ∀ p ∈ l, p.1.n ≤ 1000000000000) :
    Calls Try.prog 19 #[.slice (some ⟨w.heap.size, 0, none⟩) k c] (w.alloc (.cells cs 27)) fun e w' => e = .returned (.bool true) ∧ Since w0 w' := by
  subst hcs hk
  have hB2 := hB.alloc (.cells (l.map fun p => p.1.v).toArray 27)
  have hrow : ∀ j, (h : j < l.length) → rowsOf l j = l[j].1 ∧ bytesAt l j = l[j].2 := fun j h => by simp [rowsOf, bytesAt, h]
  refine (ApartBytes_any (some ⟨w.heap.size, 0, none⟩) l.length c (rowsOf l) (bytesAt l) w0.heap.size (w.alloc (.cells (l.map fun p => p.1.v).toArray 27)) (fun j hj => ?_) (fun j hj => ?_) (fun i j hi hj hij => ?_) hm (fun j hj => ?_) hB2.since.size).mono ?_
  · refine ⟨w.heap.size, 0, rfl, ?_⟩
    rw [World.cell?_alloc_new, (hrow j hj).1]
    simp [hj]
  · have := hB2.own (accOf l[j]) (List.mem_map.2 ⟨l[j], by simp, rfl⟩)
    unfold Rw.own
    rw [(hrow j hj).1, (hrow j hj).2]
    exact this
  · have h1 : (l.reverse.map accOf)[l.length - 1 - i]? = some (accOf l[i]) := by
      rw [List.getElem?_map, List.getElem?_reverse (by omega)]
      simp [show l.length - 1 - (l.length - 1 - i) = i by omega, hi]
    have h2 : (l.reverse.map accOf)[l.length - 1 - j]? = some (accOf l[j]) := by
      rw [List.getElem?_map, List.getElem?_reverse (by omega)]
      simp [show l.length - 1 - (l.length - 1 - j) = j by omega, hj]
    rw [(hrow i hi).1, (hrow j hj).1]
    exact hB2.sepAt h1 h2 (by omega)
  · rw [(hrow j hj).1]; exact hn _ (List.getElem_mem _)
  · rintro e w' ⟨he, hb⟩
    exact ⟨he, hB2.since.trans hb⟩
/-- lent bytes -/
def Lent1 (w0 : World) (n : Nat) (bs : List (BitVec 8)) (e : Ending) (w' : World) : Prop := ∃ g, e = .returned (.slice (some ⟨g, 0, none⟩) n (n + 12)) ∧ w0.heap.size ≤ g ∧ w'.heap[g]? = some (.cells (bv (bs ++ marks 1 0 12)).toArray 5 (0, 0)) ∧ Since w0 w'
theorem lent_from (w0 : World) (A : Option Addr) (n c : Nat) (bs : List (BitVec 8)) (hr : RowRd w0 ⟨A, n, c⟩ bs) (hn2 : n ≤ 140737488000000) {w : World} (h : Since w0 w) :
    Calls Try.prog 42 #[.slice A n c] w (Lent1 w n bs) := by
  have hr' := h.row hr
  exact (LentBytes_any A n c bs w hr'.rd hr'.len hn2 hr'.none).mono fun e w' ⟨g, he, hg, hb, hbe⟩ => ⟨g, he, hg, hb, hbe⟩
/-- kept, as lent -/
theorem kept_made {w0 : World} {g : Nat} {A : Option Addr} {n c : Nat} {bs : List (BitVec 8)} (hg : w0.heap[g]? = some (.cells (bv (bs ++ marks 1 0 12)).toArray 5 (0, 0))) (hr : RowRd w0 ⟨A, n, c⟩ bs) (hn2 : n ≤ 140737488000000) {w : World} (h : Since w0 w) :
    Calls Try.prog 18 #[.slice (some ⟨g, 0, none⟩) n (n + 12), .slice A n c] w fun e w' => e = .returned (.bool true) ∧ Below w.heap.size w w' :=
  (KeptBytes_any g A n c bs w (h.at hg) (h.row hr).rd hr.len hn2).mono fun e w' ⟨he, q, hw⟩ => ⟨he, by subst hw; exact below_drewN (Below.refl _ _) q⟩
theorem same_made {w0 : World} {A B : Option Addr} {n m c d : Nat} {bs : List (BitVec 8)} (hx : RowRd w0 ⟨A, n, c⟩ bs) (hy : RowRd w0 ⟨B, m, d⟩ bs) (hn2 : n ≤ 4611686018427387904) {w : World} (h : Since w0 w) :
    Calls Try.prog 17 #[.slice A n c, .slice B m d] w fun e w' => e = .returned (.bool true) ∧ Below w.heap.size w w' :=
  SameBytes_eq A B n m c d bs w (h.row hx) (h.row hy) hn2
/-- lent bytes read as the bytes -/
theorem lent_row {w : World} {g n : Nat} {bs : List (BitVec 8)} (hg : w.heap[g]? = some (.cells (bv (bs ++ marks 1 0 12)).toArray 5 (0, 0))) (hn : bs.length = n) : RowRd w ⟨some ⟨g, 0, none⟩, n, n + 12⟩ bs :=
  ⟨Rd.of_block hg (by rw [List.toList_toArray, bv_append, List.take_left' (bv_length bs)]), hn, fun h => by cases h⟩
end Go.Proofs.Ytfpjmeknjhhakaa.K
