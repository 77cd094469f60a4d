/- The contract of the program's rest.entry: an entry is read, or it panics. -/
import Derived.Test.YtdmpphioflcofaaLqWireReadsB
import Derived.Test.YtdmpphioflcofaaLqRefReader3
namespace Go.Proofs.Ytdmpphioflcofaa.K
open Go Go.RowKit

/-- the one's block is the other's -/
def SameBlk (A A' : Option Addr) : Prop := ∀ a', A' = some a' → ∃ a, A = some a ∧ a'.block = a.block
theorem SameBlk.trans {A B C : Option Addr} (h : SameBlk A B) (h' : SameBlk B C) : SameBlk A C := fun a e => by
  obtain ⟨b, e1, h1⟩ := h' a e
  obtain ⟨c, e2, h2⟩ := h b e1
  exact ⟨c, e2, h1.trans h2⟩
theorem SameBlk.lt {A B : Option Addr} {n : Nat} (h : SameBlk A B) (hA : ∀ a, A = some a → a.block < n) : ∀ a, B = some a → a.block < n := fun a e => by
  obtain ⟨b, e1, h1⟩ := h a e
  rw [h1]; exact hA b e1

def PNumU (w : World) (P : Nat) (l : List (BitVec 8)) (A : Option Addr) (made bad : Bool) (e : Ending) (w' : World) : Prop :=
  (PBad w P made bad e w' ∧ M.rdNumber (some l) = (0, none)) ∨
    (∃ x l' A' n' c', e = .returned (.int .i64 x) ∧ M.rdNumber (some l) = (x, some l') ∧ PrgR w' P l' A' n' c' made bad ∧ SameBlk A A' ∧ w.grownBy w' (some P))
def PSmallU (w : World) (P : Nat) (l : List (BitVec 8)) (A : Option Addr) (made bad : Bool) (most : Int) (e : Ending) (w' : World) : Prop :=
  (PBad w P made bad e w' ∧ (M.rdNumber (some l) = (0, none) ∨ ∃ x l', M.rdNumber (some l) = (x, some l') ∧ (x < 0 ∨ most < x))) ∨
    (∃ x l' A' n' c', e = .returned (.int .i64 x) ∧ M.rdNumber (some l) = (x, some l') ∧ 0 ≤ x ∧ x ≤ most ∧ PrgR w' P l' A' n' c' made bad ∧ SameBlk A A' ∧ w.grownBy w' (some P))
def PBytU (w : World) (P : Nat) (l : List (BitVec 8)) (A : Option Addr) (made bad : Bool) (e : Ending) (w' : World) : Prop :=
  (PBad w P made bad e w' ∧ M.rdBytes (some l) = ([], none)) ∨
    (∃ B m c' d l' A' n' c2, e = .returned (.slice B m c') ∧ M.rdBytes (some l) = (d, some l') ∧ w'.ownsRow w.heap.size 5 1 (.slice B m c') m (bv d) ∧ PrgR w' P l' A' n' c2 made bad ∧ SameBlk A A' ∧ w.grownBy w' (some P))
theorem prdNumber_lt {l : List (BitVec 8)} (h : l.length < 8) : M.rdNumber (some l) = (0, none) := by simp only [M.rdNumber]; rw [if_pos h]
theorem prdNumber_ge {l : List (BitVec 8)} (h : ¬ l.length < 8) : M.rdNumber (some l) = (M.val (l.take 8), some (l.drop 8)) := by simp only [M.rdNumber]; rw [if_neg h]
theorem pnum_u (P : Nat) (l : List (BitVec 8)) (A : Option Addr) (n c : Nat) (made bad : Bool) (w : World) (h : PrgR w P l A n c made bad) :
    Calls Try.prog 105 #[.pointer (some ⟨P, 0, none⟩)] w (PNumU w P l A made bad) := by
  have hl := h.len
  rcases Nat.lt_or_ge n 8 with h8 | h8
  · exact (pnum_bad' P l A n c made bad w h h8).mono fun e w' hb => .inl ⟨hb, prdNumber_lt (by omega)⟩
  · exact (pnum_ok P l A n c made bad w h h8).mono fun e w' ⟨he, ⟨A', hp, hA⟩, hg⟩ => .inr ⟨_, _, A', _, _, he, prdNumber_ge (by omega), hp, hA, hg⟩
theorem small_u (P : Nat) (l : List (BitVec 8)) (A : Option Addr) (n c : Nat) (made bad : Bool) (most : Int) (w : World) (h : PrgR w P l A n c made bad) :
    Calls Try.prog 119 #[.pointer (some ⟨P, 0, none⟩), .int .i64 most] w (PSmallU w P l A made bad most) := by
  have hl := h.len
  rcases Nat.lt_or_ge n 8 with h8 | h8
  · exact (small_bad P l A n c made bad most w h (.inl h8)).mono fun e w' hb => .inl ⟨hb, .inl (prdNumber_lt (by omega))⟩
  · by_cases hx : M.val (l.take 8) < 0 ∨ most < M.val (l.take 8)
    · exact (small_bad P l A n c made bad most w h (.inr ⟨h8, hx⟩)).mono fun e w' hb => .inl ⟨hb, .inr ⟨_, _, prdNumber_ge (by omega), hx⟩⟩
    · exact (small_ok P l A n c made bad most w h h8 (by omega) (by omega)).mono fun e w' ⟨he, ⟨A', hp, hA⟩, hg⟩ => .inr ⟨_, _, A', _, _, he, prdNumber_ge (by omega), by omega, by omega, hp, hA, hg⟩
theorem bytes_u (P : Nat) (l : List (BitVec 8)) (A : Option Addr) (n c : Nat) (made bad : Bool) (w : World) (h : PrgR w P l A n c made bad) (hAB : ∀ a, A = some a → a.block < w.heap.size) :
    Calls Try.prog 120 #[.pointer (some ⟨P, 0, none⟩)] w (PBytU w P l A made bad) := by
  cases hb : (M.rdBytes (some l)).2 with
  | none => exact (bytes_bad P l A n c made bad w h hb).mono fun e w' hp => .inl ⟨hp, prdBytes_none hb⟩
  | some l' => exact (bytes_ok P l A n c made bad w l' h hAB hb).mono fun e w' ⟨B, m, c', A', n2, c2, l2, he, ho, hl2, hp, hA, hg⟩ => .inr ⟨B, m, c', _, l2, A', n2, c2, he, by rw [← hl2], ho, hp, hA, hg⟩

/-- an entry was read, or it panicked -/
def PEnt (w : World) (P : Nat) (l : List (BitVec 8)) (A : Option Addr) (made bad : Bool) (e : Ending) (w' : World) : Prop :=
  (PBad w P made bad e w' ∧ M.rdEntry (some l) = (M.zeroEnt, none)) ∨
    (∃ x B m c' l' A' n' c2, e = .returned (.agg (entL x.term x.version x.server x.kind x.good B m c').toArray) ∧ M.rdEntry (some l) = (x, some l') ∧ w'.ownsRow w.heap.size 5 1 (.slice B m c') m (bv x.data) ∧ PrgR w' P l' A' n' c2 made bad ∧ SameBlk A A' ∧ w.grownBy w' (some P))
theorem prdNumber_none : M.rdNumber none = (0, none) := rfl
theorem prdBytes_none' : M.rdBytes none = ([], none) := rfl
theorem PBad.from {w w1 w' : World} {P : Nat} {made bad : Bool} {e : Ending} (hg : w.grownBy w1 (some P)) (h : PBad w1 P made bad e w') : PBad w P made bad e w' := ⟨h.1, h.2.1, grown_trans' hg h.2.2⟩
theorem grown_alloc {w w1 : World} {P : Nat} (h : w.grownBy w1 (some P)) (o : Obj) : w.grownBy (w1.alloc o) (some P) := grown_trans' h (World.grownBy_alloc w1 _ _)
end Go.Proofs.Ytdmpphioflcofaa.K
