/- More plain laws on rows that a world owns. -/
import Derived.Test.YtfpjmeknjhhakaaRowSet
namespace Go.Proofs.Ytfpjmeknjhhakaa.K
open Go Go.RowKit
theorem row_kept {w w' : World} {base : Nat} {e : TypeId} {v : Value} {n : Nat} {xs : List Value} (h : w.ownsRow base e 1 v n xs) (hb : Below w.heap.size w w') : w'.ownsRow base e 1 v n xs := by
  refine h.kept (row := none) ⟨hb.os, hb.tape, hb.output, hb.size, fun k hk _ => hb.block k hk⟩ ?_
  cases hv : v.ownBlock with
  | none => exact .inl rfl
  | some x => exact .inr (by simp)
theorem row_lt {w : World} {base : Nat} {e : TypeId} {g n c : Nat} {xs : List Value} (h : w.ownsRow base e 1 (.slice (some ⟨g, 0, none⟩) n c) n xs) : base ≤ g ∧ g < w.heap.size := h.lt g rfl
theorem row_weaken {w : World} {base base' : Nat} {e : TypeId} {v : Value} {n : Nat} {xs : List Value} (h : w.ownsRow base e 1 v n xs) (hb : base' ≤ base) : w.ownsRow base' e 1 v n xs :=
  ⟨h.1, h.2.elim .inl fun ⟨a, b, cur, hv, hbb, r⟩ => .inr ⟨a, b, cur, hv, Nat.le_trans hb hbb, r⟩⟩
theorem row_room {w : World} {base : Nat} {e : TypeId} {A : Option Addr} {n c : Nat} {xs : List Value} (h : w.ownsRow base e 1 (.slice A n c) n xs) : n ≤ c ∧ c ≤ 9223372036854775807 ∧ (A = none → n = 0 ∧ c = 0) ∧ ∀ a, A = some a → ∃ g, a = ⟨g, 0, none⟩ ∧ base ≤ g ∧ g < w.heap.size := by
  rcases h.2 with ⟨h1, h2⟩ | ⟨g', cap', cur, h', hb, hg, hnc, hcm, _⟩
  · simp only [Value.slice.injEq] at h1
    obtain ⟨rfl, rfl, rfl⟩ := h1
    exact ⟨by omega, by omega, fun _ => ⟨rfl, rfl⟩, (fun a h => by cases h)⟩
  · simp only [Value.slice.injEq, true_and] at h'
    obtain ⟨rfl, rfl⟩ := h'
    exact ⟨hnc, by unfold maxLen at hcm; omega, (fun h => by cases h), fun a h => by cases h; exact ⟨_, rfl, hb, (Array.getElem?_eq_some_iff.1 hg).1⟩⟩
theorem Rd.pre {w : World} {A : Option Addr} {bs ms : List (BitVec 8)} (h : Rd w A (bs ++ ms)) : Rd w A bs := fun k hk => by
  obtain ⟨b, o, e, hc⟩ := h k (by rw [List.length_append]; omega)
  exact ⟨b, o, e, by rw [hc, List.getElem_append_left hk]⟩
theorem below_of_drew {w w' : World} (h : Below w.drew.heap.size w.drew w') : Below w.heap.size w w' := ⟨h.os, h.tape, h.output, h.size, h.block⟩
theorem cells3 (w : World) (a b c : Value) (t : TypeId) : ∀ j u, [a, b, c][j]? = some u → (w.alloc (.cells #[a, b, c] t)).cell? ⟨w.heap.size, j, none⟩ = some u := by
  intro j u hu
  rw [World.cell?_alloc_new, ← hu]
  simp
/-- three rows -/
def three (x y z : Rw) : Nat → Rw
  | 0 => x
  | 1 => y
  | _ => z
def threeB (x y z : List (BitVec 8)) : Nat → List (BitVec 8)
  | 0 => x
  | 1 => y
  | _ => z
theorem three_le {P : Nat → Prop} (h0 : P 0) (h1 : P 1) (h2 : P 2) : ∀ j, j < 3 → P j := fun j hj => by
  match j, hj with
  | 0, _ => exact h0
  | 1, _ => exact h1
  | 2, _ => exact h2
theorem three_sep {P : Nat → Nat → Prop} (h01 : P 0 1) (h02 : P 0 2) (h10 : P 1 0) (h12 : P 1 2) (h20 : P 2 0) (h21 : P 2 1) : ∀ i j, i < 3 → j < 3 → i ≠ j → P i j := fun i j hi hj hij => by
  match i, j, hi, hj, hij with
  | 0, 0, _, _, h => exact absurd rfl h
  | 1, 1, _, _, h => exact absurd rfl h
  | 2, 2, _, _, h => exact absurd rfl h
  | 0, 1, _, _, _ => exact h01
  | 0, 2, _, _, _ => exact h02
  | 1, 0, _, _, _ => exact h10
  | 1, 2, _, _, _ => exact h12
  | 2, 0, _, _, _ => exact h20
  | 2, 1, _, _, _ => exact h21
end Go.Proofs.Ytfpjmeknjhhakaa.K
