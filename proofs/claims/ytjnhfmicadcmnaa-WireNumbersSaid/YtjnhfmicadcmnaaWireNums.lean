/- Small laws for the statement WireNumbers: numbers in a literal, bytes copied into a row. -/
import Derived.Test.YtjnhfmicadcmnaaWirePuts
import Derived.Test.YtjnhfmicadcmnaaWireReadsLawF
namespace Go.Proofs.Ytjnhfmicadcmnaa.K
open Go Go.RowKit

def isI : Value → Bool
  | .int .i64 _ => true
  | _ => false
theorem nums_of {w : World} {B : Nat} {e : TypeId} {g n c : Nat} {xs : List Value} (h : w.ownsRow B e 1 (.slice (some ⟨g, 0, none⟩) n c) n xs) (hx : xs.all isI = true) : Nums w (some ⟨g, 0, none⟩) n := fun i hi => by
  have hl : xs.length = n := by have := h.1; omega
  have hc := h.cellAt i (by omega)
  have hv := List.all_eq_true.1 hx xs[i] (List.getElem_mem (by omega))
  rw [List.getElem?_eq_getElem (by omega)] at hc
  cases hq : xs[i] with
  | int k z =>
    rw [hq] at hc hv
    cases k <;> first | exact ⟨g, 0, z, rfl, by rw [Nat.zero_add]; exact hc⟩ | cases hv
  | _ => rw [hq] at hv; cases hv
theorem Bank.litV2 {w0 w : World} {L : List Acc} (h : Bank w0 w L) (cs : Array Value) (e : TypeId) (cs' : Array Value) (e' : TypeId) (hs : cs.size ≤ 1000000) (hs' : cs'.size ≤ 1000000) :
    Bank w0 ((w.alloc (.cells cs e)).alloc (.cells cs' e')) (⟨.slice (some ⟨w.heap.size + 1, 0, Option.none⟩) cs'.size cs'.size, cs'.size, e', 1, cs'.toList⟩ :: ⟨.slice (some ⟨w.heap.size, 0, Option.none⟩) cs.size cs.size, cs.size, e, 1, cs.toList⟩ :: L) := by
  have h2 := (h.litV cs e hs).litV cs' e' hs'
  rw [show (w.alloc (.cells cs e)).heap.size = w.heap.size + 1 by simp] at h2
  exact h2
theorem infoByteSz : (Try.prog.info? 5).map (·.size) = some 1 := by kernel_rfl
theorem row_take {w : World} {g n c j : Nat} {bs : List (BitVec 8)} (h : RowRd w ⟨some ⟨g, 0, none⟩, n, c⟩ bs) (hj : j ≤ n) : RowRd w ⟨some ⟨g, 0, none⟩, j, c⟩ (bs.take j) :=
  ⟨fun k hk => by
    have hk2 : k < bs.length := by rw [List.length_take] at hk; omega
    obtain ⟨b, o, e, hc⟩ := h.rd k hk2
    exact ⟨b, o, e, by rw [hc, List.getElem_take]⟩, by have h' : bs.length = n := h.len; show _ = j; rw [List.length_take]; omega, fun h => by cases h⟩
/-- what stands behind j bytes, at the address that a slice expression gives -/
theorem row_drop {w : World} {g n c j : Nat} {bs : List (BitVec 8)} (h : RowRd w ⟨some ⟨g, 0, none⟩, n, c⟩ bs) (hj : j ≤ n) (hnc : n ≤ c) (A : Option Addr) (hA : (c = j ∧ A = some ⟨g, 0, none⟩) ∨ (¬ c = j ∧ A = some ⟨g, j, none⟩)) : RowRd w ⟨A, n - j, c - j⟩ (bs.drop j) := by
  have hl : bs.length = n := h.len
  refine ⟨fun k hk => ?_, by show _ = n - j; rw [List.length_drop, hl], fun e => ?_⟩
  · rw [List.length_drop, hl] at hk
    rcases hA with ⟨hc, _⟩ | ⟨_, rfl⟩
    · omega
    · obtain ⟨b, o, e, hcc⟩ := h.rd (j + k) (by omega)
      cases e
      exact ⟨g, j, rfl, by rw [Nat.zero_add] at hcc; rw [hcc, List.getElem_drop]⟩
  · rcases hA with ⟨_, rfl⟩ | ⟨_, rfl⟩ <;> cases e
theorem cellS {w w' : World} {b o : Nat} {v : Value} (hc : w.cell? ⟨b, o, none⟩ = some v) (hs : Since w w') : w'.cell? ⟨b, o, none⟩ = some v := (hs.cell (block_lt_of_cell hc)).trans hc
theorem own_parts {w : World} {B : Nat} {e : TypeId} {g n c : Nat} {bs : List (BitVec 8)} (h : w.ownsRow B e 1 (.slice (some ⟨g, 0, none⟩) n c) n (bv bs)) : ∃ cur : List Value, w.heap[g]? = some (.cells cur.toArray e (0, 0)) ∧ B ≤ g ∧ n ≤ c ∧ c ≤ maxLen ∧ cur.length = c ∧ cur.take n = bv bs := by
  rcases h.2 with ⟨h0, _⟩ | ⟨g', c', cur, hv, hb, hg, h1, h2, h3, h4⟩
  · cases h0
  · simp only [Value.slice.injEq, Option.some.injEq, Addr.mk.injEq, and_true, true_and] at hv
    obtain ⟨rfl, rfl⟩ := hv
    exact ⟨cur.toList, by simpa using hg, hb, h1, h2, by simpa using h3, by simpa using h4⟩
theorem take_splice {L y : List Value} {n off : Nat} (h : off + y.length ≤ n) (hn : n ≤ L.length) : (splice L off y).take n = (L.take n).take off ++ (y ++ (L.take n).drop (off + y.length)) := by
  have m1 : min off L.length = off := Nat.min_eq_left (by omega)
  have m2 : min off n = off := Nat.min_eq_left (by omega)
  have m3 : min n L.length = n := Nat.min_eq_left hn
  unfold splice
  apply List.ext_getElem?
  intro j
  simp only [List.getElem?_take, List.getElem?_append, List.getElem?_drop, List.length_take, List.take_take, List.length_append, List.length_drop, m1, m2, m3]
  repeat' split
  all_goals first | (exfalso; omega) | rfl | (congr 1; omega) | (rw [List.getElem?_eq_none (by omega)])
theorem own_copied {w' : World} {B : Nat} {e : TypeId} {g n c off : Nat} {bs y : List (BitVec 8)} {cur : List Value} (hB : B ≤ g) (hnc : n ≤ c) (hcm : c ≤ maxLen) (hcl : cur.length = c) (ht : cur.take n = bv bs) (hg : w'.heap[g]? = some (.cells (splice cur off (bv y)).toArray e (0, 0))) (h : off + y.length ≤ n) (hbl : bs.length = n) :
    w'.ownsRow B e 1 (.slice (some ⟨g, 0, none⟩) n c) n (bv (bs.take off ++ (y ++ bs.drop (off + y.length)))) := by
  refine ⟨by rw [bv_length]; simp; omega, .inr ⟨g, c, _, rfl, hB, hg, hnc, hcm, ?_, ?_⟩⟩
  · rw [List.size_toArray, length_splice _ _ _ (by rw [bv_length]; omega), hcl, Nat.mul_one]
  · rw [List.toList_toArray, Nat.mul_one, take_splice (by rw [bv_length]; exact h) (by omega), ht, bv_length]
    simp [bv]
end Go.Proofs.Ytjnhfmicadcmnaa.K
