/- The contracts of the program's reader: Entry, all states. -/
import Derived.Test.YtdmpphioflcofaaLqWireReadsE
namespace Go.Proofs.Ytdmpphioflcofaa.K
open Go Go.RowKit

/-- nothing is read of what is bad -/
theorem readsEnt_early (p : Option Addr) (Bx : Addr) (w : World) (hbad : ∀ w1, w.grownBy w1 none → Calls Try.prog 109 #[.pointer p] w1 fun e w' => e = .returned (.bool true) ∧ w1 = w') :
    Calls Try.prog 106 #[.pointer p, .func (.func 107) #[] #[.pointer (some Bx)]] w fun e w' => e = .returned (.agg zeroL.toArray) ∧ Below w.heap.size w w' := by
  have hga : w.grownBy ((w.alloc (.cells #[.pointer p] 83)).alloc (.cells zeroL.toArray 48)) none := ⟨rfl, rfl, rfl, by simp; omega, fun k hk _ => (heap_alloc_old _ _ (by simp; omega)).trans (heap_alloc_old w _ hk)⟩
  have hb := hbad _ hga
  have hbel : Below w.heap.size w ((w.alloc (.cells #[.pointer p] 83)).alloc (.cells zeroL.toArray 48)) := ((Below.refl _ _).alloc (Nat.le_refl _) _).alloc (by simp) _
  have HB := Lib.hid hb; have HBEL := Lib.hid hbel
  clear hbad hga hb hbel
  go_enter_defers Try.func106, Try.ntmps106
  go_wp2_with fail
  refine HB.out.mono ?_
  rintro e w1 ⟨rfl, rfl⟩
  have hz : ((w.alloc (.cells #[.pointer p] 83)).alloc (.cells zeroL.toArray 48)).heap[w.heap.size + 1]? = some (.cells zeroL.toArray 48 (0, 0)) := heap_alloc2_new w _ _
  have HZ := Lib.hid hz
  clear hz
  go_wp2_with (first
    | (refine wpList_load_row rfl 48 (.tmp 4) rfl (w.heap.size + 1) rfl 48 _ (0, 0) _ HZ.out Try.underlying48 rfl (infoEntL 0 0 0 0#8 false none 0 0) ?_)
    | (refine wpList_store_row rfl 48 (.tmp 4) (.tmp 7) rfl (w.heap.size + 1) zeroL.toArray rfl rfl 48 _ HZ.out (infoEntL 0 0 0 0#8 false none 0 0) (entL_size _ _ _ _ _ _ _ _ _ _ _ _ _ _ _ _) (entL_one _ _ _ _ _ _ _ _) ?_))
  exact ⟨.agg zeroL.toArray, results_cell_row rfl _ _ (w.heap.size + 1) 48 _ (0, 0) _ rfl (setRow_heap _ _ _ _ _ _ HZ.out) Try.underlying48 rfl (infoEntL 0 0 0 0#8 false none 0 0), rfl, below_setRow HBEL.out (by omega) _⟩

set_option maxHeartbeats 1000000 in
theorem pEntry_early (p : Option Addr) (w : World) (hbad : ∀ w1, w.grownBy w1 none → Calls Try.prog 109 #[.pointer p] w1 fun e w' => e = .returned (.bool true) ∧ w1 = w') :
    Calls Try.prog 72 #[.pointer p] w fun e w' => e = .returned (.agg zeroL.toArray) ∧ Below w.heap.size w w' := by
  have hmf : ∀ (fn : Fn) (first cap : Array Value) (w : World), (Instr.makeFunc fn first cap).run Try.prog w = .ok (.func fn first cap) w := fun _ _ _ _ => rfl
  have hga : w.grownBy ((w.alloc (.cells #[.pointer p] 83)).alloc (.cells zeroL.toArray 48)) none := ⟨rfl, rfl, rfl, by simp; omega, fun k hk _ => (heap_alloc_old _ _ (by simp; omega)).trans (heap_alloc_old w _ hk)⟩
  have hbel : Below w.heap.size w ((w.alloc (.cells #[.pointer p] 83)).alloc (.cells zeroL.toArray 48)) := ((Below.refl _ _).alloc (Nat.le_refl _) _).alloc (by simp) _
  have hb := readsEnt_early p ⟨w.heap.size, 0, none⟩ ((w.alloc (.cells #[.pointer p] 83)).alloc (.cells zeroL.toArray 48)) (fun w1 h1 => hbad w1 (grown_trans' hga h1))
  have HB := Lib.hid hb; have HBEL := Lib.hid hbel
  clear hbad hga hb hbel
  go_enter Try.func72, Try.ntmps72
  go_wp2_with fail
  refine HB.out.mono ?_
  rintro e w1 ⟨rfl, hb1⟩
  have HZ := Lib.hid (show w1.heap[w.heap.size + 1]? = some (.cells zeroL.toArray 48 (0, 0)) from (hb1.block _ (by simp)).trans (heap_alloc2_new w _ _))
  have HB1 := Lib.hid (HBEL.out.trans (hb1.mono (by simp; omega)))
  clear hb1
  go_wp2_with (refine wpList_store_row rfl 48 (.tmp 2) (.tmp 5) rfl (w.heap.size + 1) zeroL.toArray rfl rfl 48 _ HZ.out (infoEntL 0 0 0 0#8 false none 0 0) (entL_size _ _ _ _ _ _ _ _ _ _ _ _ _ _ _ _) (entL_one _ _ _ _ _ _ _ _) ?_)
  refine bodyPost_ret (v := .agg zeroL.toArray) ?_ ?_ ?_
  · exact results_cell_row rfl _ _ (w.heap.size + 1) 48 _ (0, 0) _ rfl (setRow_heap _ _ _ _ _ _ HZ.out) Try.underlying48 rfl (infoEntL 0 0 0 0#8 false none 0 0)
  · rfl
  · exact ⟨rfl, below_setRow HB1.out (by omega) _⟩

set_option maxHeartbeats 1000000 in
theorem pEntry_any (P : Nat) (s : M.Rdr) (A0 : Option Addr) (w : World) (h : PrgN w P s A0) (hAB : ∀ a, A0 = some a → a.block < w.heap.size) :
    Calls Try.prog 72 #[.pointer (some ⟨P, 0, none⟩)] w (GotEnt w P s A0) := by
  obtain ⟨l, A, n, c, h⟩ := h
  cases s with
  | none =>
    have h' : ∃ t, w.heap[P]? = some (.cells (readP A n c true true).toArray t (0, 0)) := h
    have hPl : P < w.heap.size := by obtain ⟨t, hb⟩ := h'; exact (Array.getElem?_eq_some_iff.1 hb).1
    refine (pEntry_early (some ⟨P, 0, none⟩) w (fun w1 hg => pBad_bad P A n c w1 ?_)).mono ?_
    · obtain ⟨t, hb⟩ := h'
      exact ⟨t, (hg.block P hPl (by simp)).trans hb⟩
    · rintro e w' ⟨rfl, hb⟩
      obtain ⟨t, hb'⟩ := h'
      exact ⟨none, 0, 0, rfl, World.ownsRow_nil _ _ _ _, ⟨l, A, n, c, t, (hb.block P hPl).trans hb'⟩, ⟨hb.os, hb.tape, hb.output, hb.size, fun k hk _ => hb.block k hk⟩⟩
  | some l' =>
    obtain ⟨hp, rfl, hA⟩ := h
    have hmf : ∀ (fn : Fn) (first cap : Array Value) (w : World), (Instr.makeFunc fn first cap).run Try.prog w = .ok (.func fn first cap) w := fun _ _ _ _ => rfl
    have hPl := hp.lt
    have hga : w.grownBy ((w.alloc (.cells #[.pointer (some ⟨P, 0, none⟩)] 83)).alloc (.cells zeroL.toArray 48)) none := ⟨rfl, rfl, rfl, by simp; omega, fun k hk _ => (heap_alloc_old _ _ (by simp; omega)).trans (heap_alloc_old w _ hk)⟩
    have hp2 := hp.grown hga (by simp) (fun _ _ => by simp)
    have hbx : ((w.alloc (.cells #[.pointer (some ⟨P, 0, none⟩)] 83)).alloc (.cells zeroL.toArray 48)).cell? ⟨w.heap.size, 0, none⟩ = some (.pointer (some ⟨P, 0, none⟩)) := cell_old _ (by rw [World.cell?_alloc_new]; rfl)
    have hcall : Calls Try.prog 106 #[.pointer (some ⟨P, 0, none⟩), .func (.func 107) #[] #[.pointer (some ⟨w.heap.size, 0, none⟩)]] ((w.alloc (.cells #[.pointer (some ⟨P, 0, none⟩)] 83)).alloc (.cells zeroL.toArray 48)) (GotEnt ((w.alloc (.cells #[.pointer (some ⟨P, 0, none⟩)] 83)).alloc (.cells zeroL.toArray 48)) P (some l) A) := by
      exact readsEnt_u w.heap.size P l A n c _ hp2 hbx (fun a e => by obtain ⟨a0, e0, h0⟩ := hA a e; have := hAB a0 e0; simp; omega) (by omega)
    have HC := Lib.hid hcall; have HA := Lib.hid hA; have HGA := Lib.hid hga; have HAB := Lib.hid hAB
    clear hcall hA hga hp2 hbx hp hAB
    go_enter Try.func72, Try.ntmps72
    go_wp2_with fail
    refine HC.out.mono ?_
    rintro e w1 ⟨B, m, c', rfl, hown, ⟨l2, A2, n2, c2, hp⟩, hg⟩
    obtain ⟨⟨x, s2⟩, hx⟩ : ∃ p : M.Ent × M.Rdr, p = M.rdEntry (some l) := ⟨_, rfl⟩
    rw [← hx] at hown hp ⊢
    have HZ := Lib.hid (show w1.heap[w.heap.size + 1]? = some (.cells zeroL.toArray 48 (0, 0)) from (hg.block _ (by simp) (by simp; omega)).trans (heap_alloc2_new w _ _))
    have hne : (Value.slice B m c').ownBlock ≠ some (w.heap.size + 1) := fun e => by
      have h1 := (hown.lt _ e).1
      have h2 : ((w.alloc (.cells #[.pointer (some ⟨P, 0, none⟩)] 83)).alloc (.cells zeroL.toArray 48)).heap.size = w.heap.size + 2 := by simp
      omega
    have HO := Lib.hid (row_setRow (own_low hown (show w.heap.size ≤ _ by simp; omega)) (w.heap.size + 1) hne (entL x.term x.version x.server x.kind x.good B m c').toArray)
    have HG := Lib.hid (grown_setRow (grown_trans' ⟨HGA.out.os, HGA.out.tape, HGA.out.output, HGA.out.size, fun k hk _ => HGA.out.block k hk (by simp)⟩ hg) (show w.heap.size ≤ w.heap.size + 1 by omega) (entL x.term x.version x.server x.kind x.good B m c').toArray)
    have hN : PrgN (w1.setRow (w.heap.size + 1) (entL x.term x.version x.server x.kind x.good B m c').toArray) P s2 A0 := by
      refine ⟨l2, A2, n2, c2, ?_⟩
      cases s2 with
      | none =>
        obtain ⟨t, hb⟩ := hp
        exact ⟨t, (setRow_other _ _ _ _ (by omega)).trans hb⟩
      | some l3 =>
        refine ⟨hp.1.setRow (w.heap.size + 1) (by omega) (fun a e => ?_) _, hp.2.1, fun a e => ?_⟩
        · obtain ⟨a1, e1, h1⟩ := hp.2.2 a e
          obtain ⟨a0, e0, h0⟩ := HA.out a1 e1
          have := HAB.out a0 e0; omega
        · obtain ⟨a1, e1, h1⟩ := hp.2.2 a e
          obtain ⟨a0, e0, h0⟩ := HA.out a1 e1
          exact ⟨a0, e0, h1.trans h0⟩
    have HN := Lib.hid hN; have HX := Lib.hid hx
    clear hN hp hg hown hne hx
    go_wp2_with (refine wpList_store_row rfl 48 (.tmp 2) (.tmp 5) rfl (w.heap.size + 1) (entL x.term x.version x.server x.kind x.good B m c').toArray rfl rfl 48 _ HZ.out (infoEntL x.term x.version x.server x.kind x.good B m c') (entL_size _ _ _ _ _ _ _ _ _ _ _ _ _ _ _ _) (entL_one _ _ _ _ _ _ _ _) ?_)
    refine bodyPost_ret (v := .agg (entL x.term x.version x.server x.kind x.good B m c').toArray) ?_ ?_ ?_
    · exact results_cell_row rfl _ _ (w.heap.size + 1) 48 _ (0, 0) _ rfl (setRow_heap _ _ _ _ _ _ HZ.out) Try.underlying48 rfl (infoEntL x.term x.version x.server x.kind x.good B m c')
    · rfl
    · unfold GotEnt
      rw [← HX.out]
      exact ⟨B, m, c', rfl, HO.out, HN.out, HG.out⟩
end Go.Proofs.Ytdmpphioflcofaa.K
