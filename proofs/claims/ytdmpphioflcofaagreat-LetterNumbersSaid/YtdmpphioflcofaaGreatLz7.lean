/- Merged: WireReadsE, WireReadsF, WireNewB, LetReadS, LetRead, LetTried, LetGet, LetGet2, LetRefMath, RefRight0. -/
import Derived.Test.YtdmpphioflcofaaGreatLz6
import Derived.Deep.DeepCutAuto
import Derived.Laws.Pointers
/- The contracts of the program's reader: Entry. -/
namespace Go.Proofs.YtdmpphioflcofaaGreat.K
open Go Go.RowKit

theorem rdEntry_none : M.rdEntry none = (M.zeroEnt, none) := rfl
/-- an entry was got, or nothing -/
def GotEnt (w : World) (P : Nat) (s : M.Rdr) (A0 : Option Addr) (e : Ending) (w' : World) : Prop :=
  ∃ B m c, e = .returned (.agg (entL (M.rdEntry s).1.term (M.rdEntry s).1.version (M.rdEntry s).1.server (M.rdEntry s).1.kind (M.rdEntry s).1.good B m c).toArray) ∧ w'.ownsRow w.heap.size 5 1 (.slice B m c) m (bv (M.rdEntry s).1.data) ∧ PrgN w' P (M.rdEntry s).2 A0 ∧ w.grownBy w' (some P)

set_option maxHeartbeats 2000000 in
set_option maxRecDepth 100000 in
theorem readsEnt_u (Bx P : Nat) (l : List (BitVec 8)) (A : Option Addr) (n c : Nat) (w : World) (h : PrgR w P l A n c true false) (hb : w.cell? ⟨Bx, 0, none⟩ = some (.pointer (some ⟨P, 0, none⟩))) (hAB : ∀ a, A = some a → a.block < w.heap.size) (hBP : Bx ≠ P) :
    Calls Tryz.prog 89 #[.pointer (some ⟨P, 0, none⟩), .func (.func 90) #[] #[.pointer (some ⟨Bx, 0, none⟩)]] w (GotEnt w P (some l) A) := by
  have hmf : ∀ (fn : Fn) (first cap : Array Value) (w : World), (Instr.makeFunc fn first cap).run Tryz.prog w = .ok (.func fn first cap) w := fun _ _ _ _ => rfl
  have hPl := h.lt
  have hBl := block_lt_of_cell hb
  have hga : w.grownBy ((w.alloc (.cells #[.pointer (some ⟨P, 0, none⟩)] 50)).alloc (.cells zeroL.toArray 42)) none := ⟨rfl, rfl, rfl, by simp; omega, fun k hk _ => (heap_alloc_old _ _ (by simp; omega)).trans (heap_alloc_old w _ hk)⟩
  have h2 := h.grown hga (by simp) (fun _ _ => by simp)
  have hb2 := hga.cell hb (by simp)
  have ho2 : ((w.alloc (.cells #[.pointer (some ⟨P, 0, none⟩)] 50)).alloc (.cells zeroL.toArray 42)).heap[w.heap.size + 1]? = some (.cells zeroL.toArray 42 (0, 0)) := heap_alloc2_new w _ _
  have hr2 : ((w.alloc (.cells #[.pointer (some ⟨P, 0, none⟩)] 50)).alloc (.cells zeroL.toArray 42)).heap[w.heap.size]? = some (.cells #[.pointer (some ⟨P, 0, none⟩)] 50 (0, 0)) := heap_alloc2_old w _ _
  have hsz2 : ((w.alloc (.cells #[.pointer (some ⟨P, 0, none⟩)] 50)).alloc (.cells zeroL.toArray 42)).heap.size = w.heap.size + 2 := by simp
  have H := Lib.hid h2; have HB := Lib.hid hb2; have HGA := Lib.hid hga; have HO2 := Lib.hid ho2; have HR2 := Lib.hid hr2; have HSZ2 := Lib.hid hsz2; have HAB := Lib.hid hAB
  clear h hb h2 hb2 hga ho2 hr2 hsz2 hAB
  go_enter_defers Tryz.func89, Tryz.ntmps89
  go_wp2_with fail
  refine (pBad_any P l A n c false _ H.out).mono ?_
  rintro e w1 ⟨rfl, rfl⟩
  go_wp2_with fail
  refine (closEnt_u Bx P l A n c true false _ H.out (fun a e => by have := HAB.out a e; rw [HSZ2.out]; omega) HB.out).mono ?_
  rintro e w1 (⟨⟨rfl, ⟨l1, A1, n1, c1, hp⟩, hg⟩, hr⟩ | ⟨x, B, m, c', l', A', n', c2, rfl, hr, ho, hp, hs, hg⟩)
  · have hob : w1.heap[w.heap.size + 1]? = some (.cells zeroL.toArray 42 (0, 0)) := (hg.block _ (by rw [HSZ2.out]; omega) (by simp; omega)).trans HO2.out
    have hrb : w1.heap[w.heap.size]? = some (.cells #[.pointer (some ⟨P, 0, none⟩)] 50 (0, 0)) := (hg.block _ (by rw [HSZ2.out]; omega) (by simp; omega)).trans HR2.out
    have hrc : w1.cell? ⟨w.heap.size, 0, none⟩ = some (.pointer (some ⟨P, 0, none⟩)) := block_cell (xs := [.pointer (some ⟨P, 0, none⟩)]) hrb rfl
    have HP := Lib.hid hp; have HG := Lib.hid hg; have HOB := Lib.hid hob; have HRC := Lib.hid hrc; have HR := Lib.hid hr
    clear hp hg hob hrb hrc hr
    go_wp2
    refine leaves_cons (f := 124) (args := #[.pointer (some ⟨w.heap.size + 1, 0, none⟩), .pointer (some ⟨w.heap.size, 0, none⟩)]) (by simp) (by simp [go_sem]) ?_
    refine (catchEnt_panicking (w.heap.size + 1) w.heap.size P A1 l1 n1 c1 _ HOB.out HRC.out HP.out (by omega)).mono ?_
    rintro e u' w'' ⟨rfl, rfl, rfl⟩
    have hPl1 := HP.out.lt
    have hlt1 := lt_of_row HOB.out
    have ho3 := (heap_alloc_old (w1.alloc (.cells #[] 207)) (.cells zeroL.toArray 42) (by simp; omega)).trans ((heap_alloc_old w1 (.cells #[] 207) hlt1).trans HOB.out)
    have ho4 : (((w1.alloc (.cells #[] 207)).alloc (.cells zeroL.toArray 42)).setRow (w.heap.size + 1) zeroL.toArray).heap[w.heap.size + 1]? = some (.cells zeroL.toArray 42 (0, 0)) := setRow_heap _ _ _ _ _ _ ho3
    have ho5 := (heap_setCell_other _ ⟨P, 2, none⟩ (w.heap.size + 1) (.bool true) (by simp; omega)).trans ho4
    obtain ⟨t, hblk⟩ := HP.out.blk
    have hblk2 := (setRow_other ((w1.alloc (.cells #[] 207)).alloc (.cells zeroL.toArray 42)) (w.heap.size + 1) P zeroL.toArray (by omega)).trans ((heap_alloc_old (w1.alloc (.cells #[] 207)) (.cells zeroL.toArray 42) (by simp; omega)).trans ((heap_alloc_old w1 (.cells #[] 207) hPl1).trans hblk))
    refine ⟨.agg zeroL.toArray, results_cell_row rfl _ _ (w.heap.size + 1) 42 _ (0, 0) _ rfl ho5 Tryz.underlying42 rfl (infoEntL 0 0 0 0#8 false none 0 0), ?_⟩
    refine ⟨none, 0, 0, by rw [HR.out]; rfl, by rw [HR.out]; exact World.ownsRow_nil _ _ _ _, ?_, ?_⟩
    · rw [HR.out]
      exact ⟨[], A1, n1, c1, t, block_set hblk2 2 _⟩
    · have g1 : w.grownBy w1 (some P) := grown_trans' ⟨HGA.out.os, HGA.out.tape, HGA.out.output, HGA.out.size, fun k hk _ => HGA.out.block k hk (by simp)⟩ HG.out
      have g2 := grown_alloc (grown_alloc g1 (.cells #[] 207)) (.cells zeroL.toArray 42)
      exact grown_trans' (grown_setRow g2 (by omega) _) (grownBy_setCell _ P 2 _)
  · have hob : w1.heap[w.heap.size + 1]? = some (.cells zeroL.toArray 42 (0, 0)) := (hg.block _ (by rw [HSZ2.out]; omega) (by simp; omega)).trans HO2.out
    have hne : (Value.slice B m c').ownBlock ≠ some (w.heap.size + 1) := fun e => by
      have h1 := (ho.lt _ e).1
      rw [HSZ2.out] at h1
      omega
    have HP := Lib.hid hp; have HG := Lib.hid hg; have HOB := Lib.hid hob; have HR := Lib.hid hr; have HS := Lib.hid hs; have HNE := Lib.hid hne
    have HO := Lib.hid (own_low ho (show w.heap.size ≤ _ by rw [HSZ2.out]; omega))
    clear hp hg hob hr hs hne ho
    go_wp2_with (refine wpList_store_row rfl 42 (.tmp 4) (.tmp 10) rfl (w.heap.size + 1) (entL x.term x.version x.server x.kind x.good B m c').toArray rfl rfl 42 _ HOB.out (infoEntL x.term x.version x.server x.kind x.good B m c') (entL_size _ _ _ _ _ _ _ _ _ _ _ _ _ _ _ _) (entL_one _ _ _ _ _ _ _ _) ?_)
    refine leaves_cons (f := 124) (args := #[.pointer (some ⟨w.heap.size + 1, 0, none⟩), .pointer (some ⟨w.heap.size, 0, none⟩)]) (by simp) (by simp [go_sem]) ?_
    refine (catchEnt_idle _ _ _).mono ?_
    rintro e u' w'' ⟨rfl, rfl, rfl⟩
    have ho4 : (w1.setRow (w.heap.size + 1) (entL x.term x.version x.server x.kind x.good B m c').toArray).heap[w.heap.size + 1]? = some (.cells (entL x.term x.version x.server x.kind x.good B m c').toArray 42 (0, 0)) := setRow_heap _ _ _ _ _ _ HOB.out
    refine ⟨.agg (entL x.term x.version x.server x.kind x.good B m c').toArray, results_cell_row rfl _ _ (w.heap.size + 1) 42 _ (0, 0) _ rfl ho4 Tryz.underlying42 rfl (infoEntL x.term x.version x.server x.kind x.good B m c'), ?_⟩
    refine ⟨B, m, c', by rw [HR.out], by rw [HR.out]; exact row_setRow HO.out _ HNE.out _, ?_, ?_⟩
    · rw [HR.out]
      exact ⟨_, A', _, _, HP.out.setRow (w.heap.size + 1) (by omega) (fun a e => by have := HS.out.lt HAB.out a e; omega) _, rfl, HS.out⟩
    · exact grown_setRow (grown_trans' ⟨HGA.out.os, HGA.out.tape, HGA.out.output, HGA.out.size, fun k hk _ => HGA.out.block k hk (by simp)⟩ HG.out) (by omega) _
end Go.Proofs.YtdmpphioflcofaaGreat.K

/- The contracts of the program's reader: Entry, all states. -/
namespace Go.Proofs.YtdmpphioflcofaaGreat.K
open Go Go.RowKit

/-- nothing is read of what is bad -/
theorem readsEnt_early (p : Option Addr) (Bx : Addr) (w : World) (hbad : ∀ w1, w.grownBy w1 none → Calls Tryz.prog 92 #[.pointer p] w1 fun e w' => e = .returned (.bool true) ∧ w1 = w') :
    Calls Tryz.prog 89 #[.pointer p, .func (.func 90) #[] #[.pointer (some Bx)]] w fun e w' => e = .returned (.agg zeroL.toArray) ∧ Below w.heap.size w w' := by
  have hga : w.grownBy ((w.alloc (.cells #[.pointer p] 50)).alloc (.cells zeroL.toArray 42)) none := ⟨rfl, rfl, rfl, by simp; omega, fun k hk _ => (heap_alloc_old _ _ (by simp; omega)).trans (heap_alloc_old w _ hk)⟩
  have hb := hbad _ hga
  have hbel : Below w.heap.size w ((w.alloc (.cells #[.pointer p] 50)).alloc (.cells zeroL.toArray 42)) := ((Below.refl _ _).alloc (Nat.le_refl _) _).alloc (by simp) _
  have HB := Lib.hid hb; have HBEL := Lib.hid hbel
  clear hbad hga hb hbel
  go_enter_defers Tryz.func89, Tryz.ntmps89
  go_wp2_with fail
  refine HB.out.mono ?_
  rintro e w1 ⟨rfl, rfl⟩
  have hz : ((w.alloc (.cells #[.pointer p] 50)).alloc (.cells zeroL.toArray 42)).heap[w.heap.size + 1]? = some (.cells zeroL.toArray 42 (0, 0)) := heap_alloc2_new w _ _
  have HZ := Lib.hid hz
  clear hz
  go_wp2_with (first
    | (refine wpList_load_row rfl 42 (.tmp 4) rfl (w.heap.size + 1) rfl 42 _ (0, 0) _ HZ.out Tryz.underlying42 rfl (infoEntL 0 0 0 0#8 false none 0 0) ?_)
    | (refine wpList_store_row rfl 42 (.tmp 4) (.tmp 7) rfl (w.heap.size + 1) zeroL.toArray rfl rfl 42 _ HZ.out (infoEntL 0 0 0 0#8 false none 0 0) (entL_size _ _ _ _ _ _ _ _ _ _ _ _ _ _ _ _) (entL_one _ _ _ _ _ _ _ _) ?_))
  exact ⟨.agg zeroL.toArray, results_cell_row rfl _ _ (w.heap.size + 1) 42 _ (0, 0) _ rfl (setRow_heap _ _ _ _ _ _ HZ.out) Tryz.underlying42 rfl (infoEntL 0 0 0 0#8 false none 0 0), rfl, below_setRow HBEL.out (by omega) _⟩

set_option maxHeartbeats 1000000 in
theorem pEntry_early (p : Option Addr) (w : World) (hbad : ∀ w1, w.grownBy w1 none → Calls Tryz.prog 92 #[.pointer p] w1 fun e w' => e = .returned (.bool true) ∧ w1 = w') :
    Calls Tryz.prog 49 #[.pointer p] w fun e w' => e = .returned (.agg zeroL.toArray) ∧ Below w.heap.size w w' := by
  have hmf : ∀ (fn : Fn) (first cap : Array Value) (w : World), (Instr.makeFunc fn first cap).run Tryz.prog w = .ok (.func fn first cap) w := fun _ _ _ _ => rfl
  have hga : w.grownBy ((w.alloc (.cells #[.pointer p] 50)).alloc (.cells zeroL.toArray 42)) none := ⟨rfl, rfl, rfl, by simp; omega, fun k hk _ => (heap_alloc_old _ _ (by simp; omega)).trans (heap_alloc_old w _ hk)⟩
  have hbel : Below w.heap.size w ((w.alloc (.cells #[.pointer p] 50)).alloc (.cells zeroL.toArray 42)) := ((Below.refl _ _).alloc (Nat.le_refl _) _).alloc (by simp) _
  have hb := readsEnt_early p ⟨w.heap.size, 0, none⟩ ((w.alloc (.cells #[.pointer p] 50)).alloc (.cells zeroL.toArray 42)) (fun w1 h1 => hbad w1 (grown_trans' hga h1))
  have HB := Lib.hid hb; have HBEL := Lib.hid hbel
  clear hbad hga hb hbel
  go_enter Tryz.func49, Tryz.ntmps49
  go_wp2_with fail
  refine HB.out.mono ?_
  rintro e w1 ⟨rfl, hb1⟩
  have HZ := Lib.hid (show w1.heap[w.heap.size + 1]? = some (.cells zeroL.toArray 42 (0, 0)) from (hb1.block _ (by simp)).trans (heap_alloc2_new w _ _))
  have HB1 := Lib.hid (HBEL.out.trans (hb1.mono (by simp; omega)))
  clear hb1
  go_wp2_with (refine wpList_store_row rfl 42 (.tmp 2) (.tmp 5) rfl (w.heap.size + 1) zeroL.toArray rfl rfl 42 _ HZ.out (infoEntL 0 0 0 0#8 false none 0 0) (entL_size _ _ _ _ _ _ _ _ _ _ _ _ _ _ _ _) (entL_one _ _ _ _ _ _ _ _) ?_)
  refine bodyPost_ret (v := .agg zeroL.toArray) ?_ ?_ ?_
  · exact results_cell_row rfl _ _ (w.heap.size + 1) 42 _ (0, 0) _ rfl (setRow_heap _ _ _ _ _ _ HZ.out) Tryz.underlying42 rfl (infoEntL 0 0 0 0#8 false none 0 0)
  · rfl
  · exact ⟨rfl, below_setRow HB1.out (by omega) _⟩

set_option maxHeartbeats 1000000 in
theorem pEntry_any (P : Nat) (s : M.Rdr) (A0 : Option Addr) (w : World) (h : PrgN w P s A0) (hAB : ∀ a, A0 = some a → a.block < w.heap.size) :
    Calls Tryz.prog 49 #[.pointer (some ⟨P, 0, none⟩)] w (GotEnt w P s A0) := by
  obtain ⟨l, A, n, c, h⟩ := h
  cases s with
  | none =>
    have h' : ∃ t, w.heap[P]? = some (.cells (readP A n c true true).toArray t (0, 0)) := h
    have hPl : P < w.heap.size := by obtain ⟨t, hb⟩ := h'; exact (Array.getElem?_eq_some_iff.1 hb).1
    refine (pEntry_early (some ⟨P, 0, none⟩) w (fun w1 hg => pBad_bad P A n c w1 ?_)).mono ?_
    · obtain ⟨t, hb⟩ := h'
      exact ⟨t, (hg.block P hPl (by simp)).trans hb⟩
    · rintro e w' ⟨rfl, hb⟩
      obtain ⟨t, hb'⟩ := h'
      exact ⟨none, 0, 0, rfl, World.ownsRow_nil _ _ _ _, ⟨l, A, n, c, t, (hb.block P hPl).trans hb'⟩, ⟨hb.os, hb.tape, hb.output, hb.size, fun k hk _ => hb.block k hk⟩⟩
  | some l' =>
    obtain ⟨hp, rfl, hA⟩ := h
    have hmf : ∀ (fn : Fn) (first cap : Array Value) (w : World), (Instr.makeFunc fn first cap).run Tryz.prog w = .ok (.func fn first cap) w := fun _ _ _ _ => rfl
    have hPl := hp.lt
    have hga : w.grownBy ((w.alloc (.cells #[.pointer (some ⟨P, 0, none⟩)] 50)).alloc (.cells zeroL.toArray 42)) none := ⟨rfl, rfl, rfl, by simp; omega, fun k hk _ => (heap_alloc_old _ _ (by simp; omega)).trans (heap_alloc_old w _ hk)⟩
    have hp2 := hp.grown hga (by simp) (fun _ _ => by simp)
    have hbx : ((w.alloc (.cells #[.pointer (some ⟨P, 0, none⟩)] 50)).alloc (.cells zeroL.toArray 42)).cell? ⟨w.heap.size, 0, none⟩ = some (.pointer (some ⟨P, 0, none⟩)) := cell_old _ (by rw [World.cell?_alloc_new]; rfl)
    have hcall : Calls Tryz.prog 89 #[.pointer (some ⟨P, 0, none⟩), .func (.func 90) #[] #[.pointer (some ⟨w.heap.size, 0, none⟩)]] ((w.alloc (.cells #[.pointer (some ⟨P, 0, none⟩)] 50)).alloc (.cells zeroL.toArray 42)) (GotEnt ((w.alloc (.cells #[.pointer (some ⟨P, 0, none⟩)] 50)).alloc (.cells zeroL.toArray 42)) P (some l) A) := by
      exact readsEnt_u w.heap.size P l A n c _ hp2 hbx (fun a e => by obtain ⟨a0, e0, h0⟩ := hA a e; have := hAB a0 e0; simp; omega) (by omega)
    have HC := Lib.hid hcall; have HA := Lib.hid hA; have HGA := Lib.hid hga; have HAB := Lib.hid hAB
    clear hcall hA hga hp2 hbx hp hAB
    go_enter Tryz.func49, Tryz.ntmps49
    go_wp2_with fail
    refine HC.out.mono ?_
    rintro e w1 ⟨B, m, c', rfl, hown, ⟨l2, A2, n2, c2, hp⟩, hg⟩
    obtain ⟨⟨x, s2⟩, hx⟩ : ∃ p : M.Ent × M.Rdr, p = M.rdEntry (some l) := ⟨_, rfl⟩
    rw [← hx] at hown hp ⊢
    have HZ := Lib.hid (show w1.heap[w.heap.size + 1]? = some (.cells zeroL.toArray 42 (0, 0)) from (hg.block _ (by simp) (by simp; omega)).trans (heap_alloc2_new w _ _))
    have hne : (Value.slice B m c').ownBlock ≠ some (w.heap.size + 1) := fun e => by
      have h1 := (hown.lt _ e).1
      have h2 : ((w.alloc (.cells #[.pointer (some ⟨P, 0, none⟩)] 50)).alloc (.cells zeroL.toArray 42)).heap.size = w.heap.size + 2 := by simp
      omega
    have HO := Lib.hid (row_setRow (own_low hown (show w.heap.size ≤ _ by simp; omega)) (w.heap.size + 1) hne (entL x.term x.version x.server x.kind x.good B m c').toArray)
    have HG := Lib.hid (grown_setRow (grown_trans' ⟨HGA.out.os, HGA.out.tape, HGA.out.output, HGA.out.size, fun k hk _ => HGA.out.block k hk (by simp)⟩ hg) (show w.heap.size ≤ w.heap.size + 1 by omega) (entL x.term x.version x.server x.kind x.good B m c').toArray)
    have hN : PrgN (w1.setRow (w.heap.size + 1) (entL x.term x.version x.server x.kind x.good B m c').toArray) P s2 A0 := by
      refine ⟨l2, A2, n2, c2, ?_⟩
      cases s2 with
      | none =>
        obtain ⟨t, hb⟩ := hp
        exact ⟨t, (setRow_other _ _ _ _ (by omega)).trans hb⟩
      | some l3 =>
        refine ⟨hp.1.setRow (w.heap.size + 1) (by omega) (fun a e => ?_) _, hp.2.1, fun a e => ?_⟩
        · obtain ⟨a1, e1, h1⟩ := hp.2.2 a e
          obtain ⟨a0, e0, h0⟩ := HA.out a1 e1
          have := HAB.out a0 e0; omega
        · obtain ⟨a1, e1, h1⟩ := hp.2.2 a e
          obtain ⟨a0, e0, h0⟩ := HA.out a1 e1
          exact ⟨a0, e0, h1.trans h0⟩
    have HN := Lib.hid hN; have HX := Lib.hid hx
    clear hN hp hg hown hne hx
    go_wp2_with (refine wpList_store_row rfl 42 (.tmp 2) (.tmp 5) rfl (w.heap.size + 1) (entL x.term x.version x.server x.kind x.good B m c').toArray rfl rfl 42 _ HZ.out (infoEntL x.term x.version x.server x.kind x.good B m c') (entL_size _ _ _ _ _ _ _ _ _ _ _ _ _ _ _ _) (entL_one _ _ _ _ _ _ _ _) ?_)
    refine bodyPost_ret (v := .agg (entL x.term x.version x.server x.kind x.good B m c').toArray) ?_ ?_ ?_
    · exact results_cell_row rfl _ _ (w.heap.size + 1) 42 _ (0, 0) _ rfl (setRow_heap _ _ _ _ _ _ HZ.out) Tryz.underlying42 rfl (infoEntL x.term x.version x.server x.kind x.good B m c')
    · rfl
    · unfold GotEnt
      rw [← HX.out]
      exact ⟨B, m, c', rfl, HO.out, HN.out, HG.out⟩
end Go.Proofs.YtdmpphioflcofaaGreat.K

/- The contracts of the program's NewReader, and of Bad and Done in every state. -/
namespace Go.Proofs.YtdmpphioflcofaaGreat.K
open Go Go.RowKit

/-- a new reader of the program's -/
def PNew (w : World) (bs : List (BitVec 8)) (e : Ending) (w' : World) : Prop := ∃ P A, e = .returned (.pointer (some ⟨P, 0, none⟩)) ∧ w.heap.size ≤ P ∧ PrgN w' P (some bs) A ∧ (∀ a, A = some a → w.heap.size ≤ a.block ∧ a.block < w'.heap.size ∧ a.block ≠ P) ∧ Below w.heap.size w w'
set_option maxHeartbeats 1000000 in
set_option maxRecDepth 100000 in
theorem pNew_any (A : Option Addr) (n c : Nat) (bs : List (BitVec 8)) (w : World) (hx : RowRd w ⟨A, n, c⟩ bs) (hn2 : n ≤ 1000000000000) :
    Calls Tryz.prog 26 #[.slice A n c] w (PNew w bs) := by
  obtain ⟨i0, hi, hz0, hz1, hz2⟩ := info_parts infoByte
  have hlen : bs.length = n := hx.len
  have hl2 : (bv bs).length = n * 1 := by rw [bv_length]; omega
  have hnn : A = none → n = 0 ∧ c = 0 := fun h => ⟨by
    have hrd : Rd w A bs := hx.rd
    rw [h] at hrd
    rw [hrd.empty] at hlen; exact hlen.symm, hx.none h⟩
  have hcs := hx.rd.cells
  have HL2 := Lib.hid hl2; have HNN := Lib.hid hnn; have HCS := Lib.hid hcs; have HLEN := Lib.hid hlen
  clear hx hlen hl2 hnn hcs
  go_enter Tryz.func26, Tryz.ntmps26
  go_wp2_with (at_builtin; refine wpList_append_any _ rfl _ _ 22 rfl w.heap.size 5 i0 (.int .u8 0) 1 1 Tryz.underlying22 hi hz0 hz1 hz2 rfl (by decide) _ 0 (bv []) rfl (own_lit0 (Nat.le_refl _)) A n c (bv bs) rfl HNN.out HL2.out (fun ad had j u hu => cell_old _ (HCS.out ad had j u hu)) (bv_one _) (by unfold maxLen; omega) (by omega) (by simp) ?_; intro v3 w3 hown3 hgrow3; rw [← bv_append, List.nil_append, Nat.zero_add] at hown3; obtain ⟨B3, d3, rfl⟩ := row_slice hown3; have hb3 : Below w.heap.size w w3 := ((Below.refl w.heap.size w).alloc (Nat.le_refl _) _).grown hgrow3 (by simp) (fun k hk => ((own_lit0 (e := 5) (Nat.le_refl w.heap.size)).lt k hk).1); have HB3 := Lib.hid hb3; have HO3 := Lib.hid hown3; clear hb3 hown3 hgrow3)
  go_ret
  have hr := row_room HO3.out
  have hb := HB3.out
  have hsz := hb.size
  refine ⟨w3.heap.size, B3, rfl, hsz, ⟨bs, B3, n, d3, ⟨⟨_, by exact heap_alloc_new w3 (.cells (readP B3 n d3 true false).toArray 102)⟩, ?_, HLEN.out, fun e => (hr.2.2.1 e).2, hn2, ⟨hr.1, hr.2.1⟩, fun a e => ?_, fun a e => ?_⟩, rfl, fun a e => ⟨a, e, rfl⟩⟩, fun a e => ?_, hb.alloc hsz _⟩
  · exact (Rd.of_own HO3.out).below ((Below.refl _ _).alloc (Nat.le_refl _) _)
  · obtain ⟨g, rfl, _, hg⟩ := hr.2.2.2 a e
    show g ≠ _; omega
  · obtain ⟨g, rfl, _, hg⟩ := hr.2.2.2 a e
    exact ⟨g, 0, rfl⟩
  · obtain ⟨g, rfl, hg, hg2⟩ := hr.2.2.2 a e
    refine ⟨hg, ?_, ?_⟩
    · show g < _; simp; omega
    · show g ≠ _; omega

theorem pBadN (P : Nat) (s : M.Rdr) (A0 : Option Addr) (w : World) (h : PrgN w P s A0) : Calls Tryz.prog 92 #[.pointer (some ⟨P, 0, none⟩)] w fun e w' => e = .returned (.bool s.isNone) ∧ w = w' := by
  obtain ⟨l, A, n, c, h⟩ := h
  cases s with
  | none => exact pBad_bad P A n c w h
  | some l' => exact pBad_any P l A n c false w h.1
theorem pDone_bad (p : Option Addr) (w : World) (hbad : Calls Tryz.prog 92 #[.pointer p] w fun e w' => e = .returned (.bool true) ∧ w = w') : Calls Tryz.prog 51 #[.pointer p] w fun e w' => e = .returned (.bool false) ∧ w = w' := by
  go_enter Tryz.func51, Tryz.ntmps51
  go_wp2_with fail
  refine hbad.mono ?_
  rintro e w1 ⟨rfl, rfl⟩
  go_wp2
  go_ret
  exact ⟨rfl, rfl⟩
theorem pDone_good (P : Nat) (l : List (BitVec 8)) (A : Option Addr) (n c : Nat) (w : World) (h : PrgR w P l A n c true false) : Calls Tryz.prog 51 #[.pointer (some ⟨P, 0, none⟩)] w fun e w' => e = .returned (.bool ((n : Int) == 0)) ∧ w = w' := by
  have c0 : w.cell? ⟨P, 0, none⟩ = some (.slice A n c) := h.cell rfl
  have H := Lib.hid h
  clear h
  go_enter Tryz.func51, Tryz.ntmps51
  go_wp2_with fail
  refine (pBad_any P l A n c false w H.out).mono ?_
  rintro e w1 ⟨rfl, rfl⟩
  go_wp2
  go_ret
  exact ⟨rfl, rfl⟩
theorem pDoneN (P : Nat) (s : M.Rdr) (A0 : Option Addr) (w : World) (h : PrgN w P s A0) : Calls Tryz.prog 51 #[.pointer (some ⟨P, 0, none⟩)] w fun e w' => e = .returned (.bool (decide (s = some []))) ∧ w = w' := by
  have hb := pBadN P s A0 w h
  obtain ⟨l, A, n, c, h⟩ := h
  cases s with
  | none => exact (pDone_bad _ w hb).mono fun e w' ⟨h1, h2⟩ => ⟨by rw [h1]; rfl, h2⟩
  | some l' =>
    obtain ⟨hp, rfl, _⟩ := h
    refine (pDone_good P l A n c w hp).mono fun e w' ⟨h1, h2⟩ => ⟨?_, h2⟩
    have hl := hp.len
    have e2 : ((n : Int) == 0) = decide (some l = some []) := by
      rw [Bool.eq_iff_iff, decide_eq_true_iff, beq_iff_eq]
      constructor
      · intro h0
        rw [List.eq_nil_of_length_eq_zero (by omega : l.length = 0)]
      · intro h0
        have h1 : l = [] := Option.some.inj h0
        rw [h1] at hl; simp at hl; omega
    rw [h1, e2]
end Go.Proofs.YtdmpphioflcofaaGreat.K

/- Entries that are got, as accounts of a bank beside a reader. -/
namespace Go.Proofs.YtdmpphioflcofaaGreat.K
open Go Go.RowKit

/-- an entry and where its data lie -/
structure EV where
  e : M.Ent
  A : Option Addr
  n : Nat
  c : Nat
def EV.cells (x : EV) : List Value := entL x.e.term x.e.version x.e.server x.e.kind x.e.good x.A x.n x.c
def EV.acc (x : EV) : Acc := rowAcc x.A x.n x.c x.e.data
def evRows (xs : List EV) : List Acc := xs.reverse.map EV.acc
theorem evRows_snoc (xs : List EV) (x : EV) : evRows (xs ++ [x]) = x.acc :: evRows xs := by simp [evRows]
def evsAcc (A : Option Addr) (n c : Nat) (xs : List EV) : Acc := ⟨.slice A n c, n, 42, 6, xs.flatMap EV.cells⟩
theorem EV.cells_length (x : EV) : x.cells.length = 6 := rfl
/-- ten numbers in an array -/
def arrL (ns : List Int) : List Value := (List.range 10).map fun i => Value.int .i64 (ns.getD i 0)
theorem arrL_at (ns : List Int) (k : Nat) (hk : k < 10) : (arrL ns)[k]? = some (.int .i64 (ns.getD k 0)) := by
  rw [arrL, List.getElem?_map, List.getElem?_range hk]; rfl
theorem arrL_length (ns : List Int) : (arrL ns).length = 10 := by simp [arrL]
theorem arrL_set (ns : List Int) (k : Nat) (v : Int) (hl : ns.length = k) : (arrL ns).set k (.int .i64 v) = arrL (ns ++ [v]) := by
  apply List.ext_getElem?
  intro i
  rw [List.getElem?_set, arrL_length]
  by_cases h : k = i
  · subst h
    rw [if_pos rfl]
    by_cases h2 : k < 10
    · rw [if_pos h2, arrL_at _ _ h2]
      simp [hl.symm]
    · rw [if_neg h2, List.getElem?_eq_none (by rw [arrL_length]; omega)]
  · rw [if_neg h]
    by_cases h2 : i < 10
    · rw [arrL_at _ _ h2, arrL_at _ _ h2]
      by_cases h3 : i < k
      · simp [List.getD, List.getElem?_append_left (show i < ns.length by omega)]
      · simp [List.getD, List.getElem?_eq_none (show ns.length ≤ i by omega), List.getElem?_eq_none (show (ns ++ [v]).length ≤ i by simp; omega)]
    · rw [List.getElem?_eq_none (by rw [arrL_length]; omega), List.getElem?_eq_none (by rw [arrL_length]; omega)]
theorem ten_of {ns : List Int} (h : ns.length = 10) : ∃ n0 n1 n2 n3 n4 n5 n6 n7 n8 n9, ns = [n0, n1, n2, n3, n4, n5, n6, n7, n8, n9] := by
  match ns, h with
  | [n0, n1, n2, n3, n4, n5, n6, n7, n8, n9], _ => exact ⟨n0, n1, n2, n3, n4, n5, n6, n7, n8, n9, rfl⟩
section
variable {w0 w w' : World} {Q : World → M.Rdr → Prop} {s s' : M.Rdr} {R : Nat} {Bd : Option Addr} {L : List Acc}
theorem Held.perm (h : Held w0 w Q s R Bd L) {L' : List Acc} (hp : L.Perm L') : Held w0 w Q s R Bd L' :=
  ⟨⟨h.bank.since, fun p hm => h.bank.own p (hp.mem_iff.2 hm), (List.Perm.pairwise_iff (fun {_ _} h => Apartness.symm h) hp).1 h.bank.sep⟩, h.q, h.keep, h.lt, h.base, fun p hm => h.away p (hp.mem_iff.2 hm)⟩
theorem Held.nil6 (h : Held w0 w Q s R Bd L) (e : TypeId) (size : Nat) : Held w0 w Q s R Bd (⟨.slice none 0 0, 0, e, size, []⟩ :: L) :=
  ⟨h.bank.none e size, h.q, h.keep, h.lt, h.base, fun p hp b hb => by
    rcases List.mem_cons.1 hp with rfl | hp
    · cases hb
    · exact h.away p hp b hb⟩
theorem Held.put (h : Held w0 w Q s R Bd L) (i : Nat) {p p' : Acc} (hi : L[i]? = some p) (hB : Bank w0 w' (L.set i p')) (hg : w.grownBy w' p.v.ownBlock) (hb : p'.v.ownBlock = p.v.ownBlock ∨ p'.v.ownBlock = some w.heap.size) : Held w0 w' Q s R Bd (L.set i p') := by
  have hp : p ∈ L := List.mem_of_getElem? hi
  refine ⟨hB, h.keep _ _ _ _ h.q hg (fun e => (h.away p hp R e).1 rfl) (fun a ea e => (h.away p hp a.block e).2 a ea rfl), h.keep, ⟨Nat.lt_of_lt_of_le h.lt.1 hg.size, fun a e => Nat.lt_of_lt_of_le (h.lt.2 a e) hg.size⟩, h.base, fun q hq b hbq => ?_⟩
  rcases List.mem_or_eq_of_mem_set hq with hq | rfl
  · exact h.away q hq b hbq
  · rcases hb with hb | hb
    · exact h.away p hp b (hb.symm.trans hbq)
    · have e : w.heap.size = b := Option.some.inj (hb.symm.trans hbq)
      have h3 := h.lt.1
      exact ⟨by omega, fun a ea => by have := h.lt.2 a ea; omega⟩
theorem step_held {P : Program} {ops : Array Oper} {o : Oper} {a : Act} {K : Act → World → Prop} {Q1 : Exit → Act → World → Prop} {E : Prop} (h : Held w0 w Q s R Bd L) (hq : Held w0 w Q s R Bd L → if Region.wanted o (yielded ops a.tmps) = true then Oper.wp P o a w K Q1 else E) : if Region.wanted o (yielded ops a.tmps) = true then Oper.wp P o a w K Q1 else E := hq h
theorem step_append_held {P : Program} {ops : Array Oper} {o : Oper} {a : Act} {K : Act → World → Prop} {Q1 : Exit → Act → World → Prop} {E : Prop} (h : Held w0 w Q s R Bd L) (hgd : o.guard = Option.none) (s0 y : Operand) (t : TypeId)
    (ho : o.op = .call { callee := .builtin .append, args := #[s0, y], argTypes := #[t, t] })
    (e : TypeId) (z : Value) (size bytes : Nat) (hz : (P.info? e).map (fun i => (i.zero, i.size, i.bytes)) = some (some z, size, bytes)) (ht : P.underlying t = some (.slice e)) (hzs : z.cells.size = size) (hsz : 0 < size)
    (k : Nat) (A : Option Addr) (n cap : Nat) (xs : List Value) (hs : a.eval s0 = .slice A n cap) (hk : L[k]? = some ⟨.slice A n cap, n, e, size, xs⟩)
    (ad : Addr) (m c : Nat) (news : List Value) (hx : a.eval y = .slice (some ad) m c) (hl : news.length = m * size) (hnews : ∀ j u, news[j]? = some u → w.cell? (ad.add j) = some u) (h1 : ∀ u ∈ news, u.oneCell' = true)
    (h63 : n + m ≤ maxLen) (hbytes : (n + m) * bytes ≤ 140737488355328)
    (hK : ∀ A' n' c' w', n' = n + m → Held w0 w' Q s R Bd (L.set k ⟨.slice A' n' c', n', e, size, xs ++ news⟩) → K (a.put o.dst (.slice A' n' c')) w') :
    if Region.wanted o (yielded ops a.tmps) = true then Oper.wp P o a w K Q1 else E := by
  have hw : Region.wanted o (yielded ops a.tmps) = true := by simp [Region.wanted, hgd]
  rw [if_pos hw]
  obtain ⟨i0, hi, hz0, hz1, hz2⟩ := info_parts hz
  obtain ⟨A', c', w', hr, h2, h3, h4⟩ := run_append_bankG (P := P) h.bank t o.type e i0 z size bytes ht hi hz0 hz1 hz2 hzs hsz k A n cap xs hk ad m c news hl hnews h1 h63 hbytes
  unfold Oper.wp execOp
  simp only [ho, resolve, invoke, builtin, Sem.run_bind, Sem.run_pure, Result.andThen_ok, List.map_toArray, List.map_cons, List.map_nil, hs, hx, hr]
  exact hK A' _ c' w' rfl (h.put k hk h2 h3 h4)
theorem Held.drew (h : Held w0 w Q s R Bd L) : Held w0 w.drew Q s R Bd L := h.call (Below.refl _ _).drew
end
theorem kind_B8L (y : Int) : Value.int .u8 (IntKind.u8.wrap y) = B8 (BitVec.ofInt 8 y) := by
  have h : IntKind.u8.wrap y = ((BitVec.ofInt 8 y).toNat : Int) := by
    rw [IntKind.wrap_u8', BitVec.toNat_ofInt]; omega
  rw [B8, h]
theorem conv_kindL {P : Program} (w : World) (src dst : TypeId) (y : Int) (hs : P.underlying src = some (.int .i64)) (hd : P.underlying dst = some (.int .u8)) : (convert src dst (.int .i64 y)).run P w = .ok (B8 (BitVec.ofInt 8 y)) w := by
  rw [← kind_B8L]
  simp [convert, run_underlying hs, run_underlying hd, Conv.intToInt]
theorem flat6 : ∀ (xs : List EV) (i j : Nat) (hi : i < xs.length), j < 6 → (xs.flatMap EV.cells)[i * 6 + j]? = (xs[i]).cells[j]?
  | [], i, j, hi, hj => absurd hi (Nat.not_lt_zero _)
  | x :: xs, 0, j, hi, hj => by
    rw [List.flatMap_cons, Nat.zero_mul, Nat.zero_add, List.getElem?_append_left (by rw [x.cells_length]; exact hj)]; rfl
  | x :: xs, i + 1, j, hi, hj => by
    rw [List.flatMap_cons, List.getElem?_append_right (by rw [x.cells_length]; omega), x.cells_length, show (i + 1) * 6 + j - 6 = i * 6 + j by omega]
    exact flat6 xs i j (by simpa using hi) hj
/-- entries of a bank, read -/
theorem evs_rd {w0 w : World} {L : List Acc} {A : Option Addr} {n c : Nat} {xs : List EV} (h : Bank w0 w L) (ha : evsAcc A n c xs ∈ L) (hr : ∀ x ∈ xs, x.acc ∈ L) (hn : xs.length = n) : EntsRd w A (xs.map EV.e) := by
  intro i hi
  have hi' : i < xs.length := by simpa using hi
  have hx := h.own _ (hr _ (List.getElem_mem hi'))
  have ho := h.own _ ha
  have hA : ∃ g, A = some ⟨g, 0, none⟩ := by
    rcases ho.2 with ⟨h0, _⟩ | ⟨g, cap, cur, hv, _⟩
    · exfalso
      have h1 : n = 0 := by
        simp only [evsAcc, Value.slice.injEq] at h0
        exact h0.2.1
      omega
    · simp only [evsAcc, Value.slice.injEq] at hv
      exact ⟨g, hv.1⟩
  obtain ⟨g, rfl⟩ := hA
  have hc : ∀ j, j < 6 → w.cell? ⟨g, 0 + i * 6 + j, none⟩ = (xs[i]).cells[j]? := fun j hj => by
    rw [Nat.zero_add]
    exact (World.ownsRow.cellAt ho (i * 6 + j) (by show _ < n * 6; omega)).trans (flat6 xs i j hi' hj)
  refine ⟨g, 0, rfl, (xs[i]).A, (xs[i]).n, (xs[i]).c, ?_, ?_⟩
  · rw [List.getElem_map]
    exact ⟨hc 0 (by omega), hc 1 (by omega), hc 2 (by omega), hc 3 (by omega), hc 4 (by omega), hc 5 (by omega)⟩
  · rw [List.getElem_map]
    exact RowRd.of_row hx
theorem entry_held {w0 w : World} {s s' : M.Rdr} {x : M.Ent} {P : Nat} {A0 : Option Addr} {L : List Acc} (h : Held w0 w (fun w s => PrgN w P s A0) s P A0 L) (hx : M.rdEntry s = (x, s')) :
    Calls Tryz.prog 49 #[.pointer (some ⟨P, 0, none⟩)] w fun e w' => ∃ B m c, e = .returned (.agg #[.int .i64 x.term, B8 x.kind, .int .i64 x.version, .int .i64 x.server, .bool x.good, .slice B m c]) ∧ Held w0 w' (fun w s => PrgN w P s A0) s' P A0 (rowAcc B m c x.data :: L) := by
  refine (pEntry_any P s A0 w h.q h.lt.2).mono ?_
  rintro e w' ⟨B, m, c, rfl, ho, hq, hg⟩
  rw [hx] at ho hq
  rw [hx]
  exact ⟨B, m, c, rfl, h.row hq hg ho⟩
theorem Held.sub {w0 w : World} {Q : World → M.Rdr → Prop} {s : M.Rdr} {R : Nat} {Bd : Option Addr} {L L' : List Acc} (h : Held w0 w Q s R Bd L) (hs : L'.Sublist L) : Held w0 w Q s R Bd L' :=
  ⟨h.bank.sub hs, h.q, h.keep, h.lt, h.base, fun p hp => h.away p (hs.subset hp)⟩
end Go.Proofs.YtdmpphioflcofaaGreat.K

/- The contract of letter's read. -/
namespace Go.Proofs.YtdmpphioflcofaaGreat.K
open Go Go.RowKit

def zeroLL : List Value := [.int .u8 0, .int .i64 0, .int .i64 0, .int .i64 0, .int .i64 0, .int .i64 0, .bool false, .int .i64 0, .int .i64 0, .slice none 0 0]
/-- a letter was read, or a wrong panicked with -/
def ReadPost (w0 : World) (L : List Acc) (o : Option M.Let) (e : Ending) (w' : World) : Prop :=
  (∃ l xs A n c, o = some l ∧ e = .returned (.agg (letL l A n c).toArray) ∧ l.ents = xs.map EV.e ∧ n = xs.length ∧ Bank w0 w' (evsAcc A n c xs :: (evRows xs ++ L))) ∨ (o = none ∧ e = .panicked wrongP ∧ Bank w0 w' L)
theorem lread_eq {b : List (BitVec 8)} {ns : List Int} {s : M.Rdr} {es : List M.Ent} {s2 : M.Rdr} (h1 : M.rdNums (some b) 10 = (ns, s)) (h2 : M.rdEnts s (ns.getD 9 0).toNat = (es, s2)) :
    M.lread b = if M.lfits ns = true ∧ s2 = some [] ∧ M.lright (M.lof ns es) = true then some (M.lof ns es) else none := by
  unfold M.lread
  rw [h1]
  simp only [h2]
theorem lread_unfit {b : List (BitVec 8)} {ns : List Int} {s : M.Rdr} (h1 : M.rdNums (some b) 10 = (ns, s)) (h : M.lfits ns = false) : M.lread b = none := by
  unfold M.lread
  rw [h1]
  simp [h]
set_option maxHeartbeats 8000000 in
set_option maxRecDepth 100000 in
theorem read_any (w0 w : World) (P : Nat) (A0 : Option Addr) (b : List (BitVec 8)) (L : List Acc) (h : Held w0 w (fun w s => PrgN w P s A0) (some b) P A0 L) :
    Calls Tryz.prog 25 #[.pointer (some ⟨P, 0, none⟩)] w (ReadPost w0 L (M.lread b)) := by
  have H0 := Lib.hid ((h.box #[.int .u8 0, .int .i64 0, .int .i64 0, .int .i64 0, .int .i64 0, .int .i64 0, .bool false, .int .i64 0, .int .i64 0, .slice none 0 0] 28 (by decide)).box #[.int .i64 0, .int .i64 0, .int .i64 0, .int .i64 0, .int .i64 0, .int .i64 0, .int .i64 0, .int .i64 0, .int .i64 0, .int .i64 0] 96 (by decide))
  rw [World.size_alloc] at H0
  have hcv := fun w (n : Int) => conv_kindL (P := Tryz.prog) w 3 25 n Tryz.underlying3 Tryz.underlying25
  clear h
  go_enter Tryz.func25, Tryz.ntmps25
  go_wp2_with fail
  generalize (w.alloc (.cells #[.int .u8 0, .int .i64 0, .int .i64 0, .int .i64 0, .int .i64 0, .int .i64 0, .bool false, .int .i64 0, .int .i64 0, .slice none 0 0] 28)).alloc (.cells #[.int .i64 0, .int .i64 0, .int .i64 0, .int .i64 0, .int .i64 0, .int .i64 0, .int .i64 0, .int .i64 0, .int .i64 0, .int .i64 0] 96) = w1 at *
  generalize w.heap.size = X at *
  go_loopw [6] (fun i wr => ∃ k : Nat, k ≤ 10 ∧ i = .int .i64 (k : Int) ∧ Held w0 wr (fun w s => PrgN w P s A0) (M.rdNums (some b) k).2 P A0 (boxAcc (X + 1) 96 (arrL (M.rdNums (some b) k).1) :: boxAcc X 28 zeroLL :: L)) (fun i _ => 10 - (intOf i).toNat)
  case atStart => exact ⟨0, by omega, rfl, H0.out⟩
  case round =>
    clear H0
    obtain ⟨k, hk, rfl, hH⟩ := hrel
    have k0 : (0 : Int) ≤ (k : Int) := by omega
    have H1 := Lib.hid hH
    clear hH
    rcases Nat.lt_or_ge k 10 with h1 | h1
    · have i1 : (k : Int) < 10 := by omega
      go_wp2_with fail
      refine (pNumber_any P _ A0 wr H1.out.q H1.out.lt.2).mono ?_
      rintro e w2 ⟨rfl, hq, hg⟩
      have H2 := Lib.hid (H1.out.step hq hg)
      clear hq hg H1
      obtain ⟨v, hv⟩ : ∃ v, v = (M.rdNumber (M.rdNums (some b) k).2).1 := ⟨_, rfl⟩
      rw [← hv]
      have HV := Lib.hid hv
      clear hv
      have y0 := H2.out.bank.cell 0 rfl k (arrL_at _ k h1)
      have y1 := H2.out.bank.free 0 rfl k
      have H3 := Lib.hid (H2.out.set 0 rfl k (.int .i64 v))
      clear H2
      go_wp2_with fail
      go_roundw
      case rel =>
        refine ⟨k + 1, by omega, by go_num, ?_⟩
        have h := H3.out
        have e2 := arrL_set (M.rdNums (some b) k).1 k v (M.rdNums_length _ _)
        rw [HV.out] at e2 h
        have h2 : Held w0 _ _ _ P A0 (boxAcc (X + 1) 96 ((arrL (M.rdNums (some b) k).1).set k (.int .i64 (M.rdNumber (M.rdNums (some b) k).2).1)) :: boxAcc X 28 zeroLL :: L) := h
        rw [e2] at h2
        rw [HV.out]
        exact h2
      case measure => simp [intOf]; omega
    · have i1 : ¬ (k : Int) < 10 := by omega
      obtain rfl : k = 10 := by omega
      obtain ⟨ns, hns⟩ : ∃ ns, ns = (M.rdNums (some b) 10).1 := ⟨_, rfl⟩
      obtain ⟨s, hs⟩ : ∃ s, s = (M.rdNums (some b) 10).2 := ⟨_, rfl⟩
      have HRD := Lib.hid (show M.rdNums (some b) 10 = (ns, s) by rw [hns, hs])
      obtain ⟨n0, n1, n2, n3, n4, n5, n6, n7, n8, n9, rfl⟩ := ten_of (show ns.length = 10 by rw [hns]; exact M.rdNums_length _ _)
      rw [← hns, ← hs] at H1
      clear hns hs
      have BAD : Hid (∀ w', Since wr w' → M.lfits [n0, n1, n2, n3, n4, n5, n6, n7, n8, n9] = false → ReadPost w0 L (M.lread b) (.panicked wrongP) w') := Lib.hid (fun w' hw hb => .inr ⟨lread_unfit HRD.out hb, rfl, (H1.out.bank.call hw).drop.drop⟩)
      have x0 := H1.out.bank.cell 0 rfl 0 rfl
      go_wp2_with fail
      clear x0
      refine (within_any n0 0 255 wr).mono ?_
      rintro e w2 (⟨h0, rfl, hs⟩ | ⟨h0, rfl, hs⟩)
      rotate_left
      · have HFIN := Lib.hid (BAD.out w2 hs (by unfold M.lfits; simp [h0]))
        clear h0 hs
        go_wp2
        exact ⟨rfl, HFIN.out⟩
      have S2 := Lib.hid hs
      have H2 := Lib.hid (H1.out.call hs)
      have HW0 := Lib.hid h0
      clear h0 hs H1
      have x6 := H2.out.bank.cell 0 rfl 6 rfl
      go_wp2_with fail
      clear x6
      refine (within_any n6 0 1 w2).mono ?_
      rintro e w3 (⟨h0, rfl, hs⟩ | ⟨h0, rfl, hs⟩)
      rotate_left
      · have HFIN := Lib.hid (BAD.out w3 (S2.out.add hs) (by unfold M.lfits; simp [h0]))
        clear h0 hs
        go_wp2
        exact ⟨rfl, HFIN.out⟩
      have S3 := Lib.hid (S2.out.add hs)
      have H3 := Lib.hid (H2.out.call hs)
      have HW6 := Lib.hid h0
      clear h0 hs H2 S2
      have x9 := H3.out.bank.cell 0 rfl 9 rfl
      go_wp2_with fail
      clear x9
      refine (within_any n9 0 4 w3).mono ?_
      rintro e w4 (⟨h0, rfl, hs⟩ | ⟨h0, rfl, hs⟩)
      rotate_left
      · have HFIN := Lib.hid (BAD.out w4 (S3.out.add hs) (by unfold M.lfits; simp [h0]))
        clear h0 hs
        go_wp2
        exact ⟨rfl, HFIN.out⟩
      have H4 := Lib.hid (H3.out.call hs)
      have HFIT := Lib.hid (show M.lfits [n0, n1, n2, n3, n4, n5, n6, n7, n8, n9] = true by unfold M.lfits; have e0 := HW0.out; have e6 := HW6.out; simp [e0, e6, h0])
      obtain ⟨q9, h9, rfl⟩ : ∃ q : Nat, q ≤ 4 ∧ n9 = (q : Int) := by
        have := (M.wi_iff _ _ _).1 h0
        exact ⟨n9.toNat, by omega, by omega⟩
      clear h0 hs H3 S3 HW0 HW6 BAD
      have x0 := H4.out.bank.cell 0 rfl 0 rfl
      have x1 := H4.out.bank.cell 0 rfl 1 rfl
      have x2 := H4.out.bank.cell 0 rfl 2 rfl
      have x3 := H4.out.bank.cell 0 rfl 3 rfl
      have x4 := H4.out.bank.cell 0 rfl 4 rfl
      have x5 := H4.out.bank.cell 0 rfl 5 rfl
      have x6 := H4.out.bank.cell 0 rfl 6 rfl
      have x7 := H4.out.bank.cell 0 rfl 7 rfl
      have x8 := H4.out.bank.cell 0 rfl 8 rfl
      have x9 := H4.out.bank.cell 0 rfl 9 rfl
      have p9 : X + 1 < w4.heap.size := block_lt_of_cell x9
      have p9' := Nat.ne_of_lt p9
      have p9'' := Ne.symm p9'
      go_wp2_with fail
      clear x0 x1 x2 x3 x4 x5 x6 x7 x8 x9
      have H5 := Lib.hid ((H4.out.box #[B8 (BitVec.ofInt 8 n0), .int .i64 n1, .int .i64 n2, .int .i64 n3, .int .i64 n4, .int .i64 n5, .bool (n6 == 1), .int .i64 n7, .int .i64 n8, .slice none 0 0] 28 (by simp)).nil6 42 6)
      clear H4 p9 p9' p9''
      generalize w4.alloc (.cells #[B8 (BitVec.ofInt 8 n0), .int .i64 n1, .int .i64 n2, .int .i64 n3, .int .i64 n4, .int .i64 n5, .bool (n6 == 1), .int .i64 n7, .int .i64 n8, .slice none 0 0] 28) = w5 at *
      generalize w4.heap.size = Y at *
      go_loopw [46] (fun i wr => ∃ (q : Nat) (xs : List EV) (A : Option Addr) (c : Nat), q ≤ q9 ∧ i = .int .i64 (q : Int) ∧ xs.length = q ∧ xs.map EV.e = (M.rdEnts s q).1 ∧ Held w0 wr (fun w s => PrgN w P s A0) (M.rdEnts s q).2 P A0 (evsAcc A q c xs :: boxAcc Y 28 [B8 (BitVec.ofInt 8 n0), .int .i64 n1, .int .i64 n2, .int .i64 n3, .int .i64 n4, .int .i64 n5, .bool (n6 == 1), .int .i64 n7, .int .i64 n8, .slice A q c] :: boxAcc (X + 1) 96 (arrL [n0, n1, n2, n3, n4, n5, n6, n7, n8, (q9 : Int)]) :: boxAcc X 28 zeroLL :: (evRows xs ++ L))) (fun i _ => q9 - (intOf i).toNat)
      case atStart => exact ⟨0, [], none, 0, by omega, rfl, rfl, rfl, H5.out⟩
      case round =>
        clear H5
        obtain ⟨q, xs, A, c, hq, rfl, hxl, hxs, hH⟩ := hrel
        have H6 := Lib.hid hH
        have HXL := Lib.hid hxl
        have HXS := Lib.hid hxs
        clear hH hxl hxs
        have q0 : (0 : Int) ≤ (q : Int) := by omega
        rcases Nat.lt_or_ge q q9 with h2 | h2
        · have i2 : (q : Int) < (q9 : Int) := by omega
          obtain ⟨en, hen⟩ : ∃ en, en = (M.rdEntry (M.rdEnts s q).2).1 := ⟨_, rfl⟩
          obtain ⟨sq, hsq⟩ : ∃ sq, sq = (M.rdEntry (M.rdEnts s q).2).2 := ⟨_, rfl⟩
          have HEN := Lib.hid (show M.rdEntry (M.rdEnts s q).2 = (en, sq) by rw [hen, hsq])
          clear hen hsq
          go_upto_region 13 with fail
          have hH := H6.out.drew
          have x9 := hH.bank.cell 1 rfl 9 rfl
          have p9 := block_lt_of_cell x9
          have p9' := Nat.ne_of_lt p9
          have p9'' := Ne.symm p9'
          go_region_law (first
            | (go_simp; go_at_call 49; refine (entry_held hH HEN.out).mono ?_; rintro e w6 ⟨B, m, c6, rfl, hH⟩; have x9 := hH.bank.cell 2 rfl 9 rfl; have p9 := block_lt_of_cell x9; have p9' := Nat.ne_of_lt p9; have p9'' := Ne.symm p9'; have hH := hH.call ((Below.refl _ _).alloc (Nat.le_refl _) (.cells (entL en.term en.version en.server en.kind en.good B m c6).toArray 42)))
            | (refine step_append_held hH rfl (.tmp 49) (.tmp 52) 26 rfl 42 _ 6 64 infoEntry Tryz.underlying26 rfl (by decide) 1 A q c (xs.flatMap EV.cells) rfl rfl _ 1 1 (entL en.term en.version en.server en.kind en.good B m c6) rfl rfl (cells_lit1 _ (entL en.term en.version en.server en.kind en.good B m c6) _) (entL_oneL _ _ _ _ _ _ _ _) (by unfold maxLen; omega) (by omega) ?_; intro A' n' c' w7 hn' hH; have y9 := hH.bank.cell 2 rfl 9 rfl; have z9 := hH.bank.free 2 rfl 9)
            | fail "arm")
          all_goals
            subst hn'
            have H8 := Lib.hid (hH.set 2 rfl 9 (.slice A' (q + 1) c'))
            clear hH x9 y9 z9 p9 p9' p9'' H6
            go_wp2_with fail
            go_roundw
            case rel =>
              refine ⟨q + 1, xs ++ [⟨en, B, m, c6⟩], A', c', by omega, by go_num, by rw [List.length_append, HXL.out]; rfl, by rw [List.map_append, HXS.out, M.rdEnts, HEN.out]; rfl, ?_⟩
              have h := H8.out
              rw [evRows_snoc, M.rdEnts, HEN.out]
              have e1 : evsAcc A' (q + 1) c' (xs ++ [⟨en, B, m, c6⟩]) = ⟨.slice A' (q + 1) c', q + 1, 42, 6, xs.flatMap EV.cells ++ entL en.term en.version en.server en.kind en.good B m c6⟩ := by
                  rw [evsAcc, List.flatMap_append]; simp [EV.cells]
              exact Held.perm (L := (rowAcc B m c6 en.data :: ([evsAcc A' (q + 1) c' (xs ++ [⟨en, B, m, c6⟩]), boxAcc Y 28 [B8 (BitVec.ofInt 8 n0), .int .i64 n1, .int .i64 n2, .int .i64 n3, .int .i64 n4, .int .i64 n5, .bool (n6 == 1), .int .i64 n7, .int .i64 n8, .slice A' (q + 1) c'], boxAcc (X + 1) 96 (arrL [n0, n1, n2, n3, n4, n5, n6, n7, n8, (q9 : Int)]), boxAcc X 28 zeroLL] ++ (evRows xs ++ L)))) (by rw [e1]; exact h) List.perm_middle.symm
            case measure => simp [intOf]; omega
        · have i2 : ¬ (q : Int) < (q9 : Int) := by omega
          obtain rfl : q = q9 := by omega
          obtain ⟨es, hes⟩ : ∃ es, es = (M.rdEnts s q).1 := ⟨_, rfl⟩
          obtain ⟨s2, hs2⟩ : ∃ s2, s2 = (M.rdEnts s q).2 := ⟨_, rfl⟩
          have hre : M.rdEnts s q = (es, s2) := by rw [hes, hs2]
          have HLR := Lib.hid (lread_eq HRD.out (show M.rdEnts s ([n0, n1, n2, n3, n4, n5, n6, n7, n8, (q : Int)].getD 9 0).toNat = (es, s2) from hre))
          have HES := Lib.hid (show xs.map EV.e = es by rw [HXS.out, hes])
          rw [← hs2] at H6
          clear hes hs2 hre HXS
          go_wp2_with fail
          refine (pDoneN P _ A0 wr H6.out.q).mono ?_
          rintro e w6 ⟨rfl, rfl⟩
          go_wp2_with fail
          refine (must_lit wr.heap.size [decide (s2 = some [])] 1 1 _ _ wr rfl rfl rfl (by omega)).mono ?_
          rintro e w6 (⟨h0, rfl, hs⟩ | ⟨h0, rfl, hs⟩)
          rotate_left
          · have hne : ¬ s2 = some [] := by simpa using h0
            have HFIN := Lib.hid (show ReadPost w0 L (M.lread b) (.panicked wrongP) w6 from .inr ⟨by rw [HLR.out, if_neg (fun h => hne h.2.1)], rfl, ((H6.out.bank.call hs).sub (.cons _ (.cons _ (.cons _ (.cons _ (List.sublist_append_right _ _))))))⟩)
            clear h0 hs hne
            go_wp2
            exact ⟨rfl, HFIN.out⟩
          have HS2 := Lib.hid (show s2 = some [] by simpa using h0)
          have BK := Lib.hid (H6.out.bank.call hs)
          clear h0 hs H6
          have x0 := BK.out.cell 1 rfl 0 rfl
          have x1 := BK.out.cell 1 rfl 1 rfl
          have x2 := BK.out.cell 1 rfl 2 rfl
          have x3 := BK.out.cell 1 rfl 3 rfl
          have x4 := BK.out.cell 1 rfl 4 rfl
          have x5 := BK.out.cell 1 rfl 5 rfl
          have x6 := BK.out.cell 1 rfl 6 rfl
          have x7 := BK.out.cell 1 rfl 7 rfl
          have x8 := BK.out.cell 1 rfl 8 rfl
          have x9 := BK.out.cell 1 rfl 9 rfl
          have HRDS := Lib.hid (show EntsRd w6 A es by rw [← HES.out]; exact evs_rd BK.out (.head _) (fun x hx => by simp only [List.mem_cons, List.mem_append]; refine .inr (.inr (.inr (.inr (.inl ?_)))); exact List.mem_map.2 ⟨x, by simpa using hx, rfl⟩) HXL.out)
          have HLEN := Lib.hid (show es.length = q by rw [← HES.out, List.length_map, HXL.out])
          go_wp2_with fail
          clear x0 x1 x2 x3 x4 x5 x6 x7 x8 x9
          refine (lcheck_any ⟨BitVec.ofInt 8 n0, n1, n2, n3, n4, n5, n6 == 1, n7, n8, es⟩ A q c w6 HLEN.out (by omega) HRDS.out).mono ?_
          rintro e w7 (⟨h0, rfl, hs⟩ | ⟨h0, rfl, hs⟩)
          rotate_left
          · have HFIN := Lib.hid (show ReadPost w0 L (M.lread b) (.panicked wrongP) w7 from .inr ⟨(by
              rw [HLR.out, if_neg (fun h => ?_)]
              have h3 : M.lright ⟨BitVec.ofInt 8 n0, n1, n2, n3, n4, n5, n6 == 1, n7, n8, es⟩ = true := h.2.2
              rw [h0] at h3; cases h3), rfl, ((BK.out.call hs).sub (.cons _ (.cons _ (.cons _ (.cons _ (List.sublist_append_right _ _))))))⟩)
            clear h0 hs
            go_wp2
            exact ⟨rfl, HFIN.out⟩
          have BK7 := Lib.hid (BK.out.call hs)
          have HOK := Lib.hid (show M.lread b = some ⟨BitVec.ofInt 8 n0, n1, n2, n3, n4, n5, n6 == 1, n7, n8, es⟩ by
            rw [HLR.out, if_pos ⟨HFIT.out, HS2.out, h0⟩]; rfl)
          clear h0 hs BK
          have x0 := BK7.out.cell 1 rfl 0 rfl
          have x1 := BK7.out.cell 1 rfl 1 rfl
          have x2 := BK7.out.cell 1 rfl 2 rfl
          have x3 := BK7.out.cell 1 rfl 3 rfl
          have x4 := BK7.out.cell 1 rfl 4 rfl
          have x5 := BK7.out.cell 1 rfl 5 rfl
          have x6 := BK7.out.cell 1 rfl 6 rfl
          have x7 := BK7.out.cell 1 rfl 7 rfl
          have x8 := BK7.out.cell 1 rfl 8 rfl
          have x9 := BK7.out.cell 1 rfl 9 rfl
          have HRES := Lib.hid (BK7.out.boxAt 3 rfl).2
          have HFIN := Lib.hid (show ReadPost w0 L (M.lread b) (.returned (.agg (letL ⟨BitVec.ofInt 8 n0, n1, n2, n3, n4, n5, n6 == 1, n7, n8, es⟩ A q c).toArray)) (w7.setRow X (letL ⟨BitVec.ofInt 8 n0, n1, n2, n3, n4, n5, n6 == 1, n7, n8, es⟩ A q c).toArray) from
            .inl ⟨⟨BitVec.ofInt 8 n0, n1, n2, n3, n4, n5, n6 == 1, n7, n8, es⟩, xs, A, q, c, HOK.out, rfl, HES.out.symm, HXL.out.symm, (BK7.out.boxRow 3 rfl (letL ⟨BitVec.ofInt 8 n0, n1, n2, n3, n4, n5, n6 == 1, n7, n8, es⟩ A q c) rfl (by simp [zeroLL])).sub (.cons_cons _ (.cons _ (.cons _ (.cons _ (List.Sublist.refl _)))))⟩)
          go_wp2_with (with_reducible refine wpList_store_row rfl 28 (.tmp 2) (.tmp 63) rfl X (letL ⟨BitVec.ofInt 8 n0, n1, n2, n3, n4, n5, n6 == 1, n7, n8, es⟩ A q c).toArray rfl rfl 28 _ HRES.out (infoLetL _ _ _ _) rfl (letL_one _ _ _ _) ?_)
          refine bodyPost_ret (v := .agg (letL ⟨BitVec.ofInt 8 n0, n1, n2, n3, n4, n5, n6 == 1, n7, n8, es⟩ A q c).toArray) ?_ rfl HFIN.out
          exact results_cell_row rfl _ _ X 28 _ (0, 0) _ rfl (setRow_heap _ _ _ _ _ _ HRES.out) Tryz.underlying28 rfl (infoLetL _ _ _ _)
end Go.Proofs.YtdmpphioflcofaaGreat.K

/- The contracts of letter's tried and Right. -/
namespace Go.Proofs.YtdmpphioflcofaaGreat.K
open Go Go.RowKit

theorem tmpsL (a x : Value) : (#[a] ++ ((Array.replicate 14 undef).setIfInBounds 3 x).setIfInBounds 0 x) = #[a, x, undef, undef, x, undef, undef, undef, undef, undef, undef, undef, undef, undef, undef] := by
  apply Array.toList_inj.1
  simp [List.replicate]
theorem catchL_idle (p : Addr) (w : World) :
    CallsD Tryz.prog 46 #[.pointer (some p)] .returning w fun e u' w' => e = .returned (.tuple #[]) ∧ u' = .returning ∧ w' = w := by
  refine callsD_of_wpS Tryz.func46 rfl fun c₀ cs hu => ?_
  apply wpS_seq
  apply wpS_region
  simp [wpOpsS, go_sem, recoverD, hu, Tryz.ntmps46, Exit.thenS]
  refine wpS_of_wp ?_
  rw [tmpsL]
  go_wp2
  cases c₀
  simp_all [bodyPostS, results, Tryz.results46]
set_option maxHeartbeats 1000000 in
set_option maxRecDepth 100000 in
theorem catchL_panicking (B : Nat) (v : Value) (w : World) (hb : w.heap[B]? = some (.cells #[v] 4 (0, 0))) :
    CallsD Tryz.prog 46 #[.pointer (some ⟨B, 0, none⟩)] (.panicking wrongP) w fun e u' w' =>
      e = .returned (.tuple #[]) ∧ u' = .panicking [{ v := .iface 94 (.agg #[]), recovered := true }] ∧ w' = (w.alloc (.cells #[] 94)).setCell ⟨B, 0, none⟩ (.bool false) := by
  have hta : ∀ w, (Instr.typeAssert (.iface 94 (.agg #[])) 20 94 true).run Tryz.prog w = .ok (.tuple #[.agg #[], .bool true]) w := fun _ => by kernel_rfl
  have hbc0 : w.cell? ⟨B, 0, none⟩ = some v := block_cell (xs := [v]) hb rfl
  have hbf0 : w.frozen? ⟨B, 0, none⟩ = false := frozen_of_row w B 0 _ _ hb
  have hbc := cell_old (.cells #[] 94) hbc0
  have hbf : (w.alloc (.cells #[] 94)).frozen? ⟨B, 0, none⟩ = false := (((Below.refl w.heap.size w).alloc (Nat.le_refl _) (.cells #[] 94)).frozen (p := ⟨B, 0, none⟩) (block_lt_of_cell hbc0)).trans hbf0
  refine callsD_of_wpS Tryz.func46 rfl fun c₀ cs hu => ?_
  unfold wrongP at hu
  clear hb hbc0 hbf0
  apply wpS_seq
  apply wpS_region
  simp [wpOpsS, go_sem, recoverD, hu, Tryz.ntmps46, Exit.thenS]
  refine wpS_of_wp ?_
  rw [tmpsL]
  go_wp2
  cases c₀
  simp_all [bodyPostS, results, Tryz.results46]
/-- whether something is done without a wrong -/
def TriedPost (w : World) (ok : Bool) (e : Ending) (w' : World) : Prop := e = .returned (.bool ok) ∧ Since w w'
set_option maxHeartbeats 4000000 in
set_option maxRecDepth 100000 in
theorem triedL_any (f : FuncId) (fst cap : Array Value) (ok : Bool) (w : World) (hfc : (f = 38 ∧ cap = #[] ∧ ∃ v, fst = #[v]))
    (hc : Calls Tryz.prog f (fst ++ cap) (w.alloc (.cells #[.bool false] 4)) (MustPost (w.alloc (.cells #[.bool false] 4)) ok)) :
    Calls Tryz.prog 23 #[.func (.func f) fst cap] w (TriedPost w ok) := by
  have hmf : ∀ (fn : Fn) (first cap : Array Value) (w : World), (Instr.makeFunc fn first cap).run Tryz.prog w = .ok (.func fn first cap) w := fun _ _ _ _ => rfl
  have BK0 := Lib.hid ((Bank.nil (Below.refl w.heap.size w)).box #[.bool false] 4 (by simp))
  have HC := Lib.hid hc
  clear hc
  obtain ⟨rfl, rfl, v, rfl⟩ := hfc
  simp only [List.append_toArray, List.cons_append, List.nil_append, List.append_nil] at HC
  all_goals
    go_enter_defers Tryz.func23, Tryz.ntmps23
    go_wp2_with fail
    generalize hw1 : (w.alloc (.cells #[.bool false] 4)) = w1 at *
    clear hw1
    refine HC.out.mono ?_
    rintro e w2 (⟨rfl, rfl, hs⟩ | ⟨rfl, rfl, hs⟩)
    · have BK2 := Lib.hid (BK0.out.call hs)
      have c1 := BK2.out.cell 0 rfl 0 rfl
      have f1 := BK2.out.free 0 rfl 0
      have BK3 := Lib.hid (BK2.out.boxSet 0 rfl 0 (.bool true))
      clear hs BK0 BK2
      go_wp2
      refine leaves_cons (f := 46) (args := #[.pointer (some ⟨w.heap.size, 0, none⟩)]) (by simp) (by simp [go_sem]) ?_
      refine (catchL_idle _ _).mono ?_
      rintro e u' w'' ⟨rfl, rfl, rfl⟩
      have r1 := BK3.out.cell 0 rfl 0 rfl
      exact ⟨.bool true, by simp [results, Tryz.results23, go_sem, r1], ⟨rfl, BK3.out.since⟩⟩
    · have BK2 := Lib.hid (BK0.out.call hs)
      have hbx := (BK2.out.boxAt 0 rfl).2
      have BK3 := Lib.hid ((BK2.out.alloc (.cells #[] 94)).boxSet 0 rfl 0 (.bool false))
      have HBX := Lib.hid hbx
      clear hs BK0 BK2 hbx
      go_wp2
      refine leaves_cons (f := 46) (args := #[.pointer (some ⟨w.heap.size, 0, none⟩)]) (by simp) (by simp [go_sem]) ?_
      refine (catchL_panicking w.heap.size _ _ HBX.out).mono ?_
      rintro e u' w'' ⟨rfl, rfl, rfl⟩
      have r1 := BK3.out.cell 0 rfl 0 rfl
      exact ⟨.bool false, by simp [results, Tryz.results23, go_sem, r1], ⟨rfl, BK3.out.since⟩⟩
set_option maxHeartbeats 4000000 in
set_option maxRecDepth 100000 in
/-- letter.Right -/
theorem lRight_any (l : M.Let) (A : Option Addr) (n c : Nat) (w : World) (hn : l.ents.length = n) (hn2 : n ≤ 9223372036854775807) (hE : EntsRd w A l.ents) :
    Calls Tryz.prog 16 #[.agg #[B8 l.kind, .int .i64 l.src, .int .i64 l.dst, .int .i64 l.term, .int .i64 l.index, .int .i64 l.was, .bool l.ok, .int .i64 l.commit, .int .i64 l.version, .slice A n c]] w (TriedPost w (M.lright l)) := by
  have hmf : ∀ (fn : Fn) (first cap : Array Value) (w : World), (Instr.makeFunc fn first cap).run Tryz.prog w = .ok (.func fn first cap) w := fun _ _ _ _ => rfl
  have S0 := Lib.hid (Since.alloc (Below.refl w.heap.size w) (.cells #[B8 l.kind, .int .i64 l.src, .int .i64 l.dst, .int .i64 l.term, .int .i64 l.index, .int .i64 l.was, .bool l.ok, .int .i64 l.commit, .int .i64 l.version, .slice A n c] 28))
  have HE := Lib.hid hE; have HN := Lib.hid hn
  clear hE hn
  go_enter Tryz.func16, Tryz.ntmps16
  go_wp2_with fail
  generalize w.alloc (.cells #[B8 l.kind, .int .i64 l.src, .int .i64 l.dst, .int .i64 l.term, .int .i64 l.index, .int .i64 l.was, .bool l.ok, .int .i64 l.commit, .int .i64 l.version, .slice A n c] 28) = w1 at *
  refine (triedL_any 38 #[.agg #[B8 l.kind, .int .i64 l.src, .int .i64 l.dst, .int .i64 l.term, .int .i64 l.index, .int .i64 l.was, .bool l.ok, .int .i64 l.commit, .int .i64 l.version, .slice A n c]] #[] (M.lright l) w1 ⟨rfl, rfl, _, rfl⟩ (lcheck_any l A n c _ HN.out hn2 (HE.out.since (Since.alloc S0.out _)))).mono ?_
  rintro e w2 ⟨rfl, hs⟩
  have HFIN := Lib.hid (show TriedPost w (M.lright l) (.returned (.bool (M.lright l))) w2 from ⟨rfl, S0.out.add hs⟩)
  clear hs
  go_wp2
  go_ret
  exact HFIN.out
end Go.Proofs.YtdmpphioflcofaaGreat.K

/- The contracts of letter's Get and of the closure that it hands to tried. -/
namespace Go.Proofs.YtdmpphioflcofaaGreat.K
open Go Go.RowKit

theorem prgL_grown {w w' : World} {P : Nat} {s : M.Rdr} {A0 : Option Addr} (h : PrgN w P s A0) {row : Option Nat} (hg : w.grownBy w' row) (hR : row ≠ some P) (hA : ∀ a, A0 = some a → row ≠ some a.block) : PrgN w' P s A0 := by
  obtain ⟨l, A, n, c, h⟩ := h
  refine ⟨l, A, n, c, ?_⟩
  cases s with
  | none =>
    obtain ⟨t, hb⟩ := h
    exact ⟨t, (hg.block P (Array.getElem?_eq_some_iff.1 hb).1 (Ne.symm hR)).trans hb⟩
  | some l' => exact ⟨h.1.grown hg hR (fun a e => by obtain ⟨a0, e0, h0⟩ := h.2.2 a e; rw [h0]; exact hA a0 e0), h.2.1, h.2.2⟩
theorem prgL_lt {w : World} {P : Nat} {s : M.Rdr} {A0 : Option Addr} (h : PrgN w P s A0) : P < w.heap.size := by
  obtain ⟨l, A, n, c, h⟩ := h
  cases s with
  | none =>
    obtain ⟨t, hb⟩ := h
    exact (Array.getElem?_eq_some_iff.1 hb).1
  | some l' =>
    obtain ⟨t, hb⟩ := h.1.blk
    exact (Array.getElem?_eq_some_iff.1 hb).1
theorem results_cell_tmpL {fn : Func} {p q : Tmp} {ty : TypeId} {P : Program} (h : fn.results = #[.cell p ty, .tmp q]) (tmps : Array Value) (w : World) (g : Nat) (u v : Value)
    (hp : tmps.getD p undef = .pointer (some ⟨g, 0, none⟩)) (hq : tmps.getD q undef = v) (hrun : (loadVar ty ⟨g, 0, none⟩).run P w = .ok u w) : (results fn tmps).run P w = .ok (.tuple #[u, v]) w := by
  have hp' : tmps[p]?.getD undef = .pointer (some ⟨g, 0, none⟩) := by simpa using hp
  have hq' : tmps[q]?.getD undef = v := by simpa using hq
  simp [results, h, hp', hq', asAddr, hrun]
theorem Bank.permA' {w0 w : World} {L L' : List Acc} (h : Bank w0 w L) (hp : L.Perm L') : Bank w0 w L' := ⟨h.since, fun p hm => h.own p (hp.mem_iff.2 hm), (List.Perm.pairwise_iff (fun {_ _} h => Apartness.symm h) hp).1 h.sep⟩
/-- what stands when the closure is through: the letter's box, the bytes' box, the entries -/
def GetR (bs : List (BitVec 8)) (Gl Gb : Nat) (A : Option Addr) (n c : Nat) (ok : Bool) (L2 : List Acc) : Prop :=
  (ok = true ∧ ∃ l xs A' k c', M.lread bs = some l ∧ l.ents = xs.map EV.e ∧ k = xs.length ∧ L2 = boxAcc Gl 28 (letL l A' k c') :: boxAcc Gb 22 [.slice A n c] :: evsAcc A' k c' xs :: evRows xs) ∨
  (ok = false ∧ M.lread bs = none ∧ L2 = [boxAcc Gl 28 zeroLL, boxAcc Gb 22 [.slice A n c]])
def ClosL (wB : World) (I : Nat) (R : Bool → List Acc → Prop) (e : Ending) (w2 : World) : Prop :=
  ∃ ok L2, R ok L2 ∧ Bank wB w2 (boxAcc I 4 [.bool false] :: L2) ∧ ((ok = true ∧ e = .returned (.tuple #[])) ∨ (ok = false ∧ e = .panicked wrongP))
set_option maxHeartbeats 4000000 in
set_option maxRecDepth 100000 in
theorem get1L_any (wB w : World) (I Gl Gb : Nat) (A : Option Addr) (n c : Nat) (bs : List (BitVec 8)) (h : Bank wB w [boxAcc I 4 [.bool false], boxAcc Gl 28 zeroLL, boxAcc Gb 22 [.slice A n c]]) (hr : RowRd wB ⟨A, n, c⟩ bs) (hn : n ≤ 1000000000000) :
    Calls Tryz.prog 24 #[.pointer (some ⟨Gb, 0, none⟩), .pointer (some ⟨Gl, 0, none⟩)] w (ClosL wB I (GetR bs Gl Gb A n c)) := by
  have BK0 := Lib.hid h; have HR := Lib.hid hr
  clear hr
  have x0 := h.cell 2 rfl 0 rfl
  clear h
  go_enter Tryz.func24, Tryz.ntmps24
  go_wp2_with fail
  clear x0
  refine (pNew_any A n c bs w (Since.row BK0.out.since HR.out) hn).mono ?_
  rintro e w2 ⟨P, A0, rfl, hP, hq, hA0, hb⟩
  have H2 := Lib.hid (Held.start (Q := fun w s => PrgN w P s A0) BK0.out hq hb hP (prgL_lt hq) (fun a e => ⟨(hA0 a e).1, (hA0 a e).2.1⟩) (fun w w' s row h hg hR hA => prgL_grown h hg hR hA))
  clear hq hA0 hb hP BK0
  go_wp2_with fail
  refine (read_any wB w2 P A0 bs _ H2.out).mono ?_
  rintro e w3 (⟨l, xs, A', k, c', hl, rfl, hx, hk, hB⟩ | ⟨hl, rfl, hB⟩)
  · have HL := Lib.hid hl; have HX := Lib.hid hx; have HK := Lib.hid hk
    have BK := Lib.hid (hB.permA' (List.perm_append_comm (l₁ := evsAcc A' k c' xs :: evRows xs) (l₂ := [boxAcc I 4 [.bool false], boxAcc Gl 28 zeroLL, boxAcc Gb 22 [.slice A n c]])))
    clear hl hx hk hB H2
    have HRES := Lib.hid (BK.out.boxAt 1 rfl).2
    have HFIN := Lib.hid (show ClosL wB I (GetR bs Gl Gb A n c) (.returned (.tuple #[])) (w3.setRow Gl (letL l A' k c').toArray) from
      ⟨true, _, .inl ⟨rfl, l, xs, A', k, c', HL.out, HX.out, HK.out, rfl⟩, BK.out.boxRow 1 rfl (letL l A' k c') rfl (by simp [zeroLL]), .inl ⟨rfl, rfl⟩⟩)
    go_wp2_with (with_reducible refine wpList_store_row rfl 28 (.tmp 1) (.tmp 4) rfl Gl (letL l A' k c').toArray rfl rfl 28 _ HRES.out (infoLetL _ _ _ _) rfl (letL_one _ _ _ _) ?_)
    go_end0
    exact HFIN.out
  · have HFIN := Lib.hid (show ClosL wB I (GetR bs Gl Gb A n c) (.panicked wrongP) w3 from ⟨false, _, .inr ⟨rfl, hl, rfl⟩, hB, .inr ⟨rfl, rfl⟩⟩)
    clear hl hB H2
    go_wp2
    exact ⟨rfl, HFIN.out⟩
set_option maxHeartbeats 4000000 in
set_option maxRecDepth 100000 in
theorem triedG_any (wB w : World) (Lb : List Acc) (cap : Array Value) (R : Bool → List Acc → Prop) (hB : Bank wB w Lb)
    (hc : ∀ w1, Bank wB w1 (boxAcc w.heap.size 4 [.bool false] :: Lb) → Calls Tryz.prog 24 (#[] ++ cap) w1 (ClosL wB w.heap.size R)) :
    Calls Tryz.prog 23 #[.func (.func 24) #[] cap] w fun e w' => ∃ ok L2, R ok L2 ∧ e = .returned (.bool ok) ∧ Bank wB w' L2 := by
  have hmf : ∀ (fn : Fn) (first cap : Array Value) (w : World), (Instr.makeFunc fn first cap).run Tryz.prog w = .ok (.func fn first cap) w := fun _ _ _ _ => rfl
  have BK0 := Lib.hid (hB.box #[.bool false] 4 (by simp))
  have HC := Lib.hid (hc _ BK0.out)
  clear hc hB
  simp only [Array.empty_append] at HC
  go_enter_defers Tryz.func23, Tryz.ntmps23
  go_wp2_with fail
  generalize hw1 : (w.alloc (.cells #[.bool false] 4)) = w1 at *
  clear hw1
  refine HC.out.mono ?_
  rintro e w2 ⟨ok, L2, hR, hB2, (⟨rfl, rfl⟩ | ⟨rfl, rfl⟩)⟩
  · have BK2 := Lib.hid hB2
    have HR := Lib.hid hR
    have c1 := BK2.out.cell 0 rfl 0 rfl
    have f1 := BK2.out.free 0 rfl 0
    have BK3 := Lib.hid (BK2.out.boxSet 0 rfl 0 (.bool true))
    clear hR hB2 BK0 BK2
    go_wp2
    refine leaves_cons (f := 46) (args := #[.pointer (some ⟨w.heap.size, 0, none⟩)]) (by simp) (by simp [go_sem]) ?_
    refine (catchL_idle _ _).mono ?_
    rintro e u' w'' ⟨rfl, rfl, rfl⟩
    have r1 := BK3.out.cell 0 rfl 0 rfl
    exact ⟨.bool true, by simp [results, Tryz.results23, go_sem, r1], ⟨true, L2, HR.out, rfl, BK3.out.drop⟩⟩
  · have BK2 := Lib.hid hB2
    have HR := Lib.hid hR
    have HBX := Lib.hid (BK2.out.boxAt 0 rfl).2
    have BK3 := Lib.hid ((BK2.out.alloc (.cells #[] 94)).boxSet 0 rfl 0 (.bool false))
    clear hR hB2 BK0 BK2
    go_wp2
    refine leaves_cons (f := 46) (args := #[.pointer (some ⟨w.heap.size, 0, none⟩)]) (by simp) (by simp [go_sem]) ?_
    refine (catchL_panicking w.heap.size _ _ HBX.out).mono ?_
    rintro e u' w'' ⟨rfl, rfl, rfl⟩
    have r1 := BK3.out.cell 0 rfl 0 rfl
    exact ⟨.bool false, by simp [results, Tryz.results23, go_sem, r1], ⟨false, L2, HR.out, rfl, BK3.out.drop⟩⟩
/-- the letter that bytes are, or the error -/
def LGot (w : World) (bs : List (BitVec 8)) (e : Ending) (w' : World) : Prop :=
  ∃ l xs A k c, l = M.lget bs ∧ e = .returned (.tuple #[.agg (letL l A k c).toArray, .int .i64 (M.lgetE bs : Int)]) ∧ l.ents = xs.map EV.e ∧ k = xs.length ∧ Bank w w' (evsAcc A k c xs :: evRows xs)
theorem load_let (l : M.Let) (A : Option Addr) (n c : Nat) {w : World} {g : Nat} (h : w.heap[g]? = some (.cells (letL l A n c).toArray 28 (0, 0))) : (loadVar 28 ⟨g, 0, none⟩).run Tryz.prog w = .ok (.agg (letL l A n c).toArray) w := by
  have x0 : w.cell? ⟨g, 0, none⟩ = some (B8 l.kind) := block_cell h rfl
  have x1 : w.cell? ⟨g, 1, none⟩ = some (.int .i64 l.src) := block_cell h rfl
  have x2 : w.cell? ⟨g, 2, none⟩ = some (.int .i64 l.dst) := block_cell h rfl
  have x3 : w.cell? ⟨g, 3, none⟩ = some (.int .i64 l.term) := block_cell h rfl
  have x4 : w.cell? ⟨g, 4, none⟩ = some (.int .i64 l.index) := block_cell h rfl
  have x5 : w.cell? ⟨g, 5, none⟩ = some (.int .i64 l.was) := block_cell h rfl
  have x6 : w.cell? ⟨g, 6, none⟩ = some (.bool l.ok) := block_cell h rfl
  have x7 : w.cell? ⟨g, 7, none⟩ = some (.int .i64 l.commit) := block_cell h rfl
  have x8 : w.cell? ⟨g, 8, none⟩ = some (.int .i64 l.version) := block_cell h rfl
  have x9 : w.cell? ⟨g, 9, none⟩ = some (.slice A n c) := block_cell h rfl
  simp [go_sem, x0, x1, x2, x3, x4, x5, x6, x7, x8, x9, letL]
set_option maxHeartbeats 4000000 in
set_option maxRecDepth 100000 in
/-- letter.Get -/
theorem lGet_any (A : Option Addr) (n c : Nat) (bs : List (BitVec 8)) (w : World) (hr : RowRd w ⟨A, n, c⟩ bs) (hn : n ≤ 1000000000000) :
    Calls Tryz.prog 7 #[.slice A n c] w (LGot w bs) := by
  have hmf : ∀ (fn : Fn) (first cap : Array Value) (w : World), (Instr.makeFunc fn first cap).run Tryz.prog w = .ok (.func fn first cap) w := fun _ _ _ _ => rfl
  have HR := Lib.hid hr
  have BK0 := Lib.hid (((Bank.nil (Below.refl w.heap.size w)).box #[.slice A n c] 22 (by simp)).box #[.int .u8 0, .int .i64 0, .int .i64 0, .int .i64 0, .int .i64 0, .int .i64 0, .bool false, .int .i64 0, .int .i64 0, .slice none 0 0] 28 (by decide))
  rw [World.size_alloc] at BK0
  clear hr
  go_enter Tryz.func7, Tryz.ntmps7
  go_wp2_with fail
  generalize (w.alloc (.cells #[.slice A n c] 22)).alloc (.cells #[.int .u8 0, .int .i64 0, .int .i64 0, .int .i64 0, .int .i64 0, .int .i64 0, .bool false, .int .i64 0, .int .i64 0, .slice none 0 0] 28) = w1 at *
  generalize hX : w.heap.size = X at *
  refine (triedG_any w w1 [boxAcc (X + 1) 28 zeroLL, boxAcc X 22 [.slice A n c]] #[.pointer (some ⟨X, 0, none⟩), .pointer (some ⟨X + 1, 0, none⟩)] (GetR bs (X + 1) X A n c) BK0.out (fun w2 hB => get1L_any w w2 w1.heap.size (X + 1) X A n c bs hB HR.out hn)).mono ?_
  rintro e w3 ⟨ok, L2, (⟨rfl, l, xs, A', k, c', hl, hx, hk, rfl⟩ | ⟨rfl, hl, rfl⟩), rfl, hB⟩
  · have BK := Lib.hid hB
    have x0 := hB.cell 0 rfl 0 rfl
    have x1 := hB.cell 0 rfl 1 rfl
    have x2 := hB.cell 0 rfl 2 rfl
    have x3 := hB.cell 0 rfl 3 rfl
    have x4 := hB.cell 0 rfl 4 rfl
    have x5 := hB.cell 0 rfl 5 rfl
    have x6 := hB.cell 0 rfl 6 rfl
    have x7 := hB.cell 0 rfl 7 rfl
    have x8 := hB.cell 0 rfl 8 rfl
    have x9 := hB.cell 0 rfl 9 rfl
    have HRES := Lib.hid (hB.boxAt 0 rfl).2
    have HFIN := Lib.hid (show LGot w bs (.returned (.tuple #[.agg (letL l A' k c').toArray, .int .i64 0])) (w3.setRow (X + 1) (letL l A' k c').toArray) from
      ⟨l, xs, A', k, c', by rw [M.lget, hl]; rfl, by rw [M.lgetE, hl]; rfl, hx, hk, (hB.boxRow 0 rfl (letL l A' k c') rfl (by simp [letL])).drop.drop⟩)
    clear hl hx hk hB BK0
    go_wp2_with (with_reducible refine wpList_store_row rfl 28 (.tmp 2) (.tmp 8) rfl (X + 1) (letL l A' k c').toArray rfl rfl 28 _ HRES.out (infoLetL _ _ _ _) rfl (letL_one _ _ _ _) ?_)
    refine bodyPost_ret (v := .tuple #[.agg (letL l A' k c').toArray, .int .i64 0]) ?_ rfl HFIN.out
    exact results_cell_tmpL rfl _ _ (X + 1) _ _ rfl rfl (load_let _ _ _ _ (setRow_heap _ _ _ _ _ _ HRES.out))
  · have HRES := Lib.hid (hB.boxAt 0 rfl).2
    have HFIN := Lib.hid (show LGot w bs (.returned (.tuple #[.agg (letL M.zeroLet none 0 0).toArray, .int .i64 4])) (w3.setRow (X + 1) (letL M.zeroLet none 0 0).toArray) from
      ⟨M.zeroLet, [], none, 0, 0, by rw [M.lget, hl]; rfl, by rw [M.lgetE, hl]; rfl, rfl, rfl, ((hB.boxRow 0 rfl (letL M.zeroLet none 0 0) rfl (by simp [zeroLL])).drop.drop).none _ _⟩)
    clear hl hB BK0
    go_wp2_with (with_reducible refine wpList_store_row rfl 28 (.tmp 2) (.tmp 7) rfl (X + 1) (letL M.zeroLet none 0 0).toArray rfl rfl 28 _ HRES.out (infoLetL _ _ _ _) rfl (letL_one _ _ _ _) ?_)
    refine bodyPost_ret (v := .tuple #[.agg (letL M.zeroLet none 0 0).toArray, .int .i64 4]) ?_ rfl HFIN.out
    exact results_cell_tmpL rfl _ _ (X + 1) _ _ rfl rfl (load_let _ _ _ _ (setRow_heap _ _ _ _ _ _ HRES.out))
end Go.Proofs.YtdmpphioflcofaaGreat.K

/- letter.Get, its letter's cells written out; plain facts of what is got. -/
namespace Go.Proofs.YtdmpphioflcofaaGreat.K
open Go Go.RowKit

theorem ents_mem_le (es : List M.Ent) : ∀ e ∈ es, e.data.length ≤ (M.ents es).length := by
  induction es with
  | nil => intro e he; cases he
  | cons x es ih =>
    intro e he
    simp only [M.ents, List.flatMap_cons, List.length_append, M.ent_length]
    rcases List.mem_cons.1 he with rfl | he
    · omega
    · have := ih e he
      simp only [M.ents] at this
      omega
/-- what is got of few bytes is small -/
theorem lget_small (bb : List (BitVec 8)) : (M.lget bb).ents.length ≤ 4 ∧ ∀ e ∈ (M.lget bb).ents, e.data.length ≤ bb.length := by
  by_cases h : M.lgetE bb = 0
  · obtain ⟨h1, h2⟩ := M.lget_put bb h
    refine ⟨(M.lright_small _ h1).2.2.2.2.2.2.2, fun e he => ?_⟩
    have h3 := ents_mem_le _ e he
    have h4 : (M.lbytes (M.lget bb)).length = bb.length := by rw [h2]
    rw [M.lbytes, List.length_append] at h4
    omega
  · rw [(M.lget_bad bb h).2]
    exact ⟨by decide, fun e he => by cases he⟩
theorem rowRd_cutL {w : World} {b o n c : Nat} {bs : List (BitVec 8)} (h : RowRd w ⟨some ⟨b, o, none⟩, n, c⟩ bs) (len c' : Nat) (hl : len ≤ n) : RowRd w ⟨some ⟨b, o, none⟩, len, c'⟩ (bs.take len) := by
  have hN : bs.length = n := h.len
  refine ⟨fun j hj => ?_, by show _ = len; rw [List.length_take]; omega, fun h => by cases h⟩
  rw [List.length_take] at hj
  obtain ⟨b', o', e, hc⟩ := h.rd j (by omega)
  obtain ⟨rfl, rfl⟩ : b = b' ∧ o = o' := by simpa using e
  refine ⟨b, o, rfl, ?_⟩
  rw [hc, List.getElem_take]
/-- letter.Get, its letter's cells written out -/
def LGotL (w : World) (bs : List (BitVec 8)) (e : Ending) (w' : World) : Prop :=
  ∃ x ee A k c, x = M.lget bs ∧ ee = (M.lgetE bs : Int) ∧ e = .returned (.tuple #[.agg #[B8 x.kind, .int .i64 x.src, .int .i64 x.dst, .int .i64 x.term, .int .i64 x.index, .int .i64 x.was, .bool x.ok, .int .i64 x.commit, .int .i64 x.version, .slice A k c], .int .i64 ee]) ∧ x.ents.length = k ∧ EntsRd w' A x.ents ∧ Since w w'
theorem lGetL_any (A : Option Addr) (n c : Nat) (bs : List (BitVec 8)) (w : World) (hr : RowRd w ⟨A, n, c⟩ bs) (hn : n ≤ 1000000000000) :
    Calls Tryz.prog 7 #[.slice A n c] w (LGotL w bs) := by
  refine (lGet_any A n c bs w hr hn).mono ?_
  rintro e w' ⟨l, xs, A', k, c', hl, rfl, hx, hk, hB⟩
  refine ⟨l, _, A', k, c', hl, rfl, rfl, by rw [hx, List.length_map, hk], ?_, hB.since⟩
  rw [hx]
  exact evs_rd hB (.head _) (fun x hx => List.mem_cons_of_mem _ (List.mem_map.2 ⟨x, by simpa using hx, rfl⟩)) hk.symm
theorem SameLetter_zero (x : M.Let) (hx : x = M.zeroLet) (A : Option Addr) (k c : Nat) (w : World) (hk : x.ents.length = k) :
    Calls Tryz.prog 9 #[.agg #[B8 x.kind, .int .i64 x.src, .int .i64 x.dst, .int .i64 x.term, .int .i64 x.index, .int .i64 x.was, .bool x.ok, .int .i64 x.commit, .int .i64 x.version, .slice A k c], .agg #[.int .u8 0, .int .i64 0, .int .i64 0, .int .i64 0, .int .i64 0, .int .i64 0, .bool false, .int .i64 0, .int .i64 0, .slice none 0 0]] w (SaidB w true) := by
  subst hx
  have h0 : k = 0 := hk.symm
  subst h0
  exact SameLetter_eq M.zeroLet A 0 c none 0 w rfl (EntsRd.nil _ _) (EntsRd.nil _ _) (by omega) (fun e he => by cases he)
theorem lgetE_four (bs : List (BitVec 8)) (h : M.lread bs = none) : M.lgetE bs = 4 := by rw [M.lgetE, h]; rfl
theorem LGotL.of {w : World} {bs : List (BitVec 8)} {e : Ending} {w' : World} (h : LGot w bs e w') : LGotL w bs e w' := by
  obtain ⟨l, xs, A', k, c', hl, rfl, hx, hk, hB⟩ := h
  refine ⟨l, _, A', k, c', hl, rfl, rfl, by rw [hx, List.length_map, hk], ?_, hB.since⟩
  rw [hx]
  exact evs_rd hB (.head _) (fun x hx => List.mem_cons_of_mem _ (List.mem_map.2 ⟨x, by simpa using hx, rfl⟩)) hk.symm
end Go.Proofs.YtdmpphioflcofaaGreat.K

/- What the reference's Right asks is what makes a letter right: plain Lean. -/
namespace Go.Proofs.YtdmpphioflcofaaGreat.M
theorem lright_terms (l : Let) (h : lright l = true) : l.ents.all (fun e => tm e.term) = true := by
  unfold lright lkind at h
  simp only [Bool.and_eq_true] at h
  obtain ⟨_, h3⟩ := h
  have hnil : (l.ents.length : Int) = 0 → l.ents.all (fun e => tm e.term) = true := fun h0 => by
    have : l.ents = [] := List.eq_nil_of_length_eq_zero (by omega)
    rw [this]; rfl
  split at h3
  · simp only [lask, List.all_cons, List.all_nil, id_eq, Bool.and_eq_true, z_iff] at h3; exact hnil (by omega)
  split at h3
  · simp only [lvote, List.all_cons, List.all_nil, id_eq, Bool.and_eq_true, z_iff] at h3; exact hnil (by omega)
  split at h3
  · simp only [lputs, Bool.and_eq_true] at h3; exact h3.2
  split at h3
  · simp only [ldone, List.all_cons, List.all_nil, id_eq, Bool.and_eq_true, z_iff] at h3; exact hnil (by omega)
  split at h3
  · simp only [lack, List.all_cons, List.all_nil, id_eq, Bool.and_eq_true, z_iff] at h3; exact hnil (by omega)
  · cases h3
theorem lright_bad (l : Let) (h : l.src < 1 ∨ 7 < l.src ∨ l.dst < 1 ∨ 7 < l.dst ∨ 4 < l.ents.length) : lright l = false := by
  cases e : lright l
  · rfl
  · have := lright_small l e
    omega
theorem lright_term (l : Let) (k : Nat) (hk : k < l.ents.length) (h : tm l.ents[k].term = false) : lright l = false := by
  cases e : lright l
  · rfl
  · have h2 := List.all_eq_true.1 (lright_terms l e) _ (List.getElem_mem hk)
    rw [h] at h2; cases h2
theorem lright_no (l : Let) (h1 : l.kind ≠ 1#8) (h2 : l.kind ≠ 2#8) (h3 : l.kind ≠ 3#8) (h4 : l.kind ≠ 4#8) (h5 : l.kind ≠ 5#8) : lright l = false := by
  rw [lright, lkind, if_neg h1, if_neg h2, if_neg h3, if_neg h4, if_neg h5, Bool.and_false]
theorem len0 (n : Nat) : ((n : Int) == 0) = decide (n = 0) := by
  rw [Bool.eq_iff_iff]; simp
section
variable (l : Let) (hs : 1 ≤ l.src ∧ l.src ≤ 7) (hd : 1 ≤ l.dst ∧ l.dst ≤ 7)
theorem ix0 : ix 0 = true := rfl
theorem tm0 : tm 0 = true := rfl
theorem ref1 (hs : 1 ≤ l.src ∧ l.src ≤ 7) (hd : 1 ≤ l.dst ∧ l.dst ≤ 7) (hk : l.kind = 1#8) : lright l = ((l.term == l.term && l.index == l.index && l.was == l.was && (l.ok == false) && l.commit == 0 && l.version == 0 && decide (l.ents.length = 0)) && tm l.term && tm l.was && ix l.index && ix l.commit) := by
  rw [Bool.eq_iff_iff, lright, lkind, if_pos hk]
  simp only [lask, List.all_cons, List.all_nil, id_eq, Bool.and_eq_true, z_iff, wi_iff, beq_self_eq_true, true_and, beq_iff_eq, decide_eq_true_eq, Bool.not_eq_true', and_true]
  constructor
  · rintro ⟨_, ⟨h1, h2, h3, h4⟩, ⟨h5, h6⟩, h7⟩
    exact ⟨⟨⟨⟨⟨⟨⟨h1, h2⟩, h3⟩, by omega⟩, h5⟩, h6⟩, h7⟩, by rw [h2]; rfl⟩
  · rintro ⟨⟨⟨⟨⟨⟨⟨h1, h2⟩, h3⟩, h4⟩, h5⟩, h6⟩, h7⟩, _⟩
    exact ⟨⟨hs, hd⟩, ⟨h1, h2, h3, by omega⟩, ⟨h5, h6⟩, h7⟩
theorem ref2 (hs : 1 ≤ l.src ∧ l.src ≤ 7) (hd : 1 ≤ l.dst ∧ l.dst ≤ 7) (hk : l.kind = 2#8) : lright l = ((l.term == l.term && l.index == 0 && l.was == 0 && (l.ok == l.ok) && l.commit == 0 && l.version == 0 && decide (l.ents.length = 0)) && tm l.term && tm l.was && ix l.index && ix l.commit) := by
  rw [Bool.eq_iff_iff, lright, lkind, if_neg (by rw [hk]; decide), if_pos hk]
  simp only [lvote, List.all_cons, List.all_nil, id_eq, Bool.and_eq_true, z_iff, wi_iff, beq_self_eq_true, true_and, beq_iff_eq, decide_eq_true_eq, and_true]
  constructor
  · rintro ⟨_, ⟨h1, h2, h3, h4, h5⟩, h6⟩
    exact ⟨⟨⟨⟨⟨⟨⟨⟨h1, h2⟩, h3⟩, h4⟩, by omega⟩, h6⟩, by rw [h2]; rfl⟩, by rw [h1]; rfl⟩, by rw [h3]; rfl⟩
  · rintro ⟨⟨⟨⟨⟨⟨⟨⟨h1, h2⟩, h3⟩, h4⟩, h5⟩, h6⟩, _⟩, _⟩, _⟩
    exact ⟨⟨hs, hd⟩, ⟨h1, h2, h3, h4, by omega⟩, h6⟩
theorem ref3 (hs : 1 ≤ l.src ∧ l.src ≤ 7) (hd : 1 ≤ l.dst ∧ l.dst ≤ 7) (hk : l.kind = 3#8) (hl : l.ents.length ≤ 4) (ht : l.ents.all (fun e => tm e.term) = true) : lright l = ((l.term == l.term && l.index == l.index && l.was == l.was && (l.ok == false) && l.commit == l.commit && l.version == 0 && true) && tm l.term && tm l.was && ix l.index && ix l.commit) := by
  have hl' : (l.ents.length : Int) ≤ 4 := by omega
  rw [Bool.eq_iff_iff, lright, lkind, if_neg (by rw [hk]; decide), if_neg (by rw [hk]; decide), if_pos hk]
  simp only [lputs, ht, List.all_cons, List.all_nil, id_eq, Bool.and_eq_true, z_iff, wi_iff, beq_self_eq_true, true_and, beq_iff_eq, decide_eq_true_eq, Bool.not_eq_true', and_true]
  constructor
  · rintro ⟨_, ⟨⟨h1, _⟩, h3⟩, ⟨h5, h6⟩, h7, h8⟩
    exact ⟨⟨⟨⟨⟨h1, h3⟩, h5⟩, h6⟩, h7⟩, h8⟩
  · rintro ⟨⟨⟨⟨⟨h1, h3⟩, h5⟩, h6⟩, h7⟩, h8⟩
    exact ⟨⟨hs, hd⟩, ⟨⟨h1, hl'⟩, h3⟩, ⟨h5, h6⟩, h7, h8⟩
theorem ref4 (hs : 1 ≤ l.src ∧ l.src ≤ 7) (hd : 1 ≤ l.dst ∧ l.dst ≤ 7) (hk : l.kind = 4#8) : lright l = ((l.term == l.term && l.index == l.index && l.was == 0 && (l.ok == l.ok) && l.commit == 0 && l.version == 0 && decide (l.ents.length = 0)) && tm l.term && tm l.was && ix l.index && ix l.commit) := by
  rw [Bool.eq_iff_iff, lright, lkind, if_neg (by rw [hk]; decide), if_neg (by rw [hk]; decide), if_neg (by rw [hk]; decide), if_pos hk]
  simp only [ldone, List.all_cons, List.all_nil, id_eq, Bool.and_eq_true, z_iff, wi_iff, beq_self_eq_true, true_and, beq_iff_eq, decide_eq_true_eq, and_true]
  constructor
  · rintro ⟨_, ⟨h1, h2, h3, h4⟩, h5, h6⟩
    exact ⟨⟨⟨⟨⟨⟨⟨h1, h2⟩, h3⟩, by omega⟩, h5⟩, by rw [h1]; rfl⟩, h6⟩, by rw [h2]; rfl⟩
  · rintro ⟨⟨⟨⟨⟨⟨⟨h1, h2⟩, h3⟩, h4⟩, h5⟩, _⟩, h6⟩, _⟩
    exact ⟨⟨hs, hd⟩, ⟨h1, h2, h3, by omega⟩, h5, h6⟩
theorem ref5 (hs : 1 ≤ l.src ∧ l.src ≤ 7) (hd : 1 ≤ l.dst ∧ l.dst ≤ 7) (hk : l.kind = 5#8) (hv : 1 ≤ l.version ∧ l.version ≤ 1073741824) : lright l = ((l.term == 0 && l.index == 0 && l.was == 0 && (l.ok == l.ok) && l.commit == 0 && l.version == l.version && decide (l.ents.length = 0)) && tm l.term && tm l.was && ix l.index && ix l.commit) := by
  rw [Bool.eq_iff_iff, lright, lkind, if_neg (by rw [hk]; decide), if_neg (by rw [hk]; decide), if_neg (by rw [hk]; decide), if_neg (by rw [hk]; decide), if_pos hk]
  simp only [lack, List.all_cons, List.all_nil, id_eq, Bool.and_eq_true, z_iff, wi_iff, beq_self_eq_true, true_and, beq_iff_eq, decide_eq_true_eq, and_true]
  constructor
  · rintro ⟨_, ⟨h1, h2, h3, h4, h5⟩, _⟩
    exact ⟨⟨⟨⟨⟨⟨⟨⟨h1, h2⟩, h3⟩, h4⟩, by omega⟩, by rw [h1]; rfl⟩, by rw [h3]; rfl⟩, by rw [h2]; rfl⟩, by rw [h4]; rfl⟩
  · rintro ⟨⟨⟨⟨⟨⟨⟨⟨h1, h2⟩, h3⟩, h4⟩, h5⟩, _⟩, _⟩, _⟩, _⟩
    exact ⟨⟨hs, hd⟩, ⟨h1, h2, h3, h4, by omega⟩, hv⟩
theorem ref5_bad (hk : l.kind = 5#8) (hv : l.version < 1 ∨ 1073741824 < l.version) : lright l = false := by
  rw [lright, lkind, if_neg (by rw [hk]; decide), if_neg (by rw [hk]; decide), if_neg (by rw [hk]; decide), if_neg (by rw [hk]; decide), if_pos hk]
  have : wi l.version 1 1073741824 = false := by
    cases e : wi l.version 1 1073741824
    · rfl
    · have := (wi_iff _ _ _).1 e; omega
  rw [lack, this, Bool.and_false, Bool.and_false]
end
end Go.Proofs.YtdmpphioflcofaaGreat.M

/- (made by genrefright.py) The reference's term, index; Right where it refuses at once. -/
namespace Go.Proofs.YtdmpphioflcofaaGreat.K
open Go Go.RowKit

theorem rterm_any (n : Int) (w : World) : Calls Tryz.prog 39 #[.int .i64 n] w fun e w' => e = .returned (.bool (M.tm n)) ∧ w = w' := by
  by_cases h1 : 0 ≤ n
  · by_cases h2 : n ≤ 1099511627776
    · have hr : M.tm n = true := (M.tm_iff n).2 ⟨h1, h2⟩
      rw [hr]
      clear hr
      go_enter Tryz.func39, Tryz.ntmps39
      go_wp2
      go_ret
      exact ⟨by simp [h2], rfl⟩
    · have hr : M.tm n = false := by
        cases e : M.tm n
        · rfl
        · exact absurd ((M.tm_iff n).1 e).2 h2
      rw [hr]
      clear hr
      go_enter Tryz.func39, Tryz.ntmps39
      go_wp2
      go_ret
      exact ⟨by simp [h2], rfl⟩
  · have hr : M.tm n = false := by
      cases e : M.tm n
      · rfl
      · exact absurd ((M.tm_iff n).1 e).1 h1
    have h3 : decide (0 ≤ n) = false := by simpa using h1
    rw [hr]
    clear hr
    go_enter Tryz.func39, Tryz.ntmps39
    go_wp2
    go_ret
    exact ⟨rfl, rfl⟩
theorem rindex_any (n : Int) (w : World) : Calls Tryz.prog 40 #[.int .i64 n] w fun e w' => e = .returned (.bool (M.ix n)) ∧ w = w' := by
  by_cases h1 : 0 ≤ n
  · by_cases h2 : n ≤ 1073741824
    · have hr : M.ix n = true := (M.ix_iff n).2 ⟨h1, h2⟩
      rw [hr]
      clear hr
      go_enter Tryz.func40, Tryz.ntmps40
      go_wp2
      go_ret
      exact ⟨by simp [h2], rfl⟩
    · have hr : M.ix n = false := by
        cases e : M.ix n
        · rfl
        · exact absurd ((M.ix_iff n).1 e).2 h2
      rw [hr]
      clear hr
      go_enter Tryz.func40, Tryz.ntmps40
      go_wp2
      go_ret
      exact ⟨by simp [h2], rfl⟩
  · have hr : M.ix n = false := by
      cases e : M.ix n
      · rfl
      · exact absurd ((M.ix_iff n).1 e).1 h1
    have h3 : decide (0 ≤ n) = false := by simpa using h1
    rw [hr]
    clear hr
    go_enter Tryz.func40, Tryz.ntmps40
    go_wp2
    go_ret
    exact ⟨rfl, rfl⟩
set_option maxHeartbeats 8000000 in
set_option maxRecDepth 100000 in
theorem rRight_early (l : M.Let) (A : Option Addr) (n c : Nat) (w : World) (hn : l.ents.length = n) (hE : EntsRd w A l.ents) (hD : ∀ e ∈ l.ents, e.data.length ≤ 4611686018427387904) (h : l.src < 1 ∨ 7 < l.src ∨ l.dst < 1 ∨ 7 < l.dst ∨ 4 < n) :
    Calls Tryz.prog 17 #[.agg #[B8 l.kind, .int .i64 l.src, .int .i64 l.dst, .int .i64 l.term, .int .i64 l.index, .int .i64 l.was, .bool l.ok, .int .i64 l.commit, .int .i64 l.version, .slice A n c]] w (SaidB w (M.lright l)) := by
  have hr : M.lright l = false := M.lright_bad l (by rw [hn]; exact h)
  have HS := Lib.hid (Since.alloc (Below.refl w.heap.size w) (.cells #[B8 l.kind, .int .i64 l.src, .int .i64 l.dst, .int .i64 l.term, .int .i64 l.index, .int .i64 l.was, .bool l.ok, .int .i64 l.commit, .int .i64 l.version, .slice A n c] 28))
  rw [hr]
  clear hr hE hn hD
  by_cases h1 : l.src < 1
  · clear h
    go_enter Tryz.func17, Tryz.ntmps17
    go_wp2
    go_ret
    exact ⟨rfl, HS.out⟩
  have d1 : decide (l.src < 1) = false := by simpa using h1
  by_cases h2 : 7 < l.src
  · clear h
    go_enter Tryz.func17, Tryz.ntmps17
    go_wp2
    go_ret
    exact ⟨rfl, HS.out⟩
  have d2 : decide (7 < l.src) = false := by simpa using h2
  by_cases h3 : l.dst < 1
  · clear h
    go_enter Tryz.func17, Tryz.ntmps17
    go_wp2
    go_ret
    exact ⟨rfl, HS.out⟩
  have d3 : decide (l.dst < 1) = false := by simpa using h3
  by_cases h4 : 7 < l.dst
  · clear h
    go_enter Tryz.func17, Tryz.ntmps17
    go_wp2
    go_ret
    exact ⟨rfl, HS.out⟩
  have d4 : decide (7 < l.dst) = false := by simpa using h4
  have h5 : (4 : Int) < (n : Int) := by omega
  clear h
  go_enter Tryz.func17, Tryz.ntmps17
  go_wp2
  go_ret
  exact ⟨rfl, HS.out⟩
set_option maxHeartbeats 8000000 in
set_option maxRecDepth 100000 in
theorem rRight_no (l : M.Let) (A : Option Addr) (n c : Nat) (w : World) (hn : l.ents.length = n) (hE : EntsRd w A l.ents) (hD : ∀ e ∈ l.ents, e.data.length ≤ 4611686018427387904) (hs : 1 ≤ l.src ∧ l.src ≤ 7) (hd : 1 ≤ l.dst ∧ l.dst ≤ 7) (h4 : n ≤ 4) (k1 : l.kind ≠ 1#8) (k2 : l.kind ≠ 2#8) (k3 : l.kind ≠ 3#8) (k4 : l.kind ≠ 4#8) (k5 : l.kind ≠ 5#8) :
    Calls Tryz.prog 17 #[.agg #[B8 l.kind, .int .i64 l.src, .int .i64 l.dst, .int .i64 l.term, .int .i64 l.index, .int .i64 l.was, .bool l.ok, .int .i64 l.commit, .int .i64 l.version, .slice A n c]] w (SaidB w (M.lright l)) := by
  have hr : M.lright l = false := M.lright_no l k1 k2 k3 k4 k5
  have HS := Lib.hid (tmBx (w := w) (c := #[B8 l.kind, .int .i64 l.src, .int .i64 l.dst, .int .i64 l.term, .int .i64 l.index, .int .i64 l.was, .bool l.ok, .int .i64 l.commit, .int .i64 l.version, .slice A n c]) (d := #[B8 l.kind, .int .i64 l.src, .int .i64 l.dst, .int .i64 l.term, .int .i64 0, .int .i64 0, .bool false, .int .i64 0, .int .i64 0, .slice none 0 0]) (t := 28))
  have i1 : ¬ l.src < 1 := by omega
  have i2 : ¬ 7 < l.src := by omega
  have i3 : ¬ l.dst < 1 := by omega
  have i4 : ¬ 7 < l.dst := by omega
  have i5 : ¬ (4 : Int) < (n : Int) := by omega
  have d1 : decide (l.src < 1) = false := by simpa using i1
  have d2 : decide (7 < l.src) = false := by simpa using i2
  have d3 : decide (l.dst < 1) = false := by simpa using i3
  have d4 : decide (7 < l.dst) = false := by simpa using i4
  have d5 : decide ((4 : Int) < (n : Int)) = false := by simpa using i5
  have q1 : ∀ t, binOp .eql t (B8 l.kind) (.int .u8 1) = pure (.bool false) := fun t => by have := B8_eql t l.kind 1#8; rw [show (l.kind == 1#8) = false by simpa using k1] at this; exact this
  have q2 : ∀ t, binOp .eql t (B8 l.kind) (.int .u8 2) = pure (.bool false) := fun t => by have := B8_eql t l.kind 2#8; rw [show (l.kind == 2#8) = false by simpa using k2] at this; exact this
  have q3 : ∀ t, binOp .eql t (B8 l.kind) (.int .u8 3) = pure (.bool false) := fun t => by have := B8_eql t l.kind 3#8; rw [show (l.kind == 3#8) = false by simpa using k3] at this; exact this
  have q4 : ∀ t, binOp .eql t (B8 l.kind) (.int .u8 4) = pure (.bool false) := fun t => by have := B8_eql t l.kind 4#8; rw [show (l.kind == 4#8) = false by simpa using k4] at this; exact this
  have q5 : ∀ t, binOp .eql t (B8 l.kind) (.int .u8 5) = pure (.bool false) := fun t => by have := B8_eql t l.kind 5#8; rw [show (l.kind == 5#8) = false by simpa using k5] at this; exact this
  rw [hr]
  clear hr hE hn hD hs hd h4 k1 k2 k3 k4 k5
  go_enter Tryz.func17, Tryz.ntmps17
  go_wp2
  go_ret
  exact ⟨rfl, HS.out⟩
end Go.Proofs.YtdmpphioflcofaaGreat.K

