/- The contracts of the program's reader: Entry. -/
import Derived.Test.YtdmpphioflcofaaLqWireCatchE
namespace Go.Proofs.Ytdmpphioflcofaa.K
open Go Go.RowKit

theorem rdEntry_none : M.rdEntry none = (M.zeroEnt, none) := rfl
/-- an entry was got, or nothing -/
def GotEnt (w : World) (P : Nat) (s : M.Rdr) (A0 : Option Addr) (e : Ending) (w' : World) : Prop :=
  ∃ B m c, e = .returned (.agg (entL (M.rdEntry s).1.term (M.rdEntry s).1.version (M.rdEntry s).1.server (M.rdEntry s).1.kind (M.rdEntry s).1.good B m c).toArray) ∧ w'.ownsRow w.heap.size 5 1 (.slice B m c) m (bv (M.rdEntry s).1.data) ∧ PrgN w' P (M.rdEntry s).2 A0 ∧ w.grownBy w' (some P)

set_option maxHeartbeats 2000000 in
set_option maxRecDepth 100000 in
theorem readsEnt_u (Bx P : Nat) (l : List (BitVec 8)) (A : Option Addr) (n c : Nat) (w : World) (h : PrgR w P l A n c true false) (hb : w.cell? ⟨Bx, 0, none⟩ = some (.pointer (some ⟨P, 0, none⟩))) (hAB : ∀ a, A = some a → a.block < w.heap.size) (hBP : Bx ≠ P) :
    Calls Try.prog 106 #[.pointer (some ⟨P, 0, none⟩), .func (.func 107) #[] #[.pointer (some ⟨Bx, 0, none⟩)]] w (GotEnt w P (some l) A) := by
  have hmf : ∀ (fn : Fn) (first cap : Array Value) (w : World), (Instr.makeFunc fn first cap).run Try.prog w = .ok (.func fn first cap) w := fun _ _ _ _ => rfl
  have hPl := h.lt
  have hBl := block_lt_of_cell hb
  have hga : w.grownBy ((w.alloc (.cells #[.pointer (some ⟨P, 0, none⟩)] 83)).alloc (.cells zeroL.toArray 48)) none := ⟨rfl, rfl, rfl, by simp; omega, fun k hk _ => (heap_alloc_old _ _ (by simp; omega)).trans (heap_alloc_old w _ hk)⟩
  have h2 := h.grown hga (by simp) (fun _ _ => by simp)
  have hb2 := hga.cell hb (by simp)
  have ho2 : ((w.alloc (.cells #[.pointer (some ⟨P, 0, none⟩)] 83)).alloc (.cells zeroL.toArray 48)).heap[w.heap.size + 1]? = some (.cells zeroL.toArray 48 (0, 0)) := heap_alloc2_new w _ _
  have hr2 : ((w.alloc (.cells #[.pointer (some ⟨P, 0, none⟩)] 83)).alloc (.cells zeroL.toArray 48)).heap[w.heap.size]? = some (.cells #[.pointer (some ⟨P, 0, none⟩)] 83 (0, 0)) := heap_alloc2_old w _ _
  have hsz2 : ((w.alloc (.cells #[.pointer (some ⟨P, 0, none⟩)] 83)).alloc (.cells zeroL.toArray 48)).heap.size = w.heap.size + 2 := by simp
  have H := Lib.hid h2; have HB := Lib.hid hb2; have HGA := Lib.hid hga; have HO2 := Lib.hid ho2; have HR2 := Lib.hid hr2; have HSZ2 := Lib.hid hsz2; have HAB := Lib.hid hAB
  clear h hb h2 hb2 hga ho2 hr2 hsz2 hAB
  go_enter_defers Try.func106, Try.ntmps106
  go_wp2_with fail
  refine (pBad_any P l A n c false _ H.out).mono ?_
  rintro e w1 ⟨rfl, rfl⟩
  go_wp2_with fail
  refine (closEnt_u Bx P l A n c true false _ H.out (fun a e => by have := HAB.out a e; rw [HSZ2.out]; omega) HB.out).mono ?_
  rintro e w1 (⟨⟨rfl, ⟨l1, A1, n1, c1, hp⟩, hg⟩, hr⟩ | ⟨x, B, m, c', l', A', n', c2, rfl, hr, ho, hp, hs, hg⟩)
  · have hob : w1.heap[w.heap.size + 1]? = some (.cells zeroL.toArray 48 (0, 0)) := (hg.block _ (by rw [HSZ2.out]; omega) (by simp; omega)).trans HO2.out
    have hrb : w1.heap[w.heap.size]? = some (.cells #[.pointer (some ⟨P, 0, none⟩)] 83 (0, 0)) := (hg.block _ (by rw [HSZ2.out]; omega) (by simp; omega)).trans HR2.out
    have hrc : w1.cell? ⟨w.heap.size, 0, none⟩ = some (.pointer (some ⟨P, 0, none⟩)) := block_cell (xs := [.pointer (some ⟨P, 0, none⟩)]) hrb rfl
    have HP := Lib.hid hp; have HG := Lib.hid hg; have HOB := Lib.hid hob; have HRC := Lib.hid hrc; have HR := Lib.hid hr
    clear hp hg hob hrb hrc hr
    go_wp2
    refine leaves_cons (f := 118) (args := #[.pointer (some ⟨w.heap.size + 1, 0, none⟩), .pointer (some ⟨w.heap.size, 0, none⟩)]) (by simp) (by simp [go_sem]) ?_
    refine (catchEnt_panicking (w.heap.size + 1) w.heap.size P A1 l1 n1 c1 _ HOB.out HRC.out HP.out (by omega)).mono ?_
    rintro e u' w'' ⟨rfl, rfl, rfl⟩
    have hPl1 := HP.out.lt
    have hlt1 := lt_of_row HOB.out
    have ho3 := (heap_alloc_old (w1.alloc (.cells #[] 204)) (.cells zeroL.toArray 48) (by simp; omega)).trans ((heap_alloc_old w1 (.cells #[] 204) hlt1).trans HOB.out)
    have ho4 : (((w1.alloc (.cells #[] 204)).alloc (.cells zeroL.toArray 48)).setRow (w.heap.size + 1) zeroL.toArray).heap[w.heap.size + 1]? = some (.cells zeroL.toArray 48 (0, 0)) := setRow_heap _ _ _ _ _ _ ho3
    have ho5 := (heap_setCell_other _ ⟨P, 2, none⟩ (w.heap.size + 1) (.bool true) (by simp; omega)).trans ho4
    obtain ⟨t, hblk⟩ := HP.out.blk
    have hblk2 := (setRow_other ((w1.alloc (.cells #[] 204)).alloc (.cells zeroL.toArray 48)) (w.heap.size + 1) P zeroL.toArray (by omega)).trans ((heap_alloc_old (w1.alloc (.cells #[] 204)) (.cells zeroL.toArray 48) (by simp; omega)).trans ((heap_alloc_old w1 (.cells #[] 204) hPl1).trans hblk))
    refine ⟨.agg zeroL.toArray, results_cell_row rfl _ _ (w.heap.size + 1) 48 _ (0, 0) _ rfl ho5 Try.underlying48 rfl (infoEntL 0 0 0 0#8 false none 0 0), ?_⟩
    refine ⟨none, 0, 0, by rw [HR.out]; rfl, by rw [HR.out]; exact World.ownsRow_nil _ _ _ _, ?_, ?_⟩
    · rw [HR.out]
      exact ⟨[], A1, n1, c1, t, block_set hblk2 2 _⟩
    · have g1 : w.grownBy w1 (some P) := grown_trans' ⟨HGA.out.os, HGA.out.tape, HGA.out.output, HGA.out.size, fun k hk _ => HGA.out.block k hk (by simp)⟩ HG.out
      have g2 := grown_alloc (grown_alloc g1 (.cells #[] 204)) (.cells zeroL.toArray 48)
      exact grown_trans' (grown_setRow g2 (by omega) _) (grownBy_setCell _ P 2 _)
  · have hob : w1.heap[w.heap.size + 1]? = some (.cells zeroL.toArray 48 (0, 0)) := (hg.block _ (by rw [HSZ2.out]; omega) (by simp; omega)).trans HO2.out
    have hne : (Value.slice B m c').ownBlock ≠ some (w.heap.size + 1) := fun e => by
      have h1 := (ho.lt _ e).1
      rw [HSZ2.out] at h1
      omega
    have HP := Lib.hid hp; have HG := Lib.hid hg; have HOB := Lib.hid hob; have HR := Lib.hid hr; have HS := Lib.hid hs; have HNE := Lib.hid hne
    have HO := Lib.hid (own_low ho (show w.heap.size ≤ _ by rw [HSZ2.out]; omega))
    clear hp hg hob hr hs hne ho
    go_wp2_with (refine wpList_store_row rfl 48 (.tmp 4) (.tmp 10) rfl (w.heap.size + 1) (entL x.term x.version x.server x.kind x.good B m c').toArray rfl rfl 48 _ HOB.out (infoEntL x.term x.version x.server x.kind x.good B m c') (entL_size _ _ _ _ _ _ _ _ _ _ _ _ _ _ _ _) (entL_one _ _ _ _ _ _ _ _) ?_)
    refine leaves_cons (f := 118) (args := #[.pointer (some ⟨w.heap.size + 1, 0, none⟩), .pointer (some ⟨w.heap.size, 0, none⟩)]) (by simp) (by simp [go_sem]) ?_
    refine (catchEnt_idle _ _ _).mono ?_
    rintro e u' w'' ⟨rfl, rfl, rfl⟩
    have ho4 : (w1.setRow (w.heap.size + 1) (entL x.term x.version x.server x.kind x.good B m c').toArray).heap[w.heap.size + 1]? = some (.cells (entL x.term x.version x.server x.kind x.good B m c').toArray 48 (0, 0)) := setRow_heap _ _ _ _ _ _ HOB.out
    refine ⟨.agg (entL x.term x.version x.server x.kind x.good B m c').toArray, results_cell_row rfl _ _ (w.heap.size + 1) 48 _ (0, 0) _ rfl ho4 Try.underlying48 rfl (infoEntL x.term x.version x.server x.kind x.good B m c'), ?_⟩
    refine ⟨B, m, c', by rw [HR.out], by rw [HR.out]; exact row_setRow HO.out _ HNE.out _, ?_, ?_⟩
    · rw [HR.out]
      exact ⟨_, A', _, _, HP.out.setRow (w.heap.size + 1) (by omega) (fun a e => by have := HS.out.lt HAB.out a e; omega) _, rfl, HS.out⟩
    · exact grown_setRow (grown_trans' ⟨HGA.out.os, HGA.out.tape, HGA.out.output, HGA.out.size, fun k hk _ => HGA.out.block k hk (by simp)⟩ HG.out) (by omega) _
end Go.Proofs.Ytdmpphioflcofaa.K
