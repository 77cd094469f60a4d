/- The contracts of the program's reader: Bytes. -/
import Derived.Test.YtjnhfmicadcmnaaWireReads
namespace Go.Proofs.Ytjnhfmicadcmnaa.K
open Go Go.RowKit

theorem own_low {w : World} {base base' : Nat} {e : TypeId} {size : Nat} {v : Value} {n : Nat} {xs : List Value} (h : w.ownsRow base e size v n xs) (hb : base' ≤ base) : w.ownsRow base' e size v n xs :=
  ⟨h.1, h.2.imp id fun ⟨g, cap, cur, h1, h2, h3⟩ => ⟨g, cap, cur, h1, Nat.le_trans hb h2, h3⟩⟩
theorem prdBytes_none {l : List (BitVec 8)} (h : (M.rdBytes (some l)).2 = none) : M.rdBytes (some l) = ([], none) := by
  unfold M.rdBytes at *
  split
  · rfl
  · rename_i hq
    simp only [hq] at h
    split at h
    · rename_i hc; rw [if_pos hc]
    · cases h
theorem catchByt_idle (p q : Addr) (w : World) :
    CallsD Try.prog 75 #[.pointer (some p), .pointer (some q)] .returning w fun e u' w' => e = .returned (.tuple #[]) ∧ u' = .returning ∧ w' = w := by
  refine callsD_of_wpS Try.func75 rfl fun c₀ cs hu => ?_
  apply wpS_seq
  apply wpS_region
  simp [wpOpsS, go_sem, recoverD, hu, Try.ntmps75, Exit.thenS]
  refine wpS_of_wp ?_
  rw [tmps21]
  go_wp2
  cases c₀
  simp_all [bodyPostS, results, Try.results75]
set_option maxHeartbeats 1000000 in
set_option maxRecDepth 100000 in
theorem catchByt_panicking (O R P : Nat) (x : Value) (A : Option Addr) (l : List (BitVec 8)) (n c : Nat) (w : World) (ho : w.cell? ⟨O, 0, none⟩ = some x) (hof : w.frozen? ⟨O, 0, none⟩ = false) (hr : w.cell? ⟨R, 0, none⟩ = some (.pointer (some ⟨P, 0, none⟩))) (hp : PrgR w P l A n c true false) (hOP : O ≠ P) :
    CallsD Try.prog 75 #[.pointer (some ⟨O, 0, none⟩), .pointer (some ⟨R, 0, none⟩)] (.panicking shortP) w fun e u' w' =>
      e = .returned (.tuple #[]) ∧ u' = .panicking [{ v := .iface 110 (.agg #[]), recovered := true }] ∧ w' = ((w.alloc (.cells #[] 110)).setCell ⟨O, 0, none⟩ (.slice none 0 0)).setCell ⟨P, 2, none⟩ (.bool true) := by
  have hta : ∀ w, (Instr.typeAssert (.iface 110 (.agg #[])) 20 110 true).run Try.prog w = .ok (.tuple #[.agg #[], .bool true]) w := fun _ => by kernel_rfl
  refine callsD_of_wpS Try.func75 rfl fun c₀ cs hu => ?_
  unfold shortP at hu
  have d0 : w.cell? ⟨P, 2, none⟩ = some (.bool false) := hp.cell rfl
  have hr' := cell_old (.cells #[] 110) hr
  have ho' := cell_old (.cells #[] 110) ho
  have hof' : (w.alloc (.cells #[] 110)).frozen? ⟨O, 0, none⟩ = false := (((Below.refl w.heap.size w).alloc (Nat.le_refl _) (.cells #[] 110)).frozen (p := ⟨O, 0, none⟩) (block_lt_of_cell ho)).trans hof
  have d2 : ((w.alloc (.cells #[] 110)).setCell ⟨O, 0, none⟩ (.slice none 0 0)).cell? ⟨P, 2, none⟩ = some (.bool false) := (cell_setCell_ne _ (fun e => hOP e.symm)).trans (cell_old _ d0)
  have f2 : (w.alloc (.cells #[] 110)).frozen? ⟨P, 2, none⟩ = false := (((Below.refl w.heap.size w).alloc (Nat.le_refl _) (.cells #[] 110)).frozen (p := ⟨P, 2, none⟩) (block_lt_of_cell d0)).trans (hp.free 2)
  clear hp d0 hr ho hof
  apply wpS_seq
  apply wpS_region
  simp [wpOpsS, go_sem, recoverD, hu, Try.ntmps75, Exit.thenS]
  refine wpS_of_wp ?_
  rw [tmps21]
  go_wp2
  cases c₀
  simp_all [bodyPostS, results, Try.results75]
theorem closByt_ok (Bx P : Nat) (l : List (BitVec 8)) (A : Option Addr) (n c : Nat) (made bad : Bool) (w : World) (h : PrgR w P l A n c made bad) (hb : w.cell? ⟨Bx, 0, none⟩ = some (.pointer (some ⟨P, 0, none⟩))) (l' : List (BitVec 8)) (hAB : ∀ a, A = some a → a.block < w.heap.size) (hn : (M.rdBytes (some l)).2 = some l') :
    Calls Try.prog 46 #[.pointer (some ⟨Bx, 0, none⟩)] w (BytOk w P l A made bad) := by
  have H := Lib.hid h
  clear h
  go_enter Try.func46, Try.ntmps46
  go_wp2_with fail
  refine (bytes_ok P l A n c made bad w l' H.out hAB hn).mono ?_
  rintro e w1 ⟨B, m, c', A', n2, c2, l2, rfl, hrest⟩
  have HREST := Lib.hid hrest
  clear hrest
  go_wp2
  go_ret
  exact ⟨B, m, c', A', n2, c2, l2, rfl, HREST.out⟩
theorem closByt_bad (Bx P : Nat) (l : List (BitVec 8)) (A : Option Addr) (n c : Nat) (made bad : Bool) (w : World) (h : PrgR w P l A n c made bad) (hb : w.cell? ⟨Bx, 0, none⟩ = some (.pointer (some ⟨P, 0, none⟩))) (hn : (M.rdBytes (some l)).2 = none) :
    Calls Try.prog 46 #[.pointer (some ⟨Bx, 0, none⟩)] w (PBad w P made bad) := by
  have H := Lib.hid h
  clear h
  go_enter Try.func46, Try.ntmps46
  go_wp2_with fail
  refine (bytes_bad P l A n c made bad w H.out hn).mono ?_
  rintro e w1 ⟨rfl, hp, hg⟩
  have HP := Lib.hid hp; have HG := Lib.hid hg
  clear hp hg
  go_wp2
  exact ⟨rfl, rfl, HP.out, HG.out⟩

/-- bytes were got, or nothing -/
def GotByt (w : World) (P : Nat) (s : M.Rdr) (A0 : Option Addr) (e : Ending) (w' : World) : Prop := ∃ B m c, e = .returned (.slice B m c) ∧ w'.ownsRow w.heap.size 5 1 (.slice B m c) m (bv (M.rdBytes s).1) ∧ PrgN w' P (M.rdBytes s).2 A0 ∧ w.grownBy w' (some P)
set_option maxHeartbeats 1000000 in
set_option maxRecDepth 100000 in
theorem readsByt_ok (Bx P : Nat) (l : List (BitVec 8)) (A : Option Addr) (n c : Nat) (w : World) (h : PrgR w P l A n c true false) (hb : w.cell? ⟨Bx, 0, none⟩ = some (.pointer (some ⟨P, 0, none⟩))) (l' : List (BitVec 8)) (hn : (M.rdBytes (some l)).2 = some l') (hAB : ∀ a, A = some a → a.block < w.heap.size) (hBP : Bx ≠ P) :
    Calls Try.prog 45 #[.pointer (some ⟨P, 0, none⟩), .func (.func 46) #[] #[.pointer (some ⟨Bx, 0, none⟩)]] w (GotByt w P (some l) A) := by
  have hmf : ∀ (fn : Fn) (first cap : Array Value) (w : World), (Instr.makeFunc fn first cap).run Try.prog w = .ok (.func fn first cap) w := fun _ _ _ _ => rfl
  have hPl := h.lt
  have hBl := block_lt_of_cell hb
  have hga : w.grownBy ((w.alloc (.cells #[.pointer (some ⟨P, 0, none⟩)] 38)).alloc (.cells #[.slice none 0 0] 22)) none := ⟨rfl, rfl, rfl, by simp; omega, fun k hk _ => (heap_alloc_old _ _ (by simp; omega)).trans (heap_alloc_old w _ hk)⟩
  have h2 := h.grown hga (by simp) (fun _ _ => by simp)
  have hb2 := hga.cell hb (by simp)
  have ho2 : ((w.alloc (.cells #[.pointer (some ⟨P, 0, none⟩)] 38)).alloc (.cells #[.slice none 0 0] 22)).heap[w.heap.size + 1]? = some (.cells #[.slice none 0 0] 22 (0, 0)) := heap_alloc2_new w _ _
  have hsz2 : ((w.alloc (.cells #[.pointer (some ⟨P, 0, none⟩)] 38)).alloc (.cells #[.slice none 0 0] 22)).heap.size = w.heap.size + 2 := by simp
  have hab2 : ∀ a, A = some a → a.block < ((w.alloc (.cells #[.pointer (some ⟨P, 0, none⟩)] 38)).alloc (.cells #[.slice none 0 0] 22)).heap.size := fun a e => by have := hAB a e; rw [hsz2]; omega
  have H := Lib.hid h2; have HB := Lib.hid hb2; have HGA := Lib.hid hga; have HO2 := Lib.hid ho2; have HSZ2 := Lib.hid hsz2; have HAB := Lib.hid hAB; have HAB2 := Lib.hid hab2
  clear hab2
  clear h hb h2 hb2 hga ho2 hsz2 hAB
  go_enter_defers Try.func45, Try.ntmps45
  go_wp2_with fail
  refine (pBad_any P l A n c false _ H.out).mono ?_
  rintro e w1 ⟨rfl, rfl⟩
  go_wp2_with fail
  refine (closByt_ok Bx P l A n c true false _ H.out HB.out l' HAB2.out hn).mono ?_
  rintro e w1 ⟨B, m, c', A', n2, c2, l2, rfl, hown, hl2, hp, hA', hg⟩
  have hob : w1.heap[w.heap.size + 1]? = some (.cells #[.slice none 0 0] 22 (0, 0)) := (hg.block _ (by rw [HSZ2.out]; omega) (by simp; omega)).trans HO2.out
  have hoc : w1.cell? ⟨w.heap.size + 1, 0, none⟩ = some (.slice none 0 0) := block_cell (xs := [.slice none 0 0]) hob rfl
  have hof : w1.frozen? ⟨w.heap.size + 1, 0, none⟩ = false := frozen_of_row w1 _ 0 _ _ hob
  have HP := Lib.hid hp; have HA' := Lib.hid hA'; have HG := Lib.hid hg; have HOB := Lib.hid hob; have HOWN := Lib.hid hown; have HL2 := Lib.hid hl2
  clear hp hA' hg hob hown hl2
  go_wp2
  have hoc2 : (w1.setCell ⟨w.heap.size + 1, 0, none⟩ (.slice B m c')).cell? ⟨w.heap.size + 1, 0, none⟩ = some (.slice B m c') := World.cell?_setCell_same _ _ _ hoc
  refine leaves_cons (f := 75) (args := #[.pointer (some ⟨w.heap.size + 1, 0, none⟩), .pointer (some ⟨w.heap.size, 0, none⟩)]) (by simp) (by simp [go_sem]) ?_
  refine (catchByt_idle _ _ _).mono ?_
  rintro e u' w'' ⟨rfl, rfl, rfl⟩
  have hfin : GotByt w P (some l) A (.returned (.slice B m c')) (w1.setCell ⟨w.heap.size + 1, 0, none⟩ (.slice B m c')) := by
    refine ⟨B, m, c', rfl, ?_, ?_, ?_⟩
    · have hlt := HOWN.out.lt
      rw [HSZ2.out] at hlt
      refine own_low (World.ownsRow.kept HOWN.out (grownBy_setCell w1 (w.heap.size + 1) 0 _) (.inr fun e => ?_)) (by rw [HSZ2.out]; omega)
      have := hlt _ e
      omega
    · rw [HL2.out]
      refine ⟨_, A', _, _, HP.out.grown (grownBy_setCell w1 (w.heap.size + 1) 0 _) (by simp; omega) (fun a e => ?_), rfl, HA'.out⟩
      obtain ⟨a0, e0, h0⟩ := HA'.out a e
      have := HAB.out a0 e0
      simp; omega
    · refine grown_more (X := w.heap.size + 1) (grown_trans' ⟨HGA.out.os, HGA.out.tape, HGA.out.output, HGA.out.size, fun k hk _ => HGA.out.block k hk (by simp)⟩ HG.out) (grownBy_setCell w1 (w.heap.size + 1) 0 _) (by omega)
  have HFIN := Lib.hid hfin
  clear hfin
  simp [Leaves, settle, results, Try.results45, go_sem, hoc2]
  exact HFIN.out

set_option maxHeartbeats 1000000 in
set_option maxRecDepth 100000 in
theorem readsByt_bad (Bx P : Nat) (l : List (BitVec 8)) (A : Option Addr) (n c : Nat) (w : World) (h : PrgR w P l A n c true false) (hb : w.cell? ⟨Bx, 0, none⟩ = some (.pointer (some ⟨P, 0, none⟩))) (hn : (M.rdBytes (some l)).2 = none) (hBP : Bx ≠ P) :
    Calls Try.prog 45 #[.pointer (some ⟨P, 0, none⟩), .func (.func 46) #[] #[.pointer (some ⟨Bx, 0, none⟩)]] w (GotByt w P (some l) A) := by
  have hmf : ∀ (fn : Fn) (first cap : Array Value) (w : World), (Instr.makeFunc fn first cap).run Try.prog w = .ok (.func fn first cap) w := fun _ _ _ _ => rfl
  have hPl := h.lt
  have hlen := h.len
  have hga : w.grownBy ((w.alloc (.cells #[.pointer (some ⟨P, 0, none⟩)] 38)).alloc (.cells #[.slice none 0 0] 22)) none := ⟨rfl, rfl, rfl, by simp; omega, fun k hk _ => (heap_alloc_old _ _ (by simp; omega)).trans (heap_alloc_old w _ hk)⟩
  have h2 := h.grown hga (by simp) (fun _ _ => by simp)
  have hb2 := hga.cell hb (by simp)
  have ho2 : ((w.alloc (.cells #[.pointer (some ⟨P, 0, none⟩)] 38)).alloc (.cells #[.slice none 0 0] 22)).heap[w.heap.size + 1]? = some (.cells #[.slice none 0 0] 22 (0, 0)) := heap_alloc2_new w _ _
  have hr2 : ((w.alloc (.cells #[.pointer (some ⟨P, 0, none⟩)] 38)).alloc (.cells #[.slice none 0 0] 22)).heap[w.heap.size]? = some (.cells #[.pointer (some ⟨P, 0, none⟩)] 38 (0, 0)) := heap_alloc2_old w _ _
  have hsz2 : ((w.alloc (.cells #[.pointer (some ⟨P, 0, none⟩)] 38)).alloc (.cells #[.slice none 0 0] 22)).heap.size = w.heap.size + 2 := by simp
  have H := Lib.hid h2; have HB := Lib.hid hb2; have HGA := Lib.hid hga; have HO2 := Lib.hid ho2; have HR2 := Lib.hid hr2; have HSZ2 := Lib.hid hsz2; have HLEN := Lib.hid hlen
  clear h hb h2 hb2 hga ho2 hr2 hsz2 hlen
  go_enter_defers Try.func45, Try.ntmps45
  go_wp2_with fail
  refine (pBad_any P l A n c false _ H.out).mono ?_
  rintro e w1 ⟨rfl, rfl⟩
  go_wp2_with fail
  refine (closByt_bad Bx P l A n c true false _ H.out HB.out hn).mono ?_
  rintro e w1 ⟨rfl, ⟨l1, A1, n1, c1, hp⟩, hg⟩
  have hob : w1.heap[w.heap.size + 1]? = some (.cells #[.slice none 0 0] 22 (0, 0)) := (hg.block _ (by rw [HSZ2.out]; omega) (by simp; omega)).trans HO2.out
  have hrb : w1.heap[w.heap.size]? = some (.cells #[.pointer (some ⟨P, 0, none⟩)] 38 (0, 0)) := (hg.block _ (by rw [HSZ2.out]; omega) (by simp; omega)).trans HR2.out
  have hoc : w1.cell? ⟨w.heap.size + 1, 0, none⟩ = some (.slice none 0 0) := block_cell (xs := [.slice none 0 0]) hob rfl
  have hrc : w1.cell? ⟨w.heap.size, 0, none⟩ = some (.pointer (some ⟨P, 0, none⟩)) := block_cell (xs := [.pointer (some ⟨P, 0, none⟩)]) hrb rfl
  have hof : w1.frozen? ⟨w.heap.size + 1, 0, none⟩ = false := frozen_of_row w1 _ 0 _ _ hob
  have HP := Lib.hid hp; have HG := Lib.hid hg; have HOC := Lib.hid hoc; have HRC := Lib.hid hrc; have HOF := Lib.hid hof
  clear hp hg hob hrb hoc hrc hof
  go_wp2
  refine leaves_cons (f := 75) (args := #[.pointer (some ⟨w.heap.size + 1, 0, none⟩), .pointer (some ⟨w.heap.size, 0, none⟩)]) (by simp) (by simp [go_sem]) ?_
  refine (catchByt_panicking (w.heap.size + 1) w.heap.size P (.slice none 0 0) A1 l1 n1 c1 _ HOC.out HOF.out HRC.out HP.out (by omega)).mono ?_
  rintro e u' w'' ⟨rfl, rfl, rfl⟩
  have hPl1 := HP.out.lt
  have hw2 : w1.grownBy (w1.alloc (.cells #[] 110)) none := World.grownBy_alloc w1 _ _
  have hlt1 := block_lt_of_cell HOC.out
  have hoc2 : (((w1.alloc (.cells #[] 110)).setCell ⟨w.heap.size + 1, 0, none⟩ (.slice none 0 0)).setCell ⟨P, 2, none⟩ (.bool true)).cell? ⟨w.heap.size + 1, 0, none⟩ = some (.slice none 0 0) := (cell_setCell_ne _ (by omega)).trans (World.cell?_setCell_same _ _ _ (cell_old _ HOC.out))
  have hfin : GotByt w P (some l) A (.returned (.slice none 0 0)) (((w1.alloc (.cells #[] 110)).setCell ⟨w.heap.size + 1, 0, none⟩ (.slice none 0 0)).setCell ⟨P, 2, none⟩ (.bool true)) := by
    have hr : M.rdBytes (some l) = ([], none) := prdBytes_none hn
    refine ⟨none, 0, 0, rfl, ?_, ?_, ?_⟩
    · rw [hr]; exact World.ownsRow_nil _ _ _ _
    · rw [hr]
      obtain ⟨t, hblk⟩ := HP.out.blk
      have hblk2 : ((w1.alloc (.cells #[] 110)).setCell ⟨w.heap.size + 1, 0, none⟩ (.slice none 0 0)).heap[P]? = some (.cells (readP A1 n1 c1 true false).toArray t (0, 0)) := (heap_setCell_other _ ⟨w.heap.size + 1, 0, none⟩ P _ (by simp; omega)).trans ((heap_alloc_old w1 _ hPl1).trans hblk)
      exact ⟨[], A1, n1, c1, t, block_set hblk2 2 _⟩
    · have g1 : w.grownBy w1 (some P) := grown_trans' ⟨HGA.out.os, HGA.out.tape, HGA.out.output, HGA.out.size, fun k hk _ => HGA.out.block k hk (by simp)⟩ HG.out
      have g2 : w.grownBy (w1.alloc (.cells #[] 110)) (some P) := grown_trans' g1 (World.grownBy_alloc w1 _ _)
      have g3 := grown_more g2 (grownBy_setCell (w1.alloc (.cells #[] 110)) (w.heap.size + 1) 0 (.slice none 0 0)) (by omega)
      exact grown_trans' g3 (grownBy_setCell _ P 2 _)
  have HFIN := Lib.hid hfin
  clear hfin
  simp [Leaves, settle, results, Try.results45, go_sem, hoc2]
  exact HFIN.out

/-- nothing is read of what is bad -/
theorem readsByt_early (p : Option Addr) (Bx : Addr) (w : World) (hbad : ∀ w1, w.grownBy w1 none → Calls Try.prog 33 #[.pointer p] w1 fun e w' => e = .returned (.bool true) ∧ w1 = w') :
    Calls Try.prog 45 #[.pointer p, .func (.func 46) #[] #[.pointer (some Bx)]] w fun e w' => e = .returned (.slice none 0 0) ∧ Below w.heap.size w w' := by
  have hga : w.grownBy ((w.alloc (.cells #[.pointer p] 38)).alloc (.cells #[.slice none 0 0] 22)) none := ⟨rfl, rfl, rfl, by simp; omega, fun k hk _ => (heap_alloc_old _ _ (by simp; omega)).trans (heap_alloc_old w _ hk)⟩
  have hb := hbad _ hga
  have hbel : Below w.heap.size w ((w.alloc (.cells #[.pointer p] 38)).alloc (.cells #[.slice none 0 0] 22)) := ((Below.refl _ _).alloc (Nat.le_refl _) _).alloc (by simp) _
  have HB := Lib.hid hb; have HBEL := Lib.hid hbel
  clear hbad hga hb hbel
  go_enter_defers Try.func45, Try.ntmps45
  go_wp2_with fail
  refine HB.out.mono ?_
  rintro e w1 ⟨rfl, rfl⟩
  go_wp2
  simp [bodyPostD, Leaves, settle, results, Try.results45, go_sem]
  exact HBEL.out

set_option maxHeartbeats 1000000 in
theorem pBytes_early (p : Option Addr) (w : World) (hbad : ∀ w1, w.grownBy w1 none → Calls Try.prog 33 #[.pointer p] w1 fun e w' => e = .returned (.bool true) ∧ w1 = w') :
    Calls Try.prog 28 #[.pointer p] w fun e w' => e = .returned (.slice none 0 0) ∧ Below w.heap.size w w' := by
  have hmf : ∀ (fn : Fn) (first cap : Array Value) (w : World), (Instr.makeFunc fn first cap).run Try.prog w = .ok (.func fn first cap) w := fun _ _ _ _ => rfl
  have hga : w.grownBy (w.alloc (.cells #[.pointer p] 38)) none := World.grownBy_alloc w _ _
  have hbel : Below w.heap.size w (w.alloc (.cells #[.pointer p] 38)) := (Below.refl _ _).alloc (Nat.le_refl _) _
  have hb := readsByt_early p ⟨w.heap.size, 0, none⟩ (w.alloc (.cells #[.pointer p] 38)) (fun w1 h1 => hbad w1 (grown_trans' hga h1))
  have HB := Lib.hid hb; have HBEL := Lib.hid hbel
  clear hbad hga hb hbel
  go_enter Try.func28, Try.ntmps28
  go_wp2_with fail
  refine HB.out.mono ?_
  rintro e w1 ⟨rfl, hb1⟩
  have HB1 := Lib.hid (HBEL.out.trans (hb1.mono (by simp)))
  clear hb1
  go_wp2
  go_ret
  exact ⟨rfl, HB1.out⟩

set_option maxHeartbeats 1000000 in
theorem pBytes_any (P : Nat) (s : M.Rdr) (A0 : Option Addr) (w : World) (h : PrgN w P s A0) (hAB : ∀ a, A0 = some a → a.block < w.heap.size) :
    Calls Try.prog 28 #[.pointer (some ⟨P, 0, none⟩)] w (GotByt w P s A0) := by
  obtain ⟨l, A, n, c, h⟩ := h
  cases s with
  | none =>
    have h' : ∃ t, w.heap[P]? = some (.cells (readP A n c true true).toArray t (0, 0)) := h
    have hPl : P < w.heap.size := by obtain ⟨t, hb⟩ := h'; exact (Array.getElem?_eq_some_iff.1 hb).1
    refine (pBytes_early (some ⟨P, 0, none⟩) w (fun w1 hg => pBad_bad P A n c w1 ?_)).mono ?_
    · obtain ⟨t, hb⟩ := h'
      exact ⟨t, (hg.block P hPl (by simp)).trans hb⟩
    · rintro e w' ⟨rfl, hb⟩
      obtain ⟨t, hb'⟩ := h'
      exact ⟨none, 0, 0, rfl, World.ownsRow_nil _ _ _ _, ⟨l, A, n, c, t, (hb.block P hPl).trans hb'⟩, ⟨hb.os, hb.tape, hb.output, hb.size, fun k hk _ => hb.block k hk⟩⟩
  | some l' =>
    obtain ⟨hp, rfl, hA⟩ := h
    have hmf : ∀ (fn : Fn) (first cap : Array Value) (w : World), (Instr.makeFunc fn first cap).run Try.prog w = .ok (.func fn first cap) w := fun _ _ _ _ => rfl
    have hPl := hp.lt
    have hga : w.grownBy (w.alloc (.cells #[.pointer (some ⟨P, 0, none⟩)] 38)) none := World.grownBy_alloc w _ _
    have hp2 := hp.grown hga (by simp) (fun _ _ => by simp)
    have hbx : (w.alloc (.cells #[.pointer (some ⟨P, 0, none⟩)] 38)).cell? ⟨w.heap.size, 0, none⟩ = some (.pointer (some ⟨P, 0, none⟩)) := by rw [World.cell?_alloc_new]; rfl
    have hcall : Calls Try.prog 45 #[.pointer (some ⟨P, 0, none⟩), .func (.func 46) #[] #[.pointer (some ⟨w.heap.size, 0, none⟩)]] (w.alloc (.cells #[.pointer (some ⟨P, 0, none⟩)] 38)) (GotByt (w.alloc (.cells #[.pointer (some ⟨P, 0, none⟩)] 38)) P (some l) A) := by
      cases hn : (M.rdBytes (some l)).2 with
      | none => exact readsByt_bad w.heap.size P l A n c _ hp2 hbx hn (by omega)
      | some l' => exact readsByt_ok w.heap.size P l A n c _ hp2 hbx l' hn (fun a e => by obtain ⟨a0, e0, h0⟩ := hA a e; have := hAB a0 e0; simp; omega) (by omega)
    have HC := Lib.hid hcall; have HA := Lib.hid hA; have HGA := Lib.hid hga
    clear hcall hA hga hp2 hbx hp hAB
    go_enter Try.func28, Try.ntmps28
    go_wp2_with fail
    refine HC.out.mono ?_
    rintro e w1 ⟨B, m, c', rfl, hown, ⟨l2, A2, n2, c2, hp⟩, hg⟩
    have hfin : GotByt w P (some l) A0 (.returned (.slice B m c')) w1 := by
      refine ⟨B, m, c', rfl, own_low hown (by simp), ⟨l2, A2, n2, c2, ?_⟩, grown_trans' ⟨HGA.out.os, HGA.out.tape, HGA.out.output, HGA.out.size, fun k hk _ => HGA.out.block k hk (by simp)⟩ hg⟩
      cases hs : (M.rdBytes (some l)).2 with
      | none => rw [hs] at hp; exact hp
      | some l3 =>
        rw [hs] at hp
        refine ⟨hp.1, hp.2.1, fun a e => ?_⟩
        obtain ⟨a1, e1, h1⟩ := hp.2.2 a e
        obtain ⟨a0, e0, h0⟩ := HA.out a1 e1
        exact ⟨a0, e0, h1.trans h0⟩
    have HFIN := Lib.hid hfin
    clear hfin hp hg hown
    go_wp2
    go_ret
    exact HFIN.out
end Go.Proofs.Ytjnhfmicadcmnaa.K
