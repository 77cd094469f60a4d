/- Merged: WireReadsB, WireNewB, BunGet1, Sets, BunMake1, BunPubM, BunClos, BunPub, KitCopyD, KitBunCopy, BunAwakeMath. -/
import Derived.Test.YtidcfjmibljkeaaGreatDoorBq7
import Derived.Orders
import Derived.RegionTactic
import Derived.Deep.DeepCutAuto
/- The contracts of the program's reader: Bytes. -/
namespace Go.Proofs.YtidcfjmibljkeaaGreatDoor.K
open Go Go.RowKit

theorem own_low {w : World} {base base' : Nat} {e : TypeId} {size : Nat} {v : Value} {n : Nat} {xs : List Value} (h : w.ownsRow base e size v n xs) (hb : base' ≤ base) : w.ownsRow base' e size v n xs :=
  ⟨h.1, h.2.imp id fun ⟨g, cap, cur, h1, h2, h3⟩ => ⟨g, cap, cur, h1, Nat.le_trans hb h2, h3⟩⟩
theorem prdBytes_none {l : List (BitVec 8)} (h : (M.rdBytes (some l)).2 = none) : M.rdBytes (some l) = ([], none) := by
  unfold M.rdBytes at *
  split
  · rfl
  · rename_i hq
    simp only [hq] at h
    split at h
    · rename_i hc; rw [if_pos hc]
    · cases h
theorem catchRdByt_idle (p q : Addr) (w : World) :
    CallsD Tryz.prog 136 #[.pointer (some p), .pointer (some q)] .returning w fun e u' w' => e = .returned (.tuple #[]) ∧ u' = .returning ∧ w' = w := by
  refine callsD_of_wpS Tryz.func136 rfl fun c₀ cs hu => ?_
  apply wpS_seq
  apply wpS_region
  simp [wpOpsS, go_sem, recoverD, hu, Tryz.ntmps136, Exit.thenS]
  refine wpS_of_wp ?_
  rw [tmps21]
  go_wp2
  cases c₀
  simp_all [bodyPostS, results, Tryz.results136]
set_option maxHeartbeats 1000000 in
set_option maxRecDepth 100000 in
theorem catchRdByt_panicking (O R P : Nat) (x : Value) (A : Option Addr) (l : List (BitVec 8)) (n c : Nat) (w : World) (ho : w.cell? ⟨O, 0, none⟩ = some x) (hof : w.frozen? ⟨O, 0, none⟩ = false) (hr : w.cell? ⟨R, 0, none⟩ = some (.pointer (some ⟨P, 0, none⟩))) (hp : PrgR w P l A n c true false) (hOP : O ≠ P) :
    CallsD Tryz.prog 136 #[.pointer (some ⟨O, 0, none⟩), .pointer (some ⟨R, 0, none⟩)] (.panicking shortP) w fun e u' w' =>
      e = .returned (.tuple #[]) ∧ u' = .panicking [{ v := .iface 215 (.agg #[]), recovered := true }] ∧ w' = ((w.alloc (.cells #[] 215)).setCell ⟨O, 0, none⟩ (.slice none 0 0)).setCell ⟨P, 2, none⟩ (.bool true) := by
  have hta : ∀ w, (Instr.typeAssert (.iface 215 (.agg #[])) 20 215 true).run Tryz.prog w = .ok (.tuple #[.agg #[], .bool true]) w := fun _ => by kernel_rfl
  refine callsD_of_wpS Tryz.func136 rfl fun c₀ cs hu => ?_
  unfold shortP at hu
  have d0 : w.cell? ⟨P, 2, none⟩ = some (.bool false) := hp.cell rfl
  have hr' := cell_old (.cells #[] 215) hr
  have ho' := cell_old (.cells #[] 215) ho
  have hof' : (w.alloc (.cells #[] 215)).frozen? ⟨O, 0, none⟩ = false := (((Below.refl w.heap.size w).alloc (Nat.le_refl _) (.cells #[] 215)).frozen (p := ⟨O, 0, none⟩) (block_lt_of_cell ho)).trans hof
  have d2 : ((w.alloc (.cells #[] 215)).setCell ⟨O, 0, none⟩ (.slice none 0 0)).cell? ⟨P, 2, none⟩ = some (.bool false) := (cell_setCell_ne _ (fun e => hOP e.symm)).trans (cell_old _ d0)
  have f2 : (w.alloc (.cells #[] 215)).frozen? ⟨P, 2, none⟩ = false := (((Below.refl w.heap.size w).alloc (Nat.le_refl _) (.cells #[] 215)).frozen (p := ⟨P, 2, none⟩) (block_lt_of_cell d0)).trans (hp.free 2)
  clear hp d0 hr ho hof
  apply wpS_seq
  apply wpS_region
  simp [wpOpsS, go_sem, recoverD, hu, Tryz.ntmps136, Exit.thenS]
  refine wpS_of_wp ?_
  rw [tmps21]
  go_wp2
  cases c₀
  simp_all [bodyPostS, results, Tryz.results136]
theorem closByt_ok (Bx P : Nat) (l : List (BitVec 8)) (A : Option Addr) (n c : Nat) (made bad : Bool) (w : World) (h : PrgR w P l A n c made bad) (hb : w.cell? ⟨Bx, 0, none⟩ = some (.pointer (some ⟨P, 0, none⟩))) (l' : List (BitVec 8)) (hAB : ∀ a, A = some a → a.block < w.heap.size) (hn : (M.rdBytes (some l)).2 = some l') :
    Calls Tryz.prog 100 #[.pointer (some ⟨Bx, 0, none⟩)] w (BytOk w P l A made bad) := by
  have H := Lib.hid h
  clear h
  go_enter Tryz.func100, Tryz.ntmps100
  go_wp2_with fail
  refine (bytes_ok P l A n c made bad w l' H.out hAB hn).mono ?_
  rintro e w1 ⟨B, m, c', A', n2, c2, l2, rfl, hrest⟩
  have HREST := Lib.hid hrest
  clear hrest
  go_wp2
  go_ret
  exact ⟨B, m, c', A', n2, c2, l2, rfl, HREST.out⟩
theorem closByt_bad (Bx P : Nat) (l : List (BitVec 8)) (A : Option Addr) (n c : Nat) (made bad : Bool) (w : World) (h : PrgR w P l A n c made bad) (hb : w.cell? ⟨Bx, 0, none⟩ = some (.pointer (some ⟨P, 0, none⟩))) (hn : (M.rdBytes (some l)).2 = none) :
    Calls Tryz.prog 100 #[.pointer (some ⟨Bx, 0, none⟩)] w (PBad w P made bad) := by
  have H := Lib.hid h
  clear h
  go_enter Tryz.func100, Tryz.ntmps100
  go_wp2_with fail
  refine (bytes_bad P l A n c made bad w H.out hn).mono ?_
  rintro e w1 ⟨rfl, hp, hg⟩
  have HP := Lib.hid hp; have HG := Lib.hid hg
  clear hp hg
  go_wp2
  exact ⟨rfl, rfl, HP.out, HG.out⟩

/-- bytes were got, or nothing -/
def GotByt (w : World) (P : Nat) (s : M.Rdr) (A0 : Option Addr) (e : Ending) (w' : World) : Prop := ∃ B m c, e = .returned (.slice B m c) ∧ w'.ownsRow w.heap.size 5 1 (.slice B m c) m (bv (M.rdBytes s).1) ∧ PrgN w' P (M.rdBytes s).2 A0 ∧ w.grownBy w' (some P)
set_option maxHeartbeats 1000000 in
set_option maxRecDepth 100000 in
theorem readsByt_ok (Bx P : Nat) (l : List (BitVec 8)) (A : Option Addr) (n c : Nat) (w : World) (h : PrgR w P l A n c true false) (hb : w.cell? ⟨Bx, 0, none⟩ = some (.pointer (some ⟨P, 0, none⟩))) (l' : List (BitVec 8)) (hn : (M.rdBytes (some l)).2 = some l') (hAB : ∀ a, A = some a → a.block < w.heap.size) (hBP : Bx ≠ P) :
    Calls Tryz.prog 99 #[.pointer (some ⟨P, 0, none⟩), .func (.func 100) #[] #[.pointer (some ⟨Bx, 0, none⟩)]] w (GotByt w P (some l) A) := by
  have hmf : ∀ (fn : Fn) (first cap : Array Value) (w : World), (Instr.makeFunc fn first cap).run Tryz.prog w = .ok (.func fn first cap) w := fun _ _ _ _ => rfl
  have hPl := h.lt
  have hBl := block_lt_of_cell hb
  have hga : w.grownBy ((w.alloc (.cells #[.pointer (some ⟨P, 0, none⟩)] 87)).alloc (.cells #[.slice none 0 0] 22)) none := ⟨rfl, rfl, rfl, by simp; omega, fun k hk _ => (heap_alloc_old _ _ (by simp; omega)).trans (heap_alloc_old w _ hk)⟩
  have h2 := h.grown hga (by simp) (fun _ _ => by simp)
  have hb2 := hga.cell hb (by simp)
  have ho2 : ((w.alloc (.cells #[.pointer (some ⟨P, 0, none⟩)] 87)).alloc (.cells #[.slice none 0 0] 22)).heap[w.heap.size + 1]? = some (.cells #[.slice none 0 0] 22 (0, 0)) := heap_alloc2_new w _ _
  have hsz2 : ((w.alloc (.cells #[.pointer (some ⟨P, 0, none⟩)] 87)).alloc (.cells #[.slice none 0 0] 22)).heap.size = w.heap.size + 2 := by simp
  have hab2 : ∀ a, A = some a → a.block < ((w.alloc (.cells #[.pointer (some ⟨P, 0, none⟩)] 87)).alloc (.cells #[.slice none 0 0] 22)).heap.size := fun a e => by have := hAB a e; rw [hsz2]; omega
  have H := Lib.hid h2; have HB := Lib.hid hb2; have HGA := Lib.hid hga; have HO2 := Lib.hid ho2; have HSZ2 := Lib.hid hsz2; have HAB := Lib.hid hAB; have HAB2 := Lib.hid hab2
  clear hab2
  clear h hb h2 hb2 hga ho2 hsz2 hAB
  go_enter_defers Tryz.func99, Tryz.ntmps99
  go_wp2_with fail
  refine (pBad_any P l A n c false _ H.out).mono ?_
  rintro e w1 ⟨rfl, rfl⟩
  go_wp2_with fail
  refine (closByt_ok Bx P l A n c true false _ H.out HB.out l' HAB2.out hn).mono ?_
  rintro e w1 ⟨B, m, c', A', n2, c2, l2, rfl, hown, hl2, hp, hA', hg⟩
  have hob : w1.heap[w.heap.size + 1]? = some (.cells #[.slice none 0 0] 22 (0, 0)) := (hg.block _ (by rw [HSZ2.out]; omega) (by simp; omega)).trans HO2.out
  have hoc : w1.cell? ⟨w.heap.size + 1, 0, none⟩ = some (.slice none 0 0) := block_cell (xs := [.slice none 0 0]) hob rfl
  have hof : w1.frozen? ⟨w.heap.size + 1, 0, none⟩ = false := frozen_of_row w1 _ 0 _ _ hob
  have HP := Lib.hid hp; have HA' := Lib.hid hA'; have HG := Lib.hid hg; have HOB := Lib.hid hob; have HOWN := Lib.hid hown; have HL2 := Lib.hid hl2
  clear hp hA' hg hob hown hl2
  go_wp2
  have hoc2 : (w1.setCell ⟨w.heap.size + 1, 0, none⟩ (.slice B m c')).cell? ⟨w.heap.size + 1, 0, none⟩ = some (.slice B m c') := World.cell?_setCell_same _ _ _ hoc
  refine leaves_cons (f := 136) (args := #[.pointer (some ⟨w.heap.size + 1, 0, none⟩), .pointer (some ⟨w.heap.size, 0, none⟩)]) (by simp) (by simp [go_sem]) ?_
  refine (catchRdByt_idle _ _ _).mono ?_
  rintro e u' w'' ⟨rfl, rfl, rfl⟩
  have hfin : GotByt w P (some l) A (.returned (.slice B m c')) (w1.setCell ⟨w.heap.size + 1, 0, none⟩ (.slice B m c')) := by
    refine ⟨B, m, c', rfl, ?_, ?_, ?_⟩
    · have hlt := HOWN.out.lt
      rw [HSZ2.out] at hlt
      refine own_low (World.ownsRow.kept HOWN.out (grownBy_setCell w1 (w.heap.size + 1) 0 _) (.inr fun e => ?_)) (by rw [HSZ2.out]; omega)
      have := hlt _ e
      omega
    · rw [HL2.out]
      refine ⟨_, A', _, _, HP.out.grown (grownBy_setCell w1 (w.heap.size + 1) 0 _) (by simp; omega) (fun a e => ?_), rfl, HA'.out⟩
      obtain ⟨a0, e0, h0⟩ := HA'.out a e
      have := HAB.out a0 e0
      simp; omega
    · refine grown_more (X := w.heap.size + 1) (grown_trans' ⟨HGA.out.os, HGA.out.tape, HGA.out.output, HGA.out.size, fun k hk _ => HGA.out.block k hk (by simp)⟩ HG.out) (grownBy_setCell w1 (w.heap.size + 1) 0 _) (by omega)
  have HFIN := Lib.hid hfin
  clear hfin
  simp [Leaves, settle, results, Tryz.results99, go_sem, hoc2]
  exact HFIN.out

set_option maxHeartbeats 1000000 in
set_option maxRecDepth 100000 in
theorem readsByt_bad (Bx P : Nat) (l : List (BitVec 8)) (A : Option Addr) (n c : Nat) (w : World) (h : PrgR w P l A n c true false) (hb : w.cell? ⟨Bx, 0, none⟩ = some (.pointer (some ⟨P, 0, none⟩))) (hn : (M.rdBytes (some l)).2 = none) (hBP : Bx ≠ P) :
    Calls Tryz.prog 99 #[.pointer (some ⟨P, 0, none⟩), .func (.func 100) #[] #[.pointer (some ⟨Bx, 0, none⟩)]] w (GotByt w P (some l) A) := by
  have hmf : ∀ (fn : Fn) (first cap : Array Value) (w : World), (Instr.makeFunc fn first cap).run Tryz.prog w = .ok (.func fn first cap) w := fun _ _ _ _ => rfl
  have hPl := h.lt
  have hlen := h.len
  have hga : w.grownBy ((w.alloc (.cells #[.pointer (some ⟨P, 0, none⟩)] 87)).alloc (.cells #[.slice none 0 0] 22)) none := ⟨rfl, rfl, rfl, by simp; omega, fun k hk _ => (heap_alloc_old _ _ (by simp; omega)).trans (heap_alloc_old w _ hk)⟩
  have h2 := h.grown hga (by simp) (fun _ _ => by simp)
  have hb2 := hga.cell hb (by simp)
  have ho2 : ((w.alloc (.cells #[.pointer (some ⟨P, 0, none⟩)] 87)).alloc (.cells #[.slice none 0 0] 22)).heap[w.heap.size + 1]? = some (.cells #[.slice none 0 0] 22 (0, 0)) := heap_alloc2_new w _ _
  have hr2 : ((w.alloc (.cells #[.pointer (some ⟨P, 0, none⟩)] 87)).alloc (.cells #[.slice none 0 0] 22)).heap[w.heap.size]? = some (.cells #[.pointer (some ⟨P, 0, none⟩)] 87 (0, 0)) := heap_alloc2_old w _ _
  have hsz2 : ((w.alloc (.cells #[.pointer (some ⟨P, 0, none⟩)] 87)).alloc (.cells #[.slice none 0 0] 22)).heap.size = w.heap.size + 2 := by simp
  have H := Lib.hid h2; have HB := Lib.hid hb2; have HGA := Lib.hid hga; have HO2 := Lib.hid ho2; have HR2 := Lib.hid hr2; have HSZ2 := Lib.hid hsz2; have HLEN := Lib.hid hlen
  clear h hb h2 hb2 hga ho2 hr2 hsz2 hlen
  go_enter_defers Tryz.func99, Tryz.ntmps99
  go_wp2_with fail
  refine (pBad_any P l A n c false _ H.out).mono ?_
  rintro e w1 ⟨rfl, rfl⟩
  go_wp2_with fail
  refine (closByt_bad Bx P l A n c true false _ H.out HB.out hn).mono ?_
  rintro e w1 ⟨rfl, ⟨l1, A1, n1, c1, hp⟩, hg⟩
  have hob : w1.heap[w.heap.size + 1]? = some (.cells #[.slice none 0 0] 22 (0, 0)) := (hg.block _ (by rw [HSZ2.out]; omega) (by simp; omega)).trans HO2.out
  have hrb : w1.heap[w.heap.size]? = some (.cells #[.pointer (some ⟨P, 0, none⟩)] 87 (0, 0)) := (hg.block _ (by rw [HSZ2.out]; omega) (by simp; omega)).trans HR2.out
  have hoc : w1.cell? ⟨w.heap.size + 1, 0, none⟩ = some (.slice none 0 0) := block_cell (xs := [.slice none 0 0]) hob rfl
  have hrc : w1.cell? ⟨w.heap.size, 0, none⟩ = some (.pointer (some ⟨P, 0, none⟩)) := block_cell (xs := [.pointer (some ⟨P, 0, none⟩)]) hrb rfl
  have hof : w1.frozen? ⟨w.heap.size + 1, 0, none⟩ = false := frozen_of_row w1 _ 0 _ _ hob
  have HP := Lib.hid hp; have HG := Lib.hid hg; have HOC := Lib.hid hoc; have HRC := Lib.hid hrc; have HOF := Lib.hid hof
  clear hp hg hob hrb hoc hrc hof
  go_wp2
  refine leaves_cons (f := 136) (args := #[.pointer (some ⟨w.heap.size + 1, 0, none⟩), .pointer (some ⟨w.heap.size, 0, none⟩)]) (by simp) (by simp [go_sem]) ?_
  refine (catchRdByt_panicking (w.heap.size + 1) w.heap.size P (.slice none 0 0) A1 l1 n1 c1 _ HOC.out HOF.out HRC.out HP.out (by omega)).mono ?_
  rintro e u' w'' ⟨rfl, rfl, rfl⟩
  have hPl1 := HP.out.lt
  have hw2 : w1.grownBy (w1.alloc (.cells #[] 215)) none := World.grownBy_alloc w1 _ _
  have hlt1 := block_lt_of_cell HOC.out
  have hoc2 : (((w1.alloc (.cells #[] 215)).setCell ⟨w.heap.size + 1, 0, none⟩ (.slice none 0 0)).setCell ⟨P, 2, none⟩ (.bool true)).cell? ⟨w.heap.size + 1, 0, none⟩ = some (.slice none 0 0) := (cell_setCell_ne _ (by omega)).trans (World.cell?_setCell_same _ _ _ (cell_old _ HOC.out))
  have hfin : GotByt w P (some l) A (.returned (.slice none 0 0)) (((w1.alloc (.cells #[] 215)).setCell ⟨w.heap.size + 1, 0, none⟩ (.slice none 0 0)).setCell ⟨P, 2, none⟩ (.bool true)) := by
    have hr : M.rdBytes (some l) = ([], none) := prdBytes_none hn
    refine ⟨none, 0, 0, rfl, ?_, ?_, ?_⟩
    · rw [hr]; exact World.ownsRow_nil _ _ _ _
    · rw [hr]
      obtain ⟨t, hblk⟩ := HP.out.blk
      have hblk2 : ((w1.alloc (.cells #[] 215)).setCell ⟨w.heap.size + 1, 0, none⟩ (.slice none 0 0)).heap[P]? = some (.cells (readP A1 n1 c1 true false).toArray t (0, 0)) := (heap_setCell_other _ ⟨w.heap.size + 1, 0, none⟩ P _ (by simp; omega)).trans ((heap_alloc_old w1 _ hPl1).trans hblk)
      exact ⟨[], A1, n1, c1, t, block_set hblk2 2 _⟩
    · have g1 : w.grownBy w1 (some P) := grown_trans' ⟨HGA.out.os, HGA.out.tape, HGA.out.output, HGA.out.size, fun k hk _ => HGA.out.block k hk (by simp)⟩ HG.out
      have g2 : w.grownBy (w1.alloc (.cells #[] 215)) (some P) := grown_trans' g1 (World.grownBy_alloc w1 _ _)
      have g3 := grown_more g2 (grownBy_setCell (w1.alloc (.cells #[] 215)) (w.heap.size + 1) 0 (.slice none 0 0)) (by omega)
      exact grown_trans' g3 (grownBy_setCell _ P 2 _)
  have HFIN := Lib.hid hfin
  clear hfin
  simp [Leaves, settle, results, Tryz.results99, go_sem, hoc2]
  exact HFIN.out

/-- nothing is read of what is bad -/
theorem readsByt_early (p : Option Addr) (Bx : Addr) (w : World) (hbad : ∀ w1, w.grownBy w1 none → Calls Tryz.prog 102 #[.pointer p] w1 fun e w' => e = .returned (.bool true) ∧ w1 = w') :
    Calls Tryz.prog 99 #[.pointer p, .func (.func 100) #[] #[.pointer (some Bx)]] w fun e w' => e = .returned (.slice none 0 0) ∧ Below w.heap.size w w' := by
  have hga : w.grownBy ((w.alloc (.cells #[.pointer p] 87)).alloc (.cells #[.slice none 0 0] 22)) none := ⟨rfl, rfl, rfl, by simp; omega, fun k hk _ => (heap_alloc_old _ _ (by simp; omega)).trans (heap_alloc_old w _ hk)⟩
  have hb := hbad _ hga
  have hbel : Below w.heap.size w ((w.alloc (.cells #[.pointer p] 87)).alloc (.cells #[.slice none 0 0] 22)) := ((Below.refl _ _).alloc (Nat.le_refl _) _).alloc (by simp) _
  have HB := Lib.hid hb; have HBEL := Lib.hid hbel
  clear hbad hga hb hbel
  go_enter_defers Tryz.func99, Tryz.ntmps99
  go_wp2_with fail
  refine HB.out.mono ?_
  rintro e w1 ⟨rfl, rfl⟩
  go_wp2
  simp [bodyPostD, Leaves, settle, results, Tryz.results99, go_sem]
  exact HBEL.out

set_option maxHeartbeats 1000000 in
theorem pBytes_early (p : Option Addr) (w : World) (hbad : ∀ w1, w.grownBy w1 none → Calls Tryz.prog 102 #[.pointer p] w1 fun e w' => e = .returned (.bool true) ∧ w1 = w') :
    Calls Tryz.prog 55 #[.pointer p] w fun e w' => e = .returned (.slice none 0 0) ∧ Below w.heap.size w w' := by
  have hmf : ∀ (fn : Fn) (first cap : Array Value) (w : World), (Instr.makeFunc fn first cap).run Tryz.prog w = .ok (.func fn first cap) w := fun _ _ _ _ => rfl
  have hga : w.grownBy (w.alloc (.cells #[.pointer p] 87)) none := World.grownBy_alloc w _ _
  have hbel : Below w.heap.size w (w.alloc (.cells #[.pointer p] 87)) := (Below.refl _ _).alloc (Nat.le_refl _) _
  have hb := readsByt_early p ⟨w.heap.size, 0, none⟩ (w.alloc (.cells #[.pointer p] 87)) (fun w1 h1 => hbad w1 (grown_trans' hga h1))
  have HB := Lib.hid hb; have HBEL := Lib.hid hbel
  clear hbad hga hb hbel
  go_enter Tryz.func55, Tryz.ntmps55
  go_wp2_with fail
  refine HB.out.mono ?_
  rintro e w1 ⟨rfl, hb1⟩
  have HB1 := Lib.hid (HBEL.out.trans (hb1.mono (by simp)))
  clear hb1
  go_wp2
  go_ret
  exact ⟨rfl, HB1.out⟩

set_option maxHeartbeats 1000000 in
theorem pBytes_any (P : Nat) (s : M.Rdr) (A0 : Option Addr) (w : World) (h : PrgN w P s A0) (hAB : ∀ a, A0 = some a → a.block < w.heap.size) :
    Calls Tryz.prog 55 #[.pointer (some ⟨P, 0, none⟩)] w (GotByt w P s A0) := by
  obtain ⟨l, A, n, c, h⟩ := h
  cases s with
  | none =>
    have h' : ∃ t, w.heap[P]? = some (.cells (readP A n c true true).toArray t (0, 0)) := h
    have hPl : P < w.heap.size := by obtain ⟨t, hb⟩ := h'; exact (Array.getElem?_eq_some_iff.1 hb).1
    refine (pBytes_early (some ⟨P, 0, none⟩) w (fun w1 hg => pBad_bad P A n c w1 ?_)).mono ?_
    · obtain ⟨t, hb⟩ := h'
      exact ⟨t, (hg.block P hPl (by simp)).trans hb⟩
    · rintro e w' ⟨rfl, hb⟩
      obtain ⟨t, hb'⟩ := h'
      exact ⟨none, 0, 0, rfl, World.ownsRow_nil _ _ _ _, ⟨l, A, n, c, t, (hb.block P hPl).trans hb'⟩, ⟨hb.os, hb.tape, hb.output, hb.size, fun k hk _ => hb.block k hk⟩⟩
  | some l' =>
    obtain ⟨hp, rfl, hA⟩ := h
    have hmf : ∀ (fn : Fn) (first cap : Array Value) (w : World), (Instr.makeFunc fn first cap).run Tryz.prog w = .ok (.func fn first cap) w := fun _ _ _ _ => rfl
    have hPl := hp.lt
    have hga : w.grownBy (w.alloc (.cells #[.pointer (some ⟨P, 0, none⟩)] 87)) none := World.grownBy_alloc w _ _
    have hp2 := hp.grown hga (by simp) (fun _ _ => by simp)
    have hbx : (w.alloc (.cells #[.pointer (some ⟨P, 0, none⟩)] 87)).cell? ⟨w.heap.size, 0, none⟩ = some (.pointer (some ⟨P, 0, none⟩)) := by rw [World.cell?_alloc_new]; rfl
    have hcall : Calls Tryz.prog 99 #[.pointer (some ⟨P, 0, none⟩), .func (.func 100) #[] #[.pointer (some ⟨w.heap.size, 0, none⟩)]] (w.alloc (.cells #[.pointer (some ⟨P, 0, none⟩)] 87)) (GotByt (w.alloc (.cells #[.pointer (some ⟨P, 0, none⟩)] 87)) P (some l) A) := by
      cases hn : (M.rdBytes (some l)).2 with
      | none => exact readsByt_bad w.heap.size P l A n c _ hp2 hbx hn (by omega)
      | some l' => exact readsByt_ok w.heap.size P l A n c _ hp2 hbx l' hn (fun a e => by obtain ⟨a0, e0, h0⟩ := hA a e; have := hAB a0 e0; simp; omega) (by omega)
    have HC := Lib.hid hcall; have HA := Lib.hid hA; have HGA := Lib.hid hga
    clear hcall hA hga hp2 hbx hp hAB
    go_enter Tryz.func55, Tryz.ntmps55
    go_wp2_with fail
    refine HC.out.mono ?_
    rintro e w1 ⟨B, m, c', rfl, hown, ⟨l2, A2, n2, c2, hp⟩, hg⟩
    have hfin : GotByt w P (some l) A0 (.returned (.slice B m c')) w1 := by
      refine ⟨B, m, c', rfl, own_low hown (by simp), ⟨l2, A2, n2, c2, ?_⟩, grown_trans' ⟨HGA.out.os, HGA.out.tape, HGA.out.output, HGA.out.size, fun k hk _ => HGA.out.block k hk (by simp)⟩ hg⟩
      cases hs : (M.rdBytes (some l)).2 with
      | none => rw [hs] at hp; exact hp
      | some l3 =>
        rw [hs] at hp
        refine ⟨hp.1, hp.2.1, fun a e => ?_⟩
        obtain ⟨a1, e1, h1⟩ := hp.2.2 a e
        obtain ⟨a0, e0, h0⟩ := HA.out a1 e1
        exact ⟨a0, e0, h1.trans h0⟩
    have HFIN := Lib.hid hfin
    clear hfin hp hg hown
    go_wp2
    go_ret
    exact HFIN.out
end Go.Proofs.YtidcfjmibljkeaaGreatDoor.K

/- The contracts of the program's NewReader, and of Bad and Done in every state. -/
namespace Go.Proofs.YtidcfjmibljkeaaGreatDoor.K
open Go Go.RowKit

/-- a new reader of the program's -/
def PNew (w : World) (bs : List (BitVec 8)) (e : Ending) (w' : World) : Prop := ∃ P A, e = .returned (.pointer (some ⟨P, 0, none⟩)) ∧ w.heap.size ≤ P ∧ PrgN w' P (some bs) A ∧ (∀ a, A = some a → w.heap.size ≤ a.block ∧ a.block < w'.heap.size ∧ a.block ≠ P) ∧ Below w.heap.size w w'
set_option maxHeartbeats 1000000 in
set_option maxRecDepth 100000 in
theorem pNew_any (A : Option Addr) (n c : Nat) (bs : List (BitVec 8)) (w : World) (hx : RowRd w ⟨A, n, c⟩ bs) (hn2 : n ≤ 1000000000000) :
    Calls Tryz.prog 53 #[.slice A n c] w (PNew w bs) := by
  obtain ⟨i0, hi, hz0, hz1, hz2⟩ := info_parts infoByte
  have hlen : bs.length = n := hx.len
  have hl2 : (bv bs).length = n * 1 := by rw [bv_length]; omega
  have hnn : A = none → n = 0 ∧ c = 0 := fun h => ⟨by
    have hrd : Rd w A bs := hx.rd
    rw [h] at hrd
    rw [hrd.empty] at hlen; exact hlen.symm, hx.none h⟩
  have hcs := hx.rd.cells
  have HL2 := Lib.hid hl2; have HNN := Lib.hid hnn; have HCS := Lib.hid hcs; have HLEN := Lib.hid hlen
  clear hx hlen hl2 hnn hcs
  go_enter Tryz.func53, Tryz.ntmps53
  go_wp2_with (at_builtin; refine wpList_append_any _ rfl _ _ 22 rfl w.heap.size 5 i0 (.int .u8 0) 1 1 Tryz.underlying22 hi hz0 hz1 hz2 rfl (by decide) _ 0 (bv []) rfl (own_lit0 (Nat.le_refl _)) A n c (bv bs) rfl HNN.out HL2.out (fun ad had j u hu => cell_old _ (HCS.out ad had j u hu)) (bv_one _) (by unfold maxLen; omega) (by omega) (by simp) ?_; intro v3 w3 hown3 hgrow3; rw [← bv_append, List.nil_append, Nat.zero_add] at hown3; obtain ⟨B3, d3, rfl⟩ := row_slice hown3; have hb3 : Below w.heap.size w w3 := ((Below.refl w.heap.size w).alloc (Nat.le_refl _) _).grown hgrow3 (by simp) (fun k hk => ((own_lit0 (e := 5) (Nat.le_refl w.heap.size)).lt k hk).1); have HB3 := Lib.hid hb3; have HO3 := Lib.hid hown3; clear hb3 hown3 hgrow3)
  go_ret
  have hr := row_room HO3.out
  have hb := HB3.out
  have hsz := hb.size
  refine ⟨w3.heap.size, B3, rfl, hsz, ⟨bs, B3, n, d3, ⟨⟨_, by exact heap_alloc_new w3 (.cells (readP B3 n d3 true false).toArray 126)⟩, ?_, HLEN.out, fun e => (hr.2.2.1 e).2, hn2, ⟨hr.1, hr.2.1⟩, fun a e => ?_, fun a e => ?_⟩, rfl, fun a e => ⟨a, e, rfl⟩⟩, fun a e => ?_, hb.alloc hsz _⟩
  · exact (Rd.of_own HO3.out).below ((Below.refl _ _).alloc (Nat.le_refl _) _)
  · obtain ⟨g, rfl, _, hg⟩ := hr.2.2.2 a e
    show g ≠ _; omega
  · obtain ⟨g, rfl, _, hg⟩ := hr.2.2.2 a e
    exact ⟨g, 0, rfl⟩
  · obtain ⟨g, rfl, hg, hg2⟩ := hr.2.2.2 a e
    refine ⟨hg, ?_, ?_⟩
    · show g < _; simp; omega
    · show g ≠ _; omega

theorem pBadN (P : Nat) (s : M.Rdr) (A0 : Option Addr) (w : World) (h : PrgN w P s A0) : Calls Tryz.prog 102 #[.pointer (some ⟨P, 0, none⟩)] w fun e w' => e = .returned (.bool s.isNone) ∧ w = w' := by
  obtain ⟨l, A, n, c, h⟩ := h
  cases s with
  | none => exact pBad_bad P A n c w h
  | some l' => exact pBad_any P l A n c false w h.1
theorem pDone_bad (p : Option Addr) (w : World) (hbad : Calls Tryz.prog 102 #[.pointer p] w fun e w' => e = .returned (.bool true) ∧ w = w') : Calls Tryz.prog 57 #[.pointer p] w fun e w' => e = .returned (.bool false) ∧ w = w' := by
  go_enter Tryz.func57, Tryz.ntmps57
  go_wp2_with fail
  refine hbad.mono ?_
  rintro e w1 ⟨rfl, rfl⟩
  go_wp2
  go_ret
  exact ⟨rfl, rfl⟩
theorem pDone_good (P : Nat) (l : List (BitVec 8)) (A : Option Addr) (n c : Nat) (w : World) (h : PrgR w P l A n c true false) : Calls Tryz.prog 57 #[.pointer (some ⟨P, 0, none⟩)] w fun e w' => e = .returned (.bool ((n : Int) == 0)) ∧ w = w' := by
  have c0 : w.cell? ⟨P, 0, none⟩ = some (.slice A n c) := h.cell rfl
  have H := Lib.hid h
  clear h
  go_enter Tryz.func57, Tryz.ntmps57
  go_wp2_with fail
  refine (pBad_any P l A n c false w H.out).mono ?_
  rintro e w1 ⟨rfl, rfl⟩
  go_wp2
  go_ret
  exact ⟨rfl, rfl⟩
theorem pDoneN (P : Nat) (s : M.Rdr) (A0 : Option Addr) (w : World) (h : PrgN w P s A0) : Calls Tryz.prog 57 #[.pointer (some ⟨P, 0, none⟩)] w fun e w' => e = .returned (.bool (decide (s = some []))) ∧ w = w' := by
  have hb := pBadN P s A0 w h
  obtain ⟨l, A, n, c, h⟩ := h
  cases s with
  | none => exact (pDone_bad _ w hb).mono fun e w' ⟨h1, h2⟩ => ⟨by rw [h1]; rfl, h2⟩
  | some l' =>
    obtain ⟨hp, rfl, _⟩ := h
    refine (pDone_good P l A n c w hp).mono fun e w' ⟨h1, h2⟩ => ⟨?_, h2⟩
    have hl := hp.len
    have e2 : ((n : Int) == 0) = decide (some l = some []) := by
      rw [Bool.eq_iff_iff, decide_eq_true_iff, beq_iff_eq]
      constructor
      · intro h0
        rw [List.eq_nil_of_length_eq_zero (by omega : l.length = 0)]
      · intro h0
        have h1 : l = [] := Option.some.inj h0
        rw [h1] at hl; simp at hl; omega
    rw [h1, e2]
end Go.Proofs.YtidcfjmibljkeaaGreatDoor.K

/- The contract of the closure that bundle.Get hands to tried. -/
namespace Go.Proofs.YtidcfjmibljkeaaGreatDoor.K
open Go Go.RowKit

theorem prgN_grown {w w' : World} {P : Nat} {s : M.Rdr} {A0 : Option Addr} (h : PrgN w P s A0) {row : Option Nat} (hg : w.grownBy w' row) (hR : row ≠ some P) (hA : ∀ a, A0 = some a → row ≠ some a.block) : PrgN w' P s A0 := by
  obtain ⟨l, A, n, c, h⟩ := h
  refine ⟨l, A, n, c, ?_⟩
  cases s with
  | none =>
    obtain ⟨t, hb⟩ := h
    exact ⟨t, (hg.block P (Array.getElem?_eq_some_iff.1 hb).1 (Ne.symm hR)).trans hb⟩
  | some l' => exact ⟨h.1.grown hg hR (fun a e => by obtain ⟨a0, e0, h0⟩ := h.2.2 a e; rw [h0]; exact hA a0 e0), h.2.1, h.2.2⟩
theorem prgN_lt {w : World} {P : Nat} {s : M.Rdr} {A0 : Option Addr} (h : PrgN w P s A0) : P < w.heap.size := by
  obtain ⟨l, A, n, c, h⟩ := h
  cases s with
  | none =>
    obtain ⟨t, hb⟩ := h
    exact (Array.getElem?_eq_some_iff.1 hb).1
  | some l' =>
    obtain ⟨t, hb⟩ := h.1.blk
    exact (Array.getElem?_eq_some_iff.1 hb).1
theorem results_cell_one {fn : Func} {p : Tmp} {ty : TypeId} {P : Program} (h : fn.results = #[.cell p ty]) (tmps : Array Value) (w : World) (g : Nat) (u : Value)
    (hp : tmps.getD p undef = .pointer (some ⟨g, 0, none⟩)) (hrun : (loadVar ty ⟨g, 0, none⟩).run P w = .ok u w) : (results fn tmps).run P w = .ok u w := by
  have hp' : tmps[p]?.getD undef = .pointer (some ⟨g, 0, none⟩) := by simpa using hp
  simp [results, h, hp', asAddr, hrun]
/-- the number that Get's closure throws -/
def getC (l : List (BitVec 8)) : Nat := if (M.bread l).2 = some [] then M.bwrong (M.bread l).1 else 4
set_option maxHeartbeats 16000000 in
set_option maxRecDepth 100000 in
theorem get1_any (p : Nat) (A : Option Addr) (n c : Nat) (bs : List (BitVec 8)) (w : World) (hp : w.cell? ⟨p, 0, none⟩ = some (.slice A n c)) (hr : RowRd w ⟨A, n, c⟩ bs) (hn : n ≤ 10000000000) :
    Calls Tryz.prog 52 #[.pointer (some ⟨p, 0, none⟩)] w (CloPost w (M.bread bs).1 (getC bs)) := by
  have HR := Lib.hid hr; have HLEN := Lib.hid (show bs.length = n from hr.len)
  have BK0 := Lib.hid ((Bank.nil (Below.refl w.heap.size w)).box #[.int .i64 0, .slice none 0 0, .slice none 0 0, .slice none 0 0] 26 (by simp))
  clear hr
  have hpl : p < w.heap.size := block_lt_of_cell hp
  have hpn := Nat.ne_of_lt hpl
  have hpm := Ne.symm hpn
  go_enter Tryz.func52, Tryz.ntmps52
  go_wp2_with fail
  generalize hw1 : w.alloc (.cells #[.int .i64 0, .slice none 0 0, .slice none 0 0, .slice none 0 0] 26) = w1 at *
  clear hw1 hp
  refine (pNew_any A n c bs w1 (Since.row BK0.out.since HR.out) (by omega)).mono ?_
  rintro e w2 ⟨P, A0, rfl, hP, hq, hA0, hb⟩
  have H2 := Lib.hid (Held.start (Q := fun w s => PrgN w P s A0) BK0.out hq hb hP (prgN_lt hq) (fun a e => ⟨(hA0 a e).1, (hA0 a e).2.1⟩) (fun w w' s row h hg hR hA => prgN_grown h hg hR hA))
  clear hq hA0 hb hP BK0
  obtain ⟨s1, hs1⟩ : ∃ s1, s1 = (M.rdNumber (some bs)).2 := ⟨_, rfl⟩
  obtain ⟨v1, hv1⟩ : ∃ v1, v1 = (M.rdNumber (some bs)).1 := ⟨_, rfl⟩
  obtain ⟨s2, hs2⟩ : ∃ s2, s2 = (M.rdBytes s1).2 := ⟨_, rfl⟩
  obtain ⟨b2, hb2⟩ : ∃ b2, b2 = (M.rdBytes s1).1 := ⟨_, rfl⟩
  obtain ⟨s3, hs3⟩ : ∃ s3, s3 = (M.rdBytes s2).2 := ⟨_, rfl⟩
  obtain ⟨b3, hb3⟩ : ∃ b3, b3 = (M.rdBytes s2).1 := ⟨_, rfl⟩
  obtain ⟨s4, hs4⟩ : ∃ s4, s4 = (M.rdBytes s3).2 := ⟨_, rfl⟩
  obtain ⟨b4, hb4⟩ : ∃ b4, b4 = (M.rdBytes s3).1 := ⟨_, rfl⟩
  have HRD := Lib.hid (show M.bread bs = (⟨v1, b2, b3, b4⟩, s4) by rw [hs4, hb4, hs3, hb3, hs2, hb2, hs1, hv1]; rfl)
  have E1 := Lib.hid (show M.rdNumber (some bs) = (v1, s1) by rw [hs1, hv1])
  have E2 := Lib.hid (show M.rdBytes s1 = (b2, s2) by rw [hs2, hb2])
  have E3 := Lib.hid (show M.rdBytes s2 = (b3, s3) by rw [hs3, hb3])
  have E4 := Lib.hid (show M.rdBytes s3 = (b4, s4) by rw [hs4, hb4])
  clear hs1 hv1 hs2 hb2 hs3 hb3 hs4 hb4
  go_wp2_with fail
  have H3 := Lib.hid (H2.out.box #[.int .i64 0, .slice none 0 0, .slice none 0 0, .slice none 0 0] 52 (by simp))
  generalize hX : w2.heap.size = X at *
  generalize hw3 : w2.alloc (.cells #[.int .i64 0, .slice none 0 0, .slice none 0 0, .slice none 0 0] 52) = w3 at *
  clear hw3 hX H2
  refine (pNumber_any P _ A0 w3 H3.out.q H3.out.lt.2).mono ?_
  rintro e w4 ⟨rfl, hq, hg⟩
  rw [E1.out] at hq
  rw [E1.out]
  have H4 := Lib.hid (H3.out.step hq hg)
  clear hq hg H3
  go_wp2_with fail
  refine (pBytes_any P _ A0 w4 H4.out.q H4.out.lt.2).mono ?_
  rintro e w5 ⟨B5, m5, c5, rfl, ho, hq, hg⟩
  rw [E2.out] at hq ho
  have M5 := Lib.hid (show b2.length = m5 from (RowRd.of_row ho).len)
  have H5 := Lib.hid (H4.out.row hq hg ho)
  clear hq hg ho H4
  go_wp2_with fail
  refine (pBytes_any P _ A0 w5 H5.out.q H5.out.lt.2).mono ?_
  rintro e w6 ⟨B6, m6, c6, rfl, ho, hq, hg⟩
  rw [E3.out] at hq ho
  have M6 := Lib.hid (show b3.length = m6 from (RowRd.of_row ho).len)
  have H6 := Lib.hid (H5.out.row hq hg ho)
  clear hq hg ho H5
  go_wp2_with fail
  refine (pBytes_any P _ A0 w6 H6.out.q H6.out.lt.2).mono ?_
  rintro e w7 ⟨B7, m7, c7, rfl, ho, hq, hg⟩
  rw [E4.out] at hq ho
  have M7 := Lib.hid (show b4.length = m7 from (RowRd.of_row ho).len)
  have H7 := Lib.hid (H6.out.row hq hg ho)
  clear hq hg ho H6
  have x0 := H7.out.bank.cell 3 rfl 0 rfl
  have x1 := H7.out.bank.cell 3 rfl 1 rfl
  have x2 := H7.out.bank.cell 3 rfl 2 rfl
  have x3 := H7.out.bank.cell 3 rfl 3 rfl
  have f0 := H7.out.bank.free 3 rfl 0
  have f1 := H7.out.bank.free 3 rfl 1
  have f2 := H7.out.bank.free 3 rfl 2
  have f3 := H7.out.bank.free 3 rfl 3
  have H8 := Lib.hid ((((H7.out.set 3 rfl 0 (.int .i64 v1)).set 3 rfl 1 (.slice B5 m5 c5)).set 3 rfl 2 (.slice B6 m6 c6)).set 3 rfl 3 (.slice B7 m7 c7))
  clear H7
  go_wp2_with fail
  generalize (((w7.setCell ⟨X, 0, none⟩ (.int .i64 v1)).setCell ⟨X, 1, none⟩ (.slice B5 m5 c5)).setCell ⟨X, 2, none⟩ (.slice B6 m6 c6)).setCell ⟨X, 3, none⟩ (.slice B7 m7 c7) = w8 at *
  clear x0 x1 x2 x3 f0 f1 f2 f3
  refine (pDoneN P _ A0 w8 H8.out.q).mono ?_
  rintro e w9 ⟨rfl, rfl⟩
  have y0 := H8.out.bank.cell 3 rfl 0 rfl
  have y1 := H8.out.bank.cell 3 rfl 1 rfl
  have y2 := H8.out.bank.cell 3 rfl 2 rfl
  have y3 := H8.out.bank.cell 3 rfl 3 rfl
  by_cases hs : s4 = some []
  · rw [decide_eq_true hs]
    have HS := Lib.hid hs
    clear hs
    go_wp2_with fail
    refine (throw_no 4 w8).mono ?_
    rintro e w10 ⟨rfl, rfl⟩
    go_wp2_with fail
    refine (check_any ⟨v1, b2, b3, b4⟩ B5 B6 B7 m5 c5 m6 c6 m7 c7 w8 M5.out M6.out M7.out).mono ?_
    rintro e w12 ⟨rfl, hs12⟩
    have BK := Lib.hid (H8.out.bank.call hs12)
    clear hs12 y0 y1 y2 y3 H8
    by_cases hE : M.bwrong ⟨v1, b2, b3, b4⟩ = 0
    · rw [if_pos hE]
      have z0 := BK.out.cell 3 rfl 0 rfl
      have z1 := BK.out.cell 3 rfl 1 rfl
      have z2 := BK.out.cell 3 rfl 2 rfl
      have z3 := BK.out.cell 3 rfl 3 rfl
      have HRES := Lib.hid (BK.out.boxAt 4 rfl).2
      have HFIN := Lib.hid (show CloPost w (M.bread bs).1 (getC bs) (.returned (.agg (bunL v1 B5 m5 c5 B6 m6 c6 B7 m7 c7).toArray)) (w12.setRow w.heap.size (bunL v1 B5 m5 c5 B6 m6 c6 B7 m7 c7).toArray) from by
        have h := BK.out.boxRow 4 rfl (bunL v1 B5 m5 c5 B6 m6 c6 B7 m7 c7) rfl (by decide)
        have hge : getC bs = 0 := by unfold getC; rw [HRD.out, if_pos HS.out, hE]
        rw [HRD.out, hge]
        exact .inl ⟨rfl, B5, m5, c5, B6, m6, c6, B7, m7, c7, rfl, M5.out.symm, M6.out.symm, M7.out.symm, h.sub (.cons_cons _ (.cons_cons _ (.cons_cons _ (.cons _ (.cons _ .slnil)))))⟩)
      clear hE
      go_wp2_with (with_reducible refine wpList_store_row rfl 26 (.tmp 1) (.tmp 30) rfl w.heap.size (bunL v1 B5 m5 c5 B6 m6 c6 B7 m7 c7).toArray rfl rfl 26 _ HRES.out (infoBunL v1 B5 m5 c5 B6 m6 c6 B7 m7 c7) rfl (bunL_one _ _ _ _ _ _ _ _ _ _) ?_)
      refine bodyPost_ret (v := .agg (bunL v1 B5 m5 c5 B6 m6 c6 B7 m7 c7).toArray) ?_ rfl HFIN.out
      exact results_cell_one rfl _ _ w.heap.size _ rfl (load_bun _ _ _ _ _ _ _ _ _ _ (setRow_heap _ _ _ _ _ _ HRES.out))
    · rw [if_neg hE]
      have HFIN := Lib.hid (show CloPost w (M.bread bs).1 (getC bs) (.panicked (errP (M.bwrong ⟨v1, b2, b3, b4⟩))) w12 from by
        have hge : getC bs = M.bwrong ⟨v1, b2, b3, b4⟩ := by unfold getC; rw [HRD.out, if_pos HS.out]
        rw [hge]
        exact .inr ⟨hE, rfl, BK.out.since⟩)
      clear hE
      go_wp2_with fail
      exact ⟨rfl, HFIN.out⟩
  · rw [decide_eq_false hs]
    have HFIN := Lib.hid (show CloPost w (M.bread bs).1 (getC bs) (.panicked (errP 4)) w8 from by
      have hge : getC bs = 4 := by unfold getC; rw [HRD.out, if_neg hs]
      rw [hge]
      exact .inr ⟨by decide, rfl, H8.out.bank.since⟩)
    clear hs
    go_wp2_with fail
    refine (throw_yes 4 w8).mono ?_
    rintro e w10 ⟨rfl, rfl⟩
    go_wp2_with fail
    exact ⟨rfl, HFIN.out⟩
end Go.Proofs.YtidcfjmibljkeaaGreatDoor.K

/- Drawn regions by an invariant over the set of what has come up: each operation is met once, whatever came up ahead of it, not once for each order. Plain lemmas over any program. -/
namespace Go.Proofs.YtidcfjmibljkeaaGreatDoor.K
open Go

theorem off_of {a b : Bool} (h : a = true → b = true) (hb : b = false) : a = false := by
  cases ha : a with
  | false => rfl
  | true => rw [h ha] at hb; cases hb
/-- how many have not come up -/
def leftL : List Bool → Nat
  | [] => 0
  | true :: l => leftL l
  | false :: l => leftL l + 1
theorem leftL_set : ∀ (l : List Bool) (i : Nat), l[i]? = some false → leftL (l.set i true) + 1 = leftL l
  | [], _, h => by simp at h
  | x :: l, 0, h => by simp at h; subst h; rfl
  | x :: l, i + 1, h => by
    have ih := leftL_set l i (by simpa using h)
    cases x <;> simp only [List.set_cons_succ, leftL] <;> omega
section
variable {P : Program} {ops : Array Oper} {Q : Exit → Act → World → Prop} {md : Region.Mode}
theorem ready_open {i : Nat} {listed : Array Bool} (h : i ∈ Region.ready md ops listed) : listed.toList[i]? = some false := by
  have h0 := (mem_ready.1 h).1
  rw [Array.getD_eq_getD_getElem?] at h0
  cases hx : listed[i]? with
  | none => rw [hx] at h0; simp at h0
  | some b => rw [hx] at h0; simp at h0; subst h0; simpa using hx
/-- the invariant I holds after each operation that comes up -/
theorem wpAny_sets (I : Array Bool → Act → World → Prop)
    (step : ∀ listed a w i, I listed a w → i ∈ Region.ready md ops listed → wpOp P ops Q i (I (listed.setIfInBounds i true)) a w)
    (fin : ∀ listed a w, I listed a w → Region.ready md ops listed = [] → Q .normal a w) :
    ∀ (fuel : Nat) (listed : Array Bool) (a : Act) (w : World), leftL listed.toList ≤ fuel → I listed a w → wpAny P md ops Q fuel listed a w
  | 0, listed, a, w, hl, hI => by
    have hr : Region.ready md ops listed = [] := List.eq_nil_iff_forall_not_mem.2 fun i hi => by
      have := leftL_set _ i (ready_open hi)
      omega
    exact ⟨hr, fin _ _ _ hI hr⟩
  | fuel + 1, listed, a, w, hl, hI => ⟨fin _ _ _ hI, fun i hi => wpOp_mono (fun a' w' h => wpAny_sets I step fin fuel _ a' w' (by
      have := leftL_set _ i (ready_open hi)
      rw [Array.toList_setIfInBounds]
      omega) h) (step _ _ _ _ hI hi)⟩
/-- the same from the region on -/
theorem wp_region_sets (I : Array Bool → Act → World → Prop) {id : Nat} {a : Act} {w : World} (hm : P.follows .mixedOrders = true) (h0 : I (Array.replicate ops.size false) a w.drew)
    (step : ∀ listed a w i, I listed a w → i ∈ Region.ready .any ops listed → wpOp P ops Q i (I (listed.setIfInBounds i true)) a w)
    (fin : ∀ listed a w, I listed a w → Region.ready .any ops listed = [] → Q .normal a w) : (Code.region id ops true).wp P Q a w :=
  wp_region_any hm (wpAny_sets I step fin _ _ _ _ (by
    rw [Array.toList_replicate]
    have : ∀ n, leftL (List.replicate n false) ≤ n := fun n => by
      induction n with
      | zero => exact Nat.le_refl _
      | succ n ih => rw [List.replicate_succ, leftL]; omega
    exact this _) h0)
/-- what may come up has not come up, and all that it waits for has -/
theorem ready_after {i : Nat} {listed : Array Bool} {o : Oper} (h : i ∈ Region.ready md ops listed) (ho : ops[i]? = some o) : listed.getD i true = false ∧ o.after.all (fun e => !Region.binds md e || listed.getD e.on false) = true := by
  obtain ⟨h0, o', ho', h1⟩ := mem_ready.1 h
  rw [ho] at ho'
  cases ho'
  refine ⟨h0, Array.all_eq_true_iff_forall_mem.2 fun e he => ?_⟩
  cases hb : Region.binds md e
  · rfl
  · simp [h1 e he hb]
/-- where nothing may come up, what waits for nothing that is open has come up -/
theorem ready_none {i : Nat} {listed : Array Bool} {o : Oper} (h : Region.ready md ops listed = []) (ho : ops[i]? = some o) (ha : o.after.all (fun e => !Region.binds md e || listed.getD e.on false) = true) : listed.getD i true = true := by
  cases hg : listed.getD i true
  · exfalso
    have : i ∈ Region.ready md ops listed := mem_ready.2 ⟨hg, o, ho, fun e he hb => by
      have := Array.all_eq_true_iff_forall_mem.1 ha e he
      rw [hb] at this
      simpa using this⟩
    rw [h] at this
    cases this
  · rfl
theorem ready_lt {i : Nat} {listed : Array Bool} (h : i ∈ Region.ready md ops listed) : i < ops.size := by
  obtain ⟨_, o, ho, _⟩ := mem_ready.1 h
  exact (Array.getElem?_eq_some_iff.1 ho).1
end
end Go.Proofs.YtidcfjmibljkeaaGreatDoor.K

/- The contract of the closure that bundle.Make hands to tried. -/
namespace Go.Proofs.YtidcfjmibljkeaaGreatDoor.K
open Go Go.RowKit

theorem clone_from {w0 : World} {A : Option Addr} {n c : Nat} {bs : List (BitVec 8)} (hr : RowRd w0 ⟨A, n, c⟩ bs) (hn : n ≤ 100000000000) {w : World} (h : Since w0 w) : Calls Tryz.prog 33 #[.slice A n c] w (MadeO w bs) := clone_any A n c bs w (h.row hr) hn
theorem run_field_look (v : Int) (A : Option Addr) (n c : Nat) (B : Option Addr) (m d : Nat) (C : Option Addr) (k l : Nat) (w : World) : (Instr.field 52 (.agg #[.int .i64 v, .slice A n c, .slice B m d, .slice C k l]) 0).run Tryz.prog w = .ok (.agg #[.int .i64 v, .slice A n c, .slice B m d, .slice C k l]) w := by kernel_rfl
/-- 32 noughts -/
def zeros32 : Array Value := Array.replicate 32 (.int .u8 0)
theorem run_make32 (w : World) : (Instr.makeSlice 22 (.int .i64 32) (.int .i64 32)).run Tryz.prog w = .ok (.slice (some ⟨w.heap.size, 0, none⟩) 32 32) (w.alloc (.cells zeros32 5)) := by kernel_rfl
theorem run_alloc_look (w : World) : (Instr.alloc 52 true (.tuple #[])).run Tryz.prog w = .ok (.pointer (some ⟨w.heap.size, 0, none⟩)) (w.alloc (.cells zeroV.toArray 52)) := by kernel_rfl
section
variable {w0 w : World} {L : List Acc}
/-- 32 noughts are made, in a region that draws its order -/
theorem step_make32 {ops : Array Oper} {o : Oper} {a : Act} {K : Act → World → Prop} {Q : Exit → Act → World → Prop} {E : Prop} (h : Bank w0 w L) (hgd : o.guard = Option.none) (ho : o.op = .makeSlice 22 (.const (.int .i64 32)) (.const (.int .i64 32)))
    (hK : ∀ g w', Bank w0 w' (boxAcc g 5 zeros32.toList :: L) → K (a.put o.dst (.slice (some ⟨g, 0, Option.none⟩) 32 32)) w') : if Region.wanted o (yielded ops a.tmps) = true then Oper.wp Tryz.prog o a w K Q else E := by
  have hw : Region.wanted o (yielded ops a.tmps) = true := by simp [Region.wanted, hgd]
  rw [if_pos hw]
  have h2 := hK w.heap.size (w.alloc (.cells zeros32 5)) (h.box zeros32 5 (by decide))
  unfold Oper.wp execOp
  simp only [ho, Act.eval, run_make32, Sem.run_bind, Sem.run_pure, Result.andThen_ok]
  exact h2
/-- a look is made, in a region that draws its order -/
theorem step_alloc_look {ops : Array Oper} {o : Oper} {a : Act} {K : Act → World → Prop} {Q : Exit → Act → World → Prop} {E : Prop} (h : Bank w0 w L) (hgd : o.guard = Option.none) (ho : o.op = .alloc 52)
    (hK : ∀ g w', Bank w0 w' (boxAcc g 52 zeroV :: L) → K (a.put o.dst (.pointer (some ⟨g, 0, Option.none⟩))) w') : if Region.wanted o (yielded ops a.tmps) = true then Oper.wp Tryz.prog o a w K Q else E := by
  have hw : Region.wanted o (yielded ops a.tmps) = true := by simp [Region.wanted, hgd]
  rw [if_pos hw]
  have h2 := hK w.heap.size (w.alloc (.cells zeroV.toArray 52)) (h.box zeroV.toArray 52 (by decide))
  unfold Oper.wp execOp
  simp only [ho, run_alloc_look, Sem.run_bind, Sem.run_pure, Result.andThen_ok]
  exact h2
/-- a look is written whole, in a region that draws its order -/
theorem step_store_look {ops : Array Oper} {o : Oper} {a : Act} {K : Act → World → Prop} {Q : Exit → Act → World → Prop} {E : Prop} (h : Bank w0 w L) (hgd : o.guard = Option.none) (x y : Operand) (ho : o.op = .store 52 x y) (i g : Nat) (hx : a.eval x = .pointer (some ⟨g, 0, Option.none⟩)) (hi : L[i]? = some (boxAcc g 52 zeroV))
    (v : Int) (A : Option Addr) (n c : Nat) (B : Option Addr) (m d : Nat) (C : Option Addr) (k l : Nat) (hy : a.eval y = .agg (bunL v A n c B m d C k l).toArray)
    (hK : ∀ w', Bank w0 w' (L.set i (boxAcc g 52 (bunL v A n c B m d C k l))) → K (a.put o.dst undef) w') : if Region.wanted o (yielded ops a.tmps) = true then Oper.wp Tryz.prog o a w K Q else E := by
  have hw : Region.wanted o (yielded ops a.tmps) = true := by simp [Region.wanted, hgd]
  rw [if_pos hw]
  exact wp_store_row 52 x y ho g _ hx hy 52 _ (h.boxAt i hi).2 (infoLookL v A n c B m d C k l) rfl (bunL_one _ _ _ _ _ _ _ _ _ _) (hK _ (h.boxRow i hi _ rfl (by decide)))
theorem Bank.pick3 (h : Bank w0 w L) (i j k : Nat) {p q r : Acc} (hi : L[i]? = some p) (hj : L[j]? = some q) (hk : L[k]? = some r) (hij : i ≠ j) (hik : i ≠ k) (hjk : j ≠ k) : Bank w0 w [p, q, r] := by
  refine ⟨h.since, fun x hx => h.own x ?_, ?_⟩
  · simp only [List.mem_cons, List.mem_nil_iff, or_false] at hx
    rcases hx with rfl | rfl | rfl
    · exact List.mem_of_getElem? hi
    · exact List.mem_of_getElem? hj
    · exact List.mem_of_getElem? hk
  · refine .cons (fun x hx => ?_) (.cons (fun x hx => ?_) (.cons (fun x hx => by cases hx) .nil))
    · simp only [List.mem_cons, List.mem_nil_iff, or_false] at hx
      rcases hx with rfl | rfl
      · exact h.sepAt hi hj hij
      · exact h.sepAt hi hk hik
    · simp only [List.mem_cons, List.mem_nil_iff, or_false] at hx
      subst hx
      exact h.sepAt hj hk hjk
end
theorem Bank.perm {w0 w : World} {L L' : List Acc} (h : Bank w0 w L) (hp : L.Perm L') : Bank w0 w L' := ⟨h.since, fun p hm => h.own p (hp.mem_iff.2 hm), (List.Perm.pairwise_iff (fun {_ _} h => Apartness.symm h) hp).1 h.sep⟩
theorem Bank.mid {w0 w : World} {a b : List Acc} {p : Acc} (h : Bank w0 w (p :: (a ++ b))) : Bank w0 w (a ++ ([p] ++ b)) := h.perm List.perm_middle.symm
/-- what the region has done so far: m0 .. m8 tell which operations have come up -/
structure MkS (w : World) (v : Int) (A : Option Addr) (n c : Nat) (code : List (BitVec 8)) (m0 m1 m2 m3 m4 m5 m6 m7 m8 : Bool) (s4 s5 s6 s7 s8 s9 s10 s11 : Value) (g4 g8 g9 : Nat) (A7 : Option Addr) (N7 c7 : Nat) (L7 L8 L9 L4 : List Acc) (wx : World) : Prop where
  a0 : m0 = true → s5 = .int .i64 v
  a1 : m1 = true → s6 = .slice A n c
  n2 : m2 = false → L7 = []
  a2 : m2 = true → s7 = .slice A7 N7 c7 ∧ Hid (N7 = n) ∧ L7 = [rowAcc A7 N7 c7 code]
  n3 : m3 = false → L8 = []
  a3 : m3 = true → s8 = .slice (some ⟨g8, 0, none⟩) 32 32 ∧ L8 = [boxAcc g8 5 zeros32.toList]
  n4 : m4 = false → L9 = []
  a4 : m4 = true → s9 = .slice (some ⟨g9, 0, none⟩) 32 32 ∧ L9 = [boxAcc g9 5 zeros32.toList]
  a5 : m5 = true → (m0 = true ∧ m2 = true ∧ m3 = true ∧ m4 = true) ∧ s10 = .agg #[.int .i64 v, .slice A7 N7 c7, .slice (some ⟨g8, 0, none⟩) 32 32, .slice (some ⟨g9, 0, none⟩) 32 32]
  a6 : m6 = true → m5 = true ∧ s11 = .agg #[.int .i64 v, .slice A7 N7 c7, .slice (some ⟨g8, 0, none⟩) 32 32, .slice (some ⟨g9, 0, none⟩) 32 32]
  n7 : m7 = false → L4 = []
  a7 : m7 = true → s4 = .pointer (some ⟨g4, 0, none⟩) ∧ L4 = [boxAcc g4 52 (bif m8 then bunL v A7 N7 c7 (some ⟨g8, 0, none⟩) 32 32 (some ⟨g9, 0, none⟩) 32 32 else zeroV)]
  a8 : m8 = true → m6 = true ∧ m7 = true
  bank : Bank w wx (L7 ++ (L8 ++ (L9 ++ (L4 ++ [boxAcc w.heap.size 26 zeroV]))))
def MkI (w : World) (t0 t1 t2 : Value) (v : Int) (A : Option Addr) (n c : Nat) (code : List (BitVec 8)) (listed : Array Bool) (a : Act) (wx : World) : Prop :=
  ∃ (m0 m1 m2 m3 m4 m5 m6 m7 m8 : Bool) (s4 s5 s6 s7 s8 s9 s10 s11 : Value) (g4 g8 g9 : Nat) (A7 : Option Addr) (N7 c7 : Nat) (L7 L8 L9 L4 : List Acc),
    listed = #[m0, m1, m2, m3, m4, m5, m6, m7, m8] ∧ a = { tmps := #[t0, t1, t2, .pointer (some ⟨w.heap.size, 0, none⟩), s4, s5, s6, s7, s8, s9, s10, s11, undef, undef, undef, undef, undef, undef], defers := [] } ∧
    MkS w v A n c code m0 m1 m2 m3 m4 m5 m6 m7 m8 s4 s5 s6 s7 s8 s9 s10 s11 g4 g8 g9 A7 N7 c7 L7 L8 L9 L4 wx
/-- where the look stands once it is made -/
def MakeCut (w : World) (v : Int) (code : List (BitVec 8)) (n : Nat) (s : Value) (wx : World) : Prop := ∃ X A4 N4 c4 g1 g2, s = .pointer (some ⟨X, 0, none⟩) ∧ Hid (N4 = n) ∧ Box4 wx X v A4 N4 c4 (some ⟨g1, 0, none⟩) 32 32 (some ⟨g2, 0, none⟩) 32 32 ∧ Bank w wx [rowAcc A4 N4 c4 code, boxAcc w.heap.size 26 [.int .i64 0, .slice none 0 0, .slice none 0 0, .slice none 0 0]]
set_option maxHeartbeats 8000000 in
set_option maxRecDepth 100000 in
theorem make1_any (p q r : Nat) (key code : List (BitVec 8)) (v : Int) (K A : Option Addr) (kn kc n c : Nat) (w : World) (hp : w.cell? ⟨p, 0, none⟩ = some (.int .i64 v)) (hq : w.cell? ⟨q, 0, none⟩ = some (.slice A n c)) (hr : w.cell? ⟨r, 0, none⟩ = some (.slice K kn kc))
    (hk : RowRd w ⟨K, kn, kc⟩ key) (hc : RowRd w ⟨A, n, c⟩ code) (hkn : kn ≤ 10000000000) (hn : n ≤ 10000000000) (hKt : HasK w) (hFt : HasF w) :
    Calls Tryz.prog 32 #[.pointer (some ⟨p, 0, none⟩), .pointer (some ⟨q, 0, none⟩), .pointer (some ⟨r, 0, none⟩)] w (CloPost w (M.bseal key v code) (M.bmakeE v code)) := by
  have HP := Lib.hid hp; have HQ := Lib.hid hq; have HRR := Lib.hid hr; have HK := Lib.hid hk; have HC := Lib.hid hc; have HL := Lib.hid (show code.length = n from hc.len); have TK := Lib.hid hKt; have TF := Lib.hid hFt
  have BK0 := Lib.hid ((Bank.nil (Below.refl w.heap.size w)).box #[.int .i64 0, .slice none 0 0, .slice none 0 0, .slice none 0 0] 26 (by simp))
  clear hp hq hr hk hc hKt hFt
  go_enter Tryz.func32, Tryz.ntmps32
  go_upto_region 1 with fail
  generalize hw1 : w.alloc (.cells #[.int .i64 0, .slice none 0 0, .slice none 0 0, .slice none 0 0] 26) = w1 at *
  clear hw1
  go_cut [4] (fun s wx => MakeCut w v code n s wx)
  case first =>
    have HLn := Lib.hid (show code.length = n from HC.out.len)
    refine wp_region_sets (MkI w (.pointer (some ⟨p, 0, none⟩)) (.pointer (some ⟨q, 0, none⟩)) (.pointer (some ⟨r, 0, none⟩)) v A n c code) (by kernel_rfl) ?_ ?_ ?_
    · refine ⟨false, false, false, false, false, false, false, false, false, undef, undef, undef, undef, undef, undef, undef, undef, 0, 0, 0, none, 0, 0, [], [], [], [], rfl, rfl, ?_⟩
      constructor <;> first | (intro h; cases h; done) | (intro _; rfl) | exact BK0.out.drew
    · intro listed a wx i hI hi
      obtain ⟨m0, m1, m2, m3, m4, m5, m6, m7, m8, s4, s5, s6, s7, s8, s9, s10, s11, g4, g8, g9, A7, N7, c7, L7, L8, L9, L4, rfl, rfl, h⟩ := hI
      have hlt := ready_lt hi
      have HH := Lib.hid h
      have y0 := (h.bank.since.cell (block_lt_of_cell HP.out)).trans HP.out
      have y1 := (h.bank.since.cell (block_lt_of_cell HQ.out)).trans HQ.out
      clear h
      rcases i with _ | _ | _ | _ | _ | _ | _ | _ | _ | i
      all_goals first | (have hr := ready_after hi rfl; simp [Region.binds] at hr) | exact absurd hlt (by simp)
      · subst hr
        refine wpOp_step (o := _) rfl (fun K' hK => ?_)
        go_simp
        exact hK _ _ ⟨true, m1, m2, m3, m4, m5, m6, m7, m8, s4, .int .i64 v, s6, s7, s8, s9, s10, s11, g4, g8, g9, A7, N7, c7, L7, L8, L9, L4, rfl, rfl, { HH.out with a0 := fun _ => rfl, a5 := fun h => by cases (HH.out.a5 h).1.1 }⟩
      · subst hr
        refine wpOp_step (o := _) rfl (fun K' hK => ?_)
        go_simp
        exact hK _ _ ⟨m0, true, m2, m3, m4, m5, m6, m7, m8, s4, s5, .slice A n c, s7, s8, s9, s10, s11, g4, g8, g9, A7, N7, c7, L7, L8, L9, L4, rfl, rfl, { HH.out with a1 := fun _ => rfl }⟩
      · obtain ⟨rfl, hm1⟩ := hr
        obtain rfl := HH.out.a1 hm1
        obtain rfl := HH.out.n2 rfl
        obtain rfl := off_of (fun h => (HH.out.a5 h).1.2.1) rfl
        obtain rfl := off_of (fun h => (HH.out.a6 h).1) rfl
        obtain rfl := off_of (fun h => (HH.out.a8 h).1) rfl
        refine wpOp_step (o := _) rfl (fun K' hK => ?_)
        go_simp
        go_at_call 33
        refine (clone_from HC.out (by omega) HH.out.bank.since).mono ?_
        rintro e w4 ⟨A4, N4, c4, rfl, hN4, ho4, hb4⟩
        exact hK _ _ ⟨m0, m1, true, m3, m4, false, false, m7, false, s4, s5, .slice A n c, .slice A4 N4 c4, s8, s9, s10, s11, g4, g8, g9, A4, N4, c4, [rowAcc A4 N4 c4 code], L8, L9, L4, rfl, rfl, { HH.out with a2 := fun _ => ⟨rfl, Lib.hid (hN4.trans HLn.out), rfl⟩, n2 := fun h => by (cases h), a5 := nofun, a6 := nofun, bank := HH.out.bank.madeB hb4 ho4 }⟩
      · subst hr
        obtain rfl := HH.out.n3 rfl
        obtain rfl := off_of (fun h => (HH.out.a5 h).1.2.2.1) rfl
        obtain rfl := off_of (fun h => (HH.out.a6 h).1) rfl
        obtain rfl := off_of (fun h => (HH.out.a8 h).1) rfl
        refine wpOp_step (o := _) rfl (fun K' hK => ?_)
        refine step_make32 HH.out.bank rfl rfl fun g w' hB => ?_
        exact hK _ _ ⟨m0, m1, m2, true, m4, false, false, m7, false, s4, s5, s6, s7, .slice (some ⟨g, 0, none⟩) 32 32, s9, s10, s11, g4, g, g9, A7, N7, c7, L7, [boxAcc g 5 zeros32.toList], L9, L4, rfl, rfl, { HH.out with a3 := fun _ => ⟨rfl, rfl⟩, n3 := fun h => by (cases h), a5 := nofun, a6 := nofun, bank := hB.mid }⟩
      · subst hr
        obtain rfl := HH.out.n4 rfl
        obtain rfl := off_of (fun h => (HH.out.a5 h).1.2.2.2) rfl
        obtain rfl := off_of (fun h => (HH.out.a6 h).1) rfl
        obtain rfl := off_of (fun h => (HH.out.a8 h).1) rfl
        refine wpOp_step (o := _) rfl (fun K' hK => ?_)
        refine step_make32 HH.out.bank rfl rfl fun g w' hB => ?_
        exact hK _ _ ⟨m0, m1, m2, m3, true, false, false, m7, false, s4, s5, s6, s7, s8, .slice (some ⟨g, 0, none⟩) 32 32, s10, s11, g4, g8, g, A7, N7, c7, L7, L8, [boxAcc g 5 zeros32.toList], L4, rfl, rfl, { HH.out with a4 := fun _ => ⟨rfl, rfl⟩, n4 := fun h => by (cases h), a5 := nofun, a6 := nofun, bank := by { have hB2 := Bank.mid (a := L7 ++ L8) (b := L4 ++ [boxAcc w.heap.size 26 zeroV]) (by rw [List.append_assoc]; exact hB); rw [List.append_assoc] at hB2; exact hB2 } }⟩
      · obtain ⟨rfl, hm0, hm2, hm3, hm4⟩ := hr
        obtain rfl := HH.out.a0 hm0
        obtain ⟨rfl, hNn, hL7⟩ := HH.out.a2 hm2
        obtain ⟨rfl, hL8⟩ := HH.out.a3 hm3
        obtain ⟨rfl, hL9⟩ := HH.out.a4 hm4
        clear hL7 hL8 hL9
        refine wpOp_step (o := _) rfl (fun K' hK => ?_)
        go_simp
        exact hK _ _ ⟨m0, m1, m2, m3, m4, true, m6, m7, m8, s4, .int .i64 v, s6, .slice A7 N7 c7, .slice (some ⟨g8, 0, none⟩) 32 32, .slice (some ⟨g9, 0, none⟩) 32 32, .agg #[.int .i64 v, .slice A7 N7 c7, .slice (some ⟨g8, 0, none⟩) 32 32, .slice (some ⟨g9, 0, none⟩) 32 32], s11, g4, g8, g9, A7, N7, c7, L7, L8, L9, L4, rfl, rfl, { HH.out with a5 := fun _ => ⟨⟨hm0, hm2, hm3, hm4⟩, rfl⟩, a6 := fun h => ⟨rfl, (HH.out.a6 h).2⟩ }⟩
      · obtain ⟨rfl, hm5⟩ := hr
        obtain ⟨_, rfl⟩ := HH.out.a5 hm5
        refine wpOp_step (o := _) rfl (fun K' hK => ?_)
        go_simp
        exact hK _ _ ⟨m0, m1, m2, m3, m4, m5, true, m7, m8, s4, s5, s6, s7, s8, s9, .agg #[.int .i64 v, .slice A7 N7 c7, .slice (some ⟨g8, 0, none⟩) 32 32, .slice (some ⟨g9, 0, none⟩) 32 32], .agg #[.int .i64 v, .slice A7 N7 c7, .slice (some ⟨g8, 0, none⟩) 32 32, .slice (some ⟨g9, 0, none⟩) 32 32], g4, g8, g9, A7, N7, c7, L7, L8, L9, L4, rfl, rfl, { HH.out with a6 := fun _ => ⟨hm5, rfl⟩, a8 := fun h => ⟨rfl, (HH.out.a8 h).2⟩ }⟩
      · subst hr
        obtain rfl := HH.out.n7 rfl
        obtain rfl := off_of (fun h => (HH.out.a8 h).2) rfl
        refine wpOp_step (o := _) rfl (fun K' hK => ?_)
        refine step_alloc_look HH.out.bank rfl rfl fun g w' hB => ?_
        exact hK _ _ ⟨m0, m1, m2, m3, m4, m5, m6, true, false, .pointer (some ⟨g, 0, none⟩), s5, s6, s7, s8, s9, s10, s11, g, g8, g9, A7, N7, c7, L7, L8, L9, [boxAcc g 52 zeroV], rfl, rfl, { HH.out with a7 := fun _ => ⟨rfl, rfl⟩, n7 := fun h => by (cases h), a8 := fun h => by (cases h), bank := by { have hB2 := Bank.mid (a := L7 ++ (L8 ++ L9)) (b := [boxAcc w.heap.size 26 zeroV]) (by rw [List.append_assoc, List.append_assoc]; exact hB); rw [List.append_assoc, List.append_assoc] at hB2; exact hB2 } }⟩
      · obtain ⟨rfl, hm7, hm6, hmr⟩ := hr
        obtain ⟨hm5, rfl⟩ := HH.out.a6 hm6
        obtain ⟨hm0, hm2, hm3, hm4⟩ := (HH.out.a5 hm5).1
        obtain ⟨rfl, hL4⟩ := HH.out.a7 hm7
        obtain ⟨_, hNn, rfl⟩ := HH.out.a2 hm2
        obtain ⟨_, rfl⟩ := HH.out.a3 hm3
        obtain ⟨_, rfl⟩ := HH.out.a4 hm4
        subst hL4
        refine wpOp_step (o := _) rfl (fun K' hK => ?_)
        refine step_store_look HH.out.bank rfl (.tmp 4) (.tmp 11) rfl 3 g4 rfl rfl v A7 N7 c7 (some ⟨g8, 0, none⟩) 32 32 (some ⟨g9, 0, none⟩) 32 32 rfl fun w' hB => ?_
        exact hK _ _ ⟨m0, m1, m2, m3, m4, m5, m6, m7, true, .pointer (some ⟨g4, 0, none⟩), s5, s6, s7, s8, s9, s10, .agg #[.int .i64 v, .slice A7 N7 c7, .slice (some ⟨g8, 0, none⟩) 32 32, .slice (some ⟨g9, 0, none⟩) 32 32], g4, g8, g9, A7, N7, c7, [rowAcc A7 N7 c7 code], [boxAcc g8 5 zeros32.toList], [boxAcc g9 5 zeros32.toList], [boxAcc g4 52 (bunL v A7 N7 c7 (some ⟨g8, 0, none⟩) 32 32 (some ⟨g9, 0, none⟩) 32 32)], rfl, rfl, { HH.out with a7 := fun _ => ⟨rfl, rfl⟩, n7 := fun h => by (rw [hm7] at h; cases h), a8 := fun _ => ⟨hm6, hm7⟩, bank := hB }⟩
    · intro listed a wx hI hn
      obtain ⟨m0, m1, m2, m3, m4, m5, m6, m7, m8, s4, s5, s6, s7, s8, s9, s10, s11, g4, g8, g9, A7, N7, c7, L7, L8, L9, L4, rfl, rfl, h⟩ := hI
      obtain rfl : m0 = true := ready_none (i := 0) hn rfl (by simp [Region.binds])
      obtain rfl : m1 = true := ready_none (i := 1) hn rfl (by simp [Region.binds])
      obtain rfl : m2 = true := ready_none (i := 2) hn rfl (by simp [Region.binds])
      obtain rfl : m3 = true := ready_none (i := 3) hn rfl (by simp [Region.binds])
      obtain rfl : m4 = true := ready_none (i := 4) hn rfl (by simp [Region.binds])
      obtain rfl : m5 = true := ready_none (i := 5) hn rfl (by simp [Region.binds])
      obtain rfl : m6 = true := ready_none (i := 6) hn rfl (by simp [Region.binds])
      obtain rfl : m7 = true := ready_none (i := 7) hn rfl (by simp [Region.binds])
      obtain rfl : m8 = true := ready_none (i := 8) hn rfl (by simp [Region.binds])
      obtain ⟨rfl, hL4⟩ := h.a7 rfl
      obtain ⟨_, hNn, rfl⟩ := h.a2 rfl
      obtain ⟨_, rfl⟩ := h.a3 rfl
      obtain ⟨_, rfl⟩ := h.a4 rfl
      subst hL4
      have hB := h.bank
      go_wp2_with fail
      go_meet
      exact ⟨g4, A7, N7, c7, g8, g9, rfl, hNn, ⟨hB.cell 3 rfl 0 rfl, hB.cell 3 rfl 1 rfl, hB.cell 3 rfl 2 rfl, hB.cell 3 rfl 3 rfl⟩, hB.sub (.cons_cons _ (.cons _ (.cons _ (.cons _ (.cons_cons _ .slnil)))))⟩
  case rest =>
    obtain ⟨X, A4, N4, c4, g1, g2, rfl, HN4, ⟨x0, x1, x2, x3⟩, hB⟩ := hcut
    have BKc := Lib.hid hB
    clear hB BK0
    obtain ⟨zz, hzz⟩ : ∃ zz : List (BitVec 8), zz.length = 32 := ⟨List.replicate 32 0#8, List.length_replicate ..⟩
    have HZ := Lib.hid hzz
    have HW := Lib.hid (show M.bwrong ⟨v, code, zz, zz⟩ = M.bmakeE v code by unfold M.bwrong M.bmakeE; dsimp only; rw [hzz]; simp)
    have HR := Lib.hid (show RowRd wc ⟨A4, N4, c4⟩ code from BKc.out.row 0 rfl)
    clear hzz
    go_wp2_with fail
    refine (check_any ⟨v, code, zz, zz⟩ A4 (some ⟨g1, 0, none⟩) (some ⟨g2, 0, none⟩) N4 c4 32 32 32 32 wc (by rw [HN4.out]; exact HL.out) HZ.out HZ.out).mono ?_
    rintro e w12 ⟨rfl, hs12⟩
    rw [HW.out]
    have BKd := Lib.hid (BKc.out.call hs12)
    have HR2 := Lib.hid (Since.row hs12 HR.out)
    have z0 := (hs12.cell (block_lt_of_cell x0)).trans x0
    have z1 := (hs12.cell (block_lt_of_cell x1)).trans x1
    have z2 := (hs12.cell (block_lt_of_cell x2)).trans x2
    have z3 := (hs12.cell (block_lt_of_cell x3)).trans x3
    have zr := (BKd.out.since.cell (block_lt_of_cell HRR.out)).trans HRR.out
    clear hs12 x0 x1 x2 x3 BKc HR
    by_cases hE : M.bmakeE v code = 0
    · rw [if_pos hE]
      have HE := Lib.hid hE
      clear hE
      go_wp2_with fail
      refine (sealed_any key code v K A4 (some ⟨g1, 0, none⟩) (some ⟨g2, 0, none⟩) kn kc N4 c4 32 32 32 32 w12 (Since.row BKd.out.since HK.out) HR2.out hkn (by rw [HN4.out]; exact hn) (TK.out.below BKd.out.since) (TF.out.below BKd.out.since)).mono ?_
      rintro e w13 ⟨B3, d3, C3, l3, rfl, hB3⟩
      have BKe := Lib.hid (bank_under BKd.out hB3)
      clear hB3 z0 z1 z2 z3 zr
      have HRES := Lib.hid (BKe.out.boxAt 3 rfl).2
      have HFIN := Lib.hid (show CloPost w (M.bseal key v code) (M.bmakeE v code) (.returned (.agg (bunL v A4 N4 c4 B3 32 d3 C3 32 l3).toArray)) (w13.setRow w.heap.size (bunL v A4 N4 c4 B3 32 d3 C3 32 l3).toArray) from by
        have h := BKe.out.boxRow 3 rfl (bunL v A4 N4 c4 B3 32 d3 C3 32 l3) rfl (by decide)
        exact .inl ⟨HE.out, A4, N4, c4, B3, 32, d3, C3, 32, l3, rfl, by rw [HN4.out]; exact HL.out.symm, rfl, (M.tag_length _ _).symm, h.sub (.cons_cons _ (.cons_cons _ (.cons_cons _ (.cons _ .slnil))))⟩)
      have hfl := run_field_look
      go_wp2_with (with_reducible refine wpList_store_row rfl 26 (.tmp 3) (.tmp 17) rfl w.heap.size (bunL v A4 N4 c4 B3 32 d3 C3 32 l3).toArray rfl rfl 26 _ HRES.out (infoBunL v A4 N4 c4 B3 32 d3 C3 32 l3) rfl (bunL_one _ _ _ _ _ _ _ _ _ _) ?_)
      refine bodyPost_ret (v := .agg (bunL v A4 N4 c4 B3 32 d3 C3 32 l3).toArray) ?_ rfl HFIN.out
      exact results_cell_one rfl _ _ w.heap.size _ rfl (load_bun _ _ _ _ _ _ _ _ _ _ (setRow_heap _ _ _ _ _ _ HRES.out))
    · rw [if_neg hE]
      have HFIN := Lib.hid (show CloPost w (M.bseal key v code) (M.bmakeE v code) (.panicked (errP (M.bmakeE v code))) w12 from .inr ⟨hE, rfl, BKd.out.since⟩)
      clear hE
      go_wp2_with fail
      exact ⟨rfl, HFIN.out⟩
end Go.Proofs.YtidcfjmibljkeaaGreatDoor.K

/- The contract of bundle's Make. -/
namespace Go.Proofs.YtidcfjmibljkeaaGreatDoor.K
open Go Go.RowKit

set_option maxHeartbeats 8000000 in
set_option maxRecDepth 100000 in
theorem pmakeB_any (key code : List (BitVec 8)) (v : Int) (K A : Option Addr) (kn kc n c : Nat) (w : World) (hk : RowRd w ⟨K, kn, kc⟩ key) (hc : RowRd w ⟨A, n, c⟩ code) (hkn : kn ≤ 10000000000) (hn : n ≤ 10000000000) (hKt : HasK w) (hFt : HasF w) :
    Calls Tryz.prog 9 #[.slice K kn kc, .int .i64 v, .slice A n c] w (ToldE w (M.bmake key v code) (M.bmakeE v code)) := by
  have hmf : ∀ (fn : Fn) (first cap : Array Value) (w : World), (Instr.makeFunc fn first cap).run Tryz.prog w = .ok (.func fn first cap) w := fun _ _ _ _ => rfl
  have HK := Lib.hid hk; have HC := Lib.hid hc; have TK := Lib.hid hKt; have TF := Lib.hid hFt
  have BK0 := Lib.hid (((((Bank.nil (Below.refl w.heap.size w)).box #[.slice K kn kc] 22 (by simp)).box #[.int .i64 v] 3 (by simp)).box #[.slice A n c] 22 (by simp)).box #[.int .i64 0, .slice none 0 0, .slice none 0 0, .slice none 0 0] 26 (by simp))
  rw [World.size_alloc, World.size_alloc, World.size_alloc] at BK0
  clear hk hc hKt hFt
  go_enter Tryz.func9, Tryz.ntmps9
  go_wp2_with fail
  generalize hw1 : (((w.alloc (.cells #[.slice K kn kc] 22)).alloc (.cells #[.int .i64 v] 3)).alloc (.cells #[.slice A n c] 22)).alloc (.cells #[.int .i64 0, .slice none 0 0, .slice none 0 0, .slice none 0 0] 26) = w1 at *
  clear hw1
  have S12 := Lib.hid (Since.alloc (Since.alloc (Below.refl w1.heap.size w1) (.cells #[.int .i64 0, .slice none 0 0, .slice none 0 0, .slice none 0 0] 26)) (.cells #[.int .i64 0] 27))
  have hcK := BK0.out.cell 3 rfl 0 rfl
  have hcV := BK0.out.cell 2 rfl 0 rfl
  have hcA := BK0.out.cell 1 rfl 0 rfl
  refine (triedMake_any ⟨w.heap.size + 1, 0, none⟩ ⟨w.heap.size + 1 + 1, 0, none⟩ ⟨w.heap.size, 0, none⟩ (M.bseal key v code) (M.bmakeE v code) w1 (make1_any (w.heap.size + 1) (w.heap.size + 1 + 1) w.heap.size key code v K A kn kc n c _ ((S12.out.cell (block_lt_of_cell hcV)).trans hcV) ((S12.out.cell (block_lt_of_cell hcA)).trans hcA) ((S12.out.cell (block_lt_of_cell hcK)).trans hcK) (Since.row (Since.add BK0.out.since S12.out) HK.out) (Since.row (Since.add BK0.out.since S12.out) HC.out) hkn hn (TK.out.below (Since.add BK0.out.since S12.out)) (TF.out.below (Since.add BK0.out.since S12.out)))).mono ?_
  rintro e w2 ⟨x, rfl, A2, n2, c2, B2, m2, d2, C2, k2, l2, rfl, hn2, hm2, hk2, hB⟩
  have BK2 := Lib.hid (bank_under BK0.out hB)
  have HN2 := Lib.hid hn2; have HM2 := Lib.hid hm2; have HK2 := Lib.hid hk2
  clear hB BK0 S12 hcK hcV hcA hn2 hm2 hk2
  obtain ⟨v2, hv2⟩ : ∃ v2, v2 = (orZero (M.bmakeE v code) (M.bseal key v code)).ver := ⟨_, rfl⟩
  have HV2 := Lib.hid hv2
  rw [← hv2]
  clear hv2
  obtain ⟨e2, he2⟩ : ∃ e2 : Int, e2 = (M.bmakeE v code : Int) := ⟨_, rfl⟩
  have HE2 := Lib.hid he2
  rw [← he2]
  clear he2
  have HRES := Lib.hid (BK2.out.boxAt 3 rfl).2
  have HFIN := Lib.hid (show ToldE w (M.bmake key v code) (M.bmakeE v code) (.returned (.tuple #[.agg (bunL v2 A2 n2 c2 B2 m2 d2 C2 k2 l2).toArray, .int .i64 e2])) (w2.setRow (w.heap.size + 1 + 1 + 1) (bunL v2 A2 n2 c2 B2 m2 d2 C2 k2 l2).toArray) from by
    have h := BK2.out.boxRow 3 rfl (bunL v2 A2 n2 c2 B2 m2 d2 C2 k2 l2) rfl (by decide)
    exact ⟨_, by rw [HE2.out], A2, n2, c2, B2, m2, d2, C2, k2, l2, by rw [HV2.out]; rfl, HN2.out, HM2.out, HK2.out, h.sub (.cons_cons _ (.cons_cons _ (.cons_cons _ (.cons _ (.cons _ (.cons _ (.cons _ .slnil)))))))⟩)
  go_wp2_with (with_reducible refine wpList_store_row rfl 26 (.tmp 6) (.tmp 10) rfl (w.heap.size + 1 + 1 + 1) (bunL v2 A2 n2 c2 B2 m2 d2 C2 k2 l2).toArray rfl rfl 26 _ HRES.out (infoBunL v2 A2 n2 c2 B2 m2 d2 C2 k2 l2) rfl (bunL_one _ _ _ _ _ _ _ _ _ _) ?_)
  refine bodyPost_ret (v := .tuple #[.agg (bunL v2 A2 n2 c2 B2 m2 d2 C2 k2 l2).toArray, .int .i64 e2]) ?_ rfl HFIN.out
  exact results_cell_tmp rfl _ _ (w.heap.size + 1 + 1 + 1) _ _ rfl rfl (load_bun _ _ _ _ _ _ _ _ _ _ (setRow_heap _ _ _ _ _ _ HRES.out))
end Go.Proofs.YtidcfjmibljkeaaGreatDoor.K

/- The contracts of the closures that bundle hands to tried: Check's and Put's. -/
namespace Go.Proofs.YtidcfjmibljkeaaGreatDoor.K
open Go Go.RowKit

set_option maxHeartbeats 2000000 in
set_option maxRecDepth 100000 in
theorem check1_any (X : Nat) (b : M.Bun) (A : Option Addr) (n c : Nat) (B : Option Addr) (m d : Nat) (C : Option Addr) (k l : Nat) (w : World) (hx : Box4 w X b.ver A n c B m d C k l) (hn : b.code.length = n) (hm : b.dig.length = m) (hk : b.tag.length = k) :
    Calls Tryz.prog 48 #[.pointer (some ⟨X, 0, none⟩)] w (CloBool w (M.bwrong b)) := by
  obtain ⟨x0, x1, x2, x3⟩ := hx
  have HN := Lib.hid hn; have HM := Lib.hid hm; have HK := Lib.hid hk
  clear hn hm hk
  go_enter Tryz.func48, Tryz.ntmps48
  go_wp2_with fail
  refine (check_any b A B C n c m d k l w HN.out HM.out HK.out).mono ?_
  rintro e w1 ⟨rfl, hs⟩
  by_cases hE : M.bwrong b = 0
  · rw [if_pos hE]
    have HFIN := Lib.hid (show CloBool w (M.bwrong b) (.returned (.bool true)) w1 from .inl ⟨hE, rfl, hs⟩)
    clear hE hs x0 x1 x2 x3
    go_wp2
    go_ret
    exact HFIN.out
  · rw [if_neg hE]
    have HFIN := Lib.hid (show CloBool w (M.bwrong b) (.panicked (errP (M.bwrong b))) w1 from .inr ⟨hE, rfl, hs⟩)
    clear hE hs x0 x1 x2 x3
    go_wp2
    exact ⟨rfl, HFIN.out⟩
set_option maxHeartbeats 8000000 in
set_option maxRecDepth 100000 in
theorem put1_any (X : Nat) (b : M.Bun) (A : Option Addr) (n c : Nat) (B : Option Addr) (m d : Nat) (C : Option Addr) (k l : Nat) (w : World) (hx : Box4 w X b.ver A n c B m d C k l) (h : BunIn w b A n c B m d C k l) (hn : n ≤ 10000000000) (hm : m ≤ 10000000000) (hk : k ≤ 10000000000) :
    Calls Tryz.prog 43 #[.pointer (some ⟨X, 0, none⟩)] w (CloBytes w (M.bbytes b) (M.bwrong b)) := by
  obtain ⟨x0, x1, x2, x3⟩ := hx
  have H := Lib.hid h
  have HL := Lib.hid (show b.code.length = n ∧ b.dig.length = m ∧ b.tag.length = k from ⟨h.code.len, h.dig.len, h.tag.len⟩)
  have BK0 := Lib.hid ((Bank.nil (Below.refl w.heap.size w)).box #[.int .i64 b.ver, .slice A n c, .slice B m d, .slice C k l] 52 (by simp))
  have HX2 := Lib.hid x2; have HX3 := Lib.hid x3
  clear h
  go_enter Tryz.func43, Tryz.ntmps43
  go_wp2_with fail
  generalize hw1 : w.alloc (.cells #[.int .i64 b.ver, .slice A n c, .slice B m d, .slice C k l] 52) = w1 at *
  clear hw1
  refine (check_any b A B C n c m d k l w1 HL.out.1 HL.out.2.1 HL.out.2.2).mono ?_
  rintro e w2 ⟨rfl, hs⟩
  have BK2 := Lib.hid (BK0.out.call hs)
  clear hs BK0 x0 x1 x2 x3
  by_cases hE : M.bwrong b = 0
  · rw [if_pos hE]
    have HE := Lib.hid hE
    clear hE
    go_wp2_with fail
    have hB := BK2.out.drew
    have x0 := hB.cell 0 rfl 0 rfl
    have x1 := hB.cell 0 rfl 1 rfl
    have x2 := hB.cell 0 rfl 2 rfl
    have x3 := hB.cell 0 rfl 3 rfl
    have y2 := (hB.since.cell (block_lt_of_cell HX2.out)).trans HX2.out
    have y3 := (hB.since.cell (block_lt_of_cell HX3.out)).trans HX3.out
    go_region_law (first
      | (go_simp; go_at_call 45; refine (part_any b.ver b.code A B C n c m d k l _ (Since.row hB.since H.out.code) (by omega)).mono ?_; rintro e w3 ⟨g3, N3, c3, rfl, hN3, ho3, hb3⟩; have hN3' := Nat.le_of_eq hN3; have hB := hB.madeB hb3 ho3; clear hN3 ho3 hb3; have y2 := (hB.since.cell (block_lt_of_cell HX2.out)).trans HX2.out; have y3 := (hB.since.cell (block_lt_of_cell HX3.out)).trans HX3.out)
      | (go_simp; go_at_call 46; ((with_reducible refine (bytes_made H.out.dig (by omega) hB.since).mono ?_); rintro e w4 ⟨g4, N4, c4, rfl, hN4, ho4, hb4⟩; have hN4' := Nat.le_of_eq hN4; have hB := hB.madeB hb4 ho4; clear hN4 ho4 hb4; have y2 := (hB.since.cell (block_lt_of_cell HX2.out)).trans HX2.out; have y3 := (hB.since.cell (block_lt_of_cell HX3.out)).trans HX3.out; (first | (have x0 := hB.cell 1 rfl 0 rfl; have x1 := hB.cell 1 rfl 1 rfl; have x2 := hB.cell 1 rfl 2 rfl; have x3 := hB.cell 1 rfl 3 rfl) | (have x0 := hB.cell 2 rfl 0 rfl; have x1 := hB.cell 2 rfl 1 rfl; have x2 := hB.cell 2 rfl 2 rfl; have x3 := hB.cell 2 rfl 3 rfl) | skip)))
      | (go_simp; go_at_call 46; ((with_reducible refine (bytes_made H.out.tag (by omega) hB.since).mono ?_); rintro e w5 ⟨g5, N5, c5, rfl, hN5, ho5, hb5⟩; have hN5' := Nat.le_of_eq hN5; have hB := hB.madeB hb5 ho5; clear hN5 ho5 hb5; have y2 := (hB.since.cell (block_lt_of_cell HX2.out)).trans HX2.out; have y3 := (hB.since.cell (block_lt_of_cell HX3.out)).trans HX3.out; (first | (have x0 := hB.cell 1 rfl 0 rfl; have x1 := hB.cell 1 rfl 1 rfl; have x2 := hB.cell 1 rfl 2 rfl; have x3 := hB.cell 1 rfl 3 rfl) | (have x0 := hB.cell 2 rfl 0 rfl; have x1 := hB.cell 2 rfl 1 rfl; have x2 := hB.cell 2 rfl 2 rfl; have x3 := hB.cell 2 rfl 3 rfl) | skip)))
      | (go_simp; go_at_call 44; refine (join_litB [(⟨some ⟨g3, 0, none⟩, N3, c3⟩, M.bpart b.ver b.code), (⟨some ⟨g4, 0, none⟩, N4, c4⟩, M.blob b.dig), (⟨some ⟨g5, 0, none⟩, N5, c5⟩, M.blob b.tag)] _ _ 3 3 rfl rfl (by first | exact three_rows (hB.row 2 rfl) (hB.row 1 rfl) (hB.row 0 rfl) | exact three_rows (hB.row 2 rfl) (hB.row 0 rfl) (hB.row 1 rfl) | exact three_rows (hB.row 1 rfl) (hB.row 2 rfl) (hB.row 0 rfl) | exact three_rows (hB.row 1 rfl) (hB.row 0 rfl) (hB.row 2 rfl) | exact three_rows (hB.row 0 rfl) (hB.row 1 rfl) (hB.row 2 rfl) | exact three_rows (hB.row 0 rfl) (hB.row 2 rfl) (hB.row 1 rfl)) (by simp) (by rw [flat3, List.length_append, List.length_append, M.bpart_length, M.blob_length, M.blob_length, HL.out.1, HL.out.2.1, HL.out.2.2]; omega)).mono ?_; rintro e w6 ⟨A6, N6, c6, rfl, hN6, ho6, hb6⟩; have hB := (hB.alloc _).madeB hb6 ho6; clear hN6 ho6 hb6)
      | fail "arm")
    all_goals
      have ho := hB.at 0 rfl
      have HS6 := Lib.hid hB.since
      rw [flat3] at ho
      have HFIN := Lib.hid (show CloBytes w (M.bbytes b) (M.bwrong b) (.returned (.slice A6 N6 c6)) w6 from by
        have e : M.bbytes b = M.bpart b.ver b.code ++ (M.blob b.dig ++ M.blob b.tag) := by unfold M.bbytes; rw [List.append_assoc]
        rw [e]
        exact .inl ⟨HE.out, A6, N6, c6, rfl, (RowRd.of_row ho).len.symm, ho, HS6.out⟩)
      clear ho hB hN3' hN4' hN5' x0 x1 x2 x3 y2 y3
      go_wp2_with fail
      go_ret
      exact HFIN.out
  · rw [if_neg hE]
    have HFIN := Lib.hid (show CloBytes w (M.bbytes b) (M.bwrong b) (.panicked (errP (M.bwrong b))) w2 from .inr ⟨hE, rfl, BK2.out.since⟩)
    clear hE
    go_wp2
    exact ⟨rfl, HFIN.out⟩
end Go.Proofs.YtidcfjmibljkeaaGreatDoor.K

/- The contracts of bundle's Put and Check. -/
namespace Go.Proofs.YtidcfjmibljkeaaGreatDoor.K
open Go Go.RowKit

theorem box4_of {w : World} {X : Nat} {t : TypeId} {v : Int} {A : Option Addr} {n c : Nat} {B : Option Addr} {m d : Nat} {C : Option Addr} {k l : Nat} (h : w.heap[X]? = some (.cells (bunL v A n c B m d C k l).toArray t (0, 0))) : Box4 w X v A n c B m d C k l :=
  ⟨block_cell h rfl, block_cell h rfl, block_cell h rfl, block_cell h rfl⟩
set_option maxHeartbeats 4000000 in
set_option maxRecDepth 100000 in
theorem pputB_any (b : M.Bun) (A : Option Addr) (n c : Nat) (B : Option Addr) (m d : Nat) (C : Option Addr) (k l : Nat) (w : World) (h : BunIn w b A n c B m d C k l) (hn : n ≤ 10000000000) (hm : m ≤ 10000000000) (hk : k ≤ 10000000000) :
    Calls Tryz.prog 17 #[.agg #[.int .i64 b.ver, .slice A n c, .slice B m d, .slice C k l]] w (PutE w b) := by
  have hmf : ∀ (fn : Fn) (first cap : Array Value) (w : World), (Instr.makeFunc fn first cap).run Tryz.prog w = .ok (.func fn first cap) w := fun _ _ _ _ => rfl
  have H := Lib.hid h
  have BK0 := Lib.hid ((Bank.nil (Below.refl w.heap.size w)).box #[.int .i64 b.ver, .slice A n c, .slice B m d, .slice C k l] 26 (by simp))
  clear h
  go_enter Tryz.func17, Tryz.ntmps17
  go_wp2_with fail
  generalize hw1 : w.alloc (.cells #[.int .i64 b.ver, .slice A n c, .slice B m d, .slice C k l] 26) = w1 at *
  clear hw1
  have S12 := Lib.hid (Since.alloc (Since.alloc (Below.refl w1.heap.size w1) (.cells #[.slice none 0 0] 22)) (.cells #[.int .i64 0] 27))
  have hbx := Since.at S12.out (BK0.out.boxAt 0 rfl).2
  refine (triedPut_any ⟨w.heap.size, 0, none⟩ (M.bbytes b) (M.bwrong b) w1 (put1_any w.heap.size b A n c B m d C k l _ (box4_of hbx) (H.out.since (Since.add BK0.out.since S12.out)) hn hm hk)).mono ?_
  rintro e w2 ⟨A2, N2, c2, rfl, hN2, ho2, hs2⟩
  have HFIN := Lib.hid (show PutE w b (.returned (.tuple #[.slice A2 N2 c2, .int .i64 (M.bwrong b : Int)])) w2 from ⟨A2, N2, c2, rfl, by unfold M.bput; exact hN2, by unfold M.bput; exact row_weaken ho2 BK0.out.since.size, Since.add BK0.out.since hs2⟩)
  clear hN2 ho2 hs2 hbx
  go_wp2_with fail
  go_ret2
  exact HFIN.out
set_option maxHeartbeats 8000000 in
set_option maxRecDepth 100000 in
theorem pcheckB_any (key : List (BitVec 8)) (b : M.Bun) (K : Option Addr) (kn kc : Nat) (A : Option Addr) (n c : Nat) (B : Option Addr) (m d : Nat) (C : Option Addr) (k l : Nat) (w : World) (hkr : RowRd w ⟨K, kn, kc⟩ key) (h : BunIn w b A n c B m d C k l) (hkn : kn ≤ 10000000000) (hn : n ≤ 10000000000) (hm : m ≤ 10000000000) (hk : k ≤ 10000000000) (hKt : HasK w) (hFt : HasF w) :
    Calls Tryz.prog 20 #[.slice K kn kc, .agg #[.int .i64 b.ver, .slice A n c, .slice B m d, .slice C k l]] w fun e w' => e = .returned (.int .i64 (M.bcheckE key b : Int)) ∧ Since w w' := by
  have hmf : ∀ (fn : Fn) (first cap : Array Value) (w : World), (Instr.makeFunc fn first cap).run Tryz.prog w = .ok (.func fn first cap) w := fun _ _ _ _ => rfl
  have H := Lib.hid h; have HK := Lib.hid hkr; have TK := Lib.hid hKt; have TF := Lib.hid hFt
  have HL := Lib.hid (show b.code.length = n ∧ b.dig.length = m ∧ b.tag.length = k from ⟨h.code.len, h.dig.len, h.tag.len⟩)
  have BK0 := Lib.hid (((Bank.nil (Below.refl w.heap.size w)).box #[.int .i64 b.ver, .slice A n c, .slice B m d, .slice C k l] 26 (by simp)).box #[.int .i64 b.ver, .slice A n c, .slice B m d, .slice C k l] 52 (by simp))
  rw [World.size_alloc] at BK0
  clear h hkr hKt hFt
  go_enter Tryz.func20, Tryz.ntmps20
  go_wp2_with fail
  generalize hw1 : (w.alloc (.cells #[.int .i64 b.ver, .slice A n c, .slice B m d, .slice C k l] 26)).alloc (.cells #[.int .i64 b.ver, .slice A n c, .slice B m d, .slice C k l] 52) = w1 at *
  clear hw1
  have S12 := Lib.hid (Since.alloc (Since.alloc (Below.refl w1.heap.size w1) (.cells #[.bool false] 4)) (.cells #[.int .i64 0] 27))
  have hbx := Since.at S12.out (BK0.out.boxAt 0 rfl).2
  refine (triedCheck_any ⟨w.heap.size + 1, 0, none⟩ (M.bwrong b) w1 (check1_any (w.heap.size + 1) b A n c B m d C k l _ (box4_of hbx) HL.out.1 HL.out.2.1 HL.out.2.2)).mono ?_
  rintro e w2 ⟨x, rfl, hs2⟩
  have BK2 := Lib.hid (BK0.out.call hs2)
  clear hs2 hbx BK0 S12
  by_cases hE : M.bwrong b = 0
  · have HE := Lib.hid hE
    rw [hE]
    clear hE
    have x0 := BK2.out.cell 0 rfl 0 rfl
    have x1 := BK2.out.cell 0 rfl 1 rfl
    have x2 := BK2.out.cell 0 rfl 2 rfl
    have x3 := BK2.out.cell 0 rfl 3 rfl
    go_wp2_with fail
    refine (sealed_any key b.code b.ver K A B C kn kc n c m d k l w2 (Since.row BK2.out.since HK.out) (Since.row BK2.out.since H.out.code) hkn hn (TK.out.below BK2.out.since) (TF.out.below BK2.out.since)).mono ?_
    rintro e w3 ⟨B3, d3, C3, l3, rfl, hB3⟩
    have BK3 := Lib.hid (BK2.out.call hB3.since)
    have HD3 := Lib.hid (show RowRd w3 ⟨B3, 32, d3⟩ (M.bdig b.ver b.code) from RowRd.of_row (hB3.at 1 rfl))
    have y2 := BK3.out.cell 1 rfl 2 rfl
    have y3 := BK3.out.cell 1 rfl 3 rfl
    have hby : w.heap.size < w3.heap.size := block_lt_of_cell y2
    clear hB3 x0 x1 x2 x3 BK2
    go_wp2_with fail
    have BK4 := Lib.hid (BK3.out.box #[.int .i64 b.ver, .slice A n c, .slice B3 32 d3, .slice C3 32 l3] 52 (by simp))
    have S34 := Lib.hid (show Since w3 (w3.alloc (.cells #[.int .i64 b.ver, .slice A n c, .slice B3 32 d3, .slice C3 32 l3] 52)) from Since.alloc (Below.refl _ _) _)
    generalize hX : w3.heap.size = X at *
    generalize hw4 : w3.alloc (.cells #[.int .i64 b.ver, .slice A n c, .slice B3 32 d3, .slice C3 32 l3] 52) = w4 at *
    clear hw4 y2 y3 hX BK3
    refine (equal_any B3 B 32 d3 m d _ _ w4 (Since.row S34.out HD3.out) (Since.row BK4.out.since H.out.dig)).mono ?_
    rintro e w5 ⟨rfl, rfl⟩
    have y2 := BK4.out.cell 0 rfl 2 rfl
    have z3 := BK4.out.cell 2 rfl 3 rfl
    by_cases hd : M.bdig b.ver b.code = b.dig
    · have HD := Lib.hid hd
      rw [decide_eq_true hd]
      clear hd
      go_wp2_with fail
      refine (fits_any K B3 C kn kc 32 d3 k l key _ _ w4 (Since.row BK4.out.since HK.out) (Since.row S34.out HD3.out) (Since.row BK4.out.since H.out.tag) (by omega) (by omega) (by omega) (TK.out.below BK4.out.since) (TF.out.below BK4.out.since)).mono ?_
      rintro e w6 ⟨rfl, hs6⟩
      have BK6 := Lib.hid (BK4.out.call hs6)
      clear hs6 y2 z3
      by_cases ht : M.tag key (M.bdig b.ver b.code) = b.tag
      · have HFIN := Lib.hid (show (Ending.returned (.int .i64 0) = .returned (.int .i64 (M.bcheckE key b : Int))) ∧ Since w w6 from ⟨by unfold M.bcheckE; rw [if_neg (by rw [HE.out]; decide), if_pos ⟨HD.out, ht⟩]; rfl, BK6.out.since⟩)
        first | rw [decide_eq_true ht] | rw [decide_eq_true ht.symm]
        clear ht
        go_wp2_with fail
        go_ret
        exact HFIN.out
      · have HFIN := Lib.hid (show (Ending.returned (.int .i64 11) = .returned (.int .i64 (M.bcheckE key b : Int))) ∧ Since w w6 from ⟨by unfold M.bcheckE; rw [if_neg (by rw [HE.out]; decide), if_neg (fun h => ht h.2)]; rfl, BK6.out.since⟩)
        first | rw [decide_eq_false ht] | rw [decide_eq_false (fun h => ht h.symm)]
        clear ht
        go_wp2_with fail
        go_ret
        exact HFIN.out
    · rw [decide_eq_false hd]
      have HFIN := Lib.hid (show (Ending.returned (.int .i64 11) = .returned (.int .i64 (M.bcheckE key b : Int))) ∧ Since w w4 from ⟨by unfold M.bcheckE; rw [if_neg (by rw [HE.out]; decide), if_neg (fun h => hd h.1)]; rfl, BK4.out.since⟩)
      clear hd
      go_wp2_with fail
      go_ret
      exact HFIN.out
  · have hE1 : ((M.bwrong b : Int) != 0) = true := by simpa using hE
    have HFIN := Lib.hid (show (Ending.returned (.int .i64 4) = .returned (.int .i64 (M.bcheckE key b : Int))) ∧ Since w w2 from ⟨by unfold M.bcheckE; rw [if_pos hE]; rfl, BK2.out.since⟩)
    clear hE
    go_wp2_with fail
    go_ret
    exact HFIN.out
end Go.Proofs.YtidcfjmibljkeaaGreatDoor.K

/- The contract of barbicankit.CopyBytes (with the bank of rows). -/
namespace Go.Proofs.YtidcfjmibljkeaaGreatDoor.K
open Go Go.RowKit

set_option maxHeartbeats 1000000 in
set_option maxRecDepth 100000 in
theorem CopyBytes_any (A : Option Addr) (n c : Nat) (bs : List (BitVec 8)) (w : World) (hx : RowRd w ⟨A, n, c⟩ bs) (hn2 : n ≤ 100000000000000) :
    Calls Tryz.prog 29 #[.slice A n c] w fun e w' => ∃ B c', e = .returned (.slice B n c') ∧ w'.ownsRow w.heap.size 5 1 (.slice B n c') n (bv bs) ∧ Below w.heap.size w w' := by
  have HX := Lib.hid hx
  have BK0 := Lib.hid (Bank.none (Bank.nil (Below.refl w.heap.size w)) 5 1)
  clear hx
  go_enter Tryz.func29, Tryz.ntmps29
  go_wp2_with (at_builtin; refine wpList_append_bytes BK0.out rfl _ _ 22 rfl 5 infoByte Tryz.underlying22 0 none 0 0 [] rfl rfl _ _ _ _ rfl HX.out (by omega) ?_; intro A2 n2 c2 w2 hn2' hB2; dsimp only [List.set] at hB2; rw [Nat.zero_add] at hn2'; subst hn2'; have BK2 := Lib.hid hB2; clear hB2)
  go_ret
  exact ⟨A2, c2, rfl, BK2.out.at 0 rfl, BK2.out.since⟩
end Go.Proofs.YtidcfjmibljkeaaGreatDoor.K

/- The contract of the kit's CopyBundle. -/
namespace Go.Proofs.YtidcfjmibljkeaaGreatDoor.K
open Go Go.RowKit

theorem results_cell_only {fn : Func} {p : Tmp} {ty : TypeId} {P : Program} (h : fn.results = #[.cell p ty]) (tmps : Array Value) (w : World) (g : Nat) (u : Value)
    (hp : tmps.getD p undef = .pointer (some ⟨g, 0, none⟩)) (hrun : (loadVar ty ⟨g, 0, none⟩).run P w = .ok u w) : (results fn tmps).run P w = .ok u w := by
  have hp' : tmps[p]?.getD undef = .pointer (some ⟨g, 0, none⟩) := by simpa using hp
  simp [results, h, hp', asAddr, hrun]
/-- a bundle was copied -/
def Copied (w : World) (b : M.Bun) (n m k : Nat) (e : Ending) (w' : World) : Prop := ∃ A c B d C l, e = .returned (.agg #[.int .i64 b.ver, .slice A n c, .slice B m d, .slice C k l]) ∧ Bank w w' [rowAcc C k l b.tag, rowAcc B m d b.dig, rowAcc A n c b.code]
set_option maxHeartbeats 8000000 in
set_option maxRecDepth 100000 in
theorem CopyBundle_any (b : M.Bun) (A : Option Addr) (n c : Nat) (B : Option Addr) (m d : Nat) (C : Option Addr) (k l : Nat) (w : World) (h : BunIn w b A n c B m d C k l) (hn : n ≤ 10000000000) (hm : m ≤ 10000000000) (hk : k ≤ 10000000000) :
    Calls Tryz.prog 26 #[.agg #[.int .i64 b.ver, .slice A n c, .slice B m d, .slice C k l]] w (Copied w b n m k) := by
  have H := Lib.hid h
  obtain ⟨v, hv⟩ : ∃ v, v = b.ver := ⟨_, rfl⟩
  have HV := Lib.hid hv
  rw [← hv]
  have BK0 := Lib.hid (((Bank.nil (Below.refl w.heap.size w)).box #[.int .i64 v, .slice A n c, .slice B m d, .slice C k l] 26 (by simp)).box #[.int .i64 0, .slice none 0 0, .slice none 0 0, .slice none 0 0] 26 (by simp))
  rw [World.size_alloc] at BK0
  clear h hv
  go_enter Tryz.func26, Tryz.ntmps26
  go_wp2_with fail
  generalize hw1 : (w.alloc (.cells #[.int .i64 v, .slice A n c, .slice B m d, .slice C k l] 26)).alloc (.cells #[.int .i64 0, .slice none 0 0, .slice none 0 0, .slice none 0 0] 26) = w1 at *
  clear hw1
  refine (CopyBytes_any A n c b.code w1 (Since.row BK0.out.since H.out.code) (by omega)).mono ?_
  rintro e w2 ⟨A2, c2, rfl, ho, hb⟩
  have BK2 := Lib.hid (BK0.out.madeB hb ho)
  have x1 := BK2.out.cell 2 rfl 1 rfl
  have f1 := BK2.out.free 2 rfl 1
  have BK3 := Lib.hid (BK2.out.boxSet 2 rfl 1 (.slice A2 n c2))
  have x2 := BK3.out.cell 2 rfl 2 rfl
  clear hb ho BK0 BK2
  go_wp2_with fail
  generalize w2.setCell ⟨w.heap.size, 1, none⟩ (.slice A2 n c2) = w3 at *
  clear x1 f1 x2
  refine (CopyBytes_any B m d b.dig w3 (Since.row BK3.out.since H.out.dig) (by omega)).mono ?_
  rintro e w4 ⟨B4, d4, rfl, ho, hb⟩
  have BK4 := Lib.hid (BK3.out.madeB hb ho)
  have x1 := BK4.out.cell 3 rfl 2 rfl
  have f1 := BK4.out.free 3 rfl 2
  have BK5 := Lib.hid (BK4.out.boxSet 3 rfl 2 (.slice B4 m d4))
  have x2 := BK5.out.cell 3 rfl 3 rfl
  clear hb ho BK3 BK4
  go_wp2_with fail
  generalize w4.setCell ⟨w.heap.size, 2, none⟩ (.slice B4 m d4) = w5 at *
  clear x1 f1 x2
  refine (CopyBytes_any C k l b.tag w5 (Since.row BK5.out.since H.out.tag) (by omega)).mono ?_
  rintro e w6 ⟨C6, l6, rfl, ho, hb⟩
  have BK6 := Lib.hid (BK5.out.madeB hb ho)
  have x1 := BK6.out.cell 4 rfl 3 rfl
  have f1 := BK6.out.free 4 rfl 3
  have BK7 := Lib.hid (BK6.out.boxSet 4 rfl 3 (.slice C6 k l6))
  have z0 := BK7.out.cell 4 rfl 0 rfl
  have z1 := BK7.out.cell 4 rfl 1 rfl
  have z2 := BK7.out.cell 4 rfl 2 rfl
  have z3 := BK7.out.cell 4 rfl 3 rfl
  have HRES := Lib.hid (BK7.out.boxAt 3 rfl).2
  have HFIN := Lib.hid (show Copied w b n m k (.returned (.agg (bunL v A2 n c2 B4 m d4 C6 k l6).toArray)) ((w6.setCell ⟨w.heap.size, 3, none⟩ (.slice C6 k l6)).setRow (w.heap.size + 1) (bunL v A2 n c2 B4 m d4 C6 k l6).toArray) from by
    have h := BK7.out.boxRow 3 rfl (bunL v A2 n c2 B4 m d4 C6 k l6) rfl (by decide)
    exact ⟨A2, c2, B4, d4, C6, l6, (by rw [HV.out]; first | done | rfl), h.sub (.cons_cons _ (.cons_cons _ (.cons_cons _ (.cons _ (.cons _ .slnil)))))⟩)
  clear hb ho BK5 BK6
  go_wp2_with (with_reducible refine wpList_store_row rfl 26 (.tmp 2) (.tmp 15) rfl (w.heap.size + 1) (bunL v A2 n c2 B4 m d4 C6 k l6).toArray rfl rfl 26 _ HRES.out (infoBunL v A2 n c2 B4 m d4 C6 k l6) rfl (bunL_one _ _ _ _ _ _ _ _ _ _) ?_)
  refine bodyPost_ret (v := .agg (bunL v A2 n c2 B4 m d4 C6 k l6).toArray) ?_ rfl HFIN.out
  exact results_cell_only rfl _ _ (w.heap.size + 1) _ rfl (load_bun _ _ _ _ _ _ _ _ _ _ (setRow_heap _ _ _ _ _ _ HRES.out))
end Go.Proofs.YtidcfjmibljkeaaGreatDoor.K

/- The chapter's examples of bundle, in mathematics. -/
namespace Go.Proofs.YtidcfjmibljkeaaGreatDoor.M
def zs8 : List B := List.replicate 8 0#8
def awB : Bun := bseal [107#8] 1 zs8
def awB2 : Bun := ⟨2, zs8, awB.dig, awB.tag⟩
theorem aw_make : bmakeE 1 zs8 = 0 := by decide
theorem aw_wrong : bwrong awB = 0 := by unfold awB; rw [bseal_wrong]; exact aw_make
theorem aw_make0 : bmakeE 0 [] = 2 := by decide
theorem aw_bmake : bmake [107#8] 1 zs8 = awB := by unfold bmake; rw [if_pos aw_make]; rfl
theorem aw_put : (bput awB).length = 104 := by unfold bput; rw [if_pos aw_wrong]; unfold bbytes; rw [List.length_append, List.length_append, bpart_length, blob_length, blob_length]; rfl
theorem aw_check : bcheckE [107#8] awB = 0 := by
  unfold bcheckE
  rw [if_neg (by rw [aw_wrong]; decide), if_pos ⟨rfl, rfl⟩]
theorem aw_tags : tag [108#8] (bdig 1 zs8) ≠ tag [107#8] (bdig 1 zs8) := by decide +kernel
theorem aw_digs : bdig 2 zs8 ≠ bdig 1 zs8 := by decide +kernel
theorem aw_check2 : bcheckE [108#8] awB = 11 := by
  unfold bcheckE
  rw [if_neg (by rw [aw_wrong]; decide), if_neg (fun h => aw_tags h.2)]
theorem aw_wrong2 : bwrong awB2 = 0 := by
  rw [bwrong_zero]
  exact ⟨by decide, by decide, by decide, rfl, rfl⟩
theorem aw_check3 : bcheckE [107#8] awB2 = 11 := by
  unfold bcheckE
  rw [if_neg (by rw [aw_wrong2]; decide), if_neg (fun h => aw_digs h.1)]
end Go.Proofs.YtidcfjmibljkeaaGreatDoor.M
