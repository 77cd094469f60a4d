/- The contracts of the program's reader: Bad, Number. -/
import Derived.Test.YtdmpphioflcofaaLqWireCatch
namespace Go.Proofs.Ytdmpphioflcofaa.K
open Go Go.RowKit

theorem pBad_nil (w : World) : Calls Try.prog 109 #[.pointer none] w fun e w' => e = .returned (.bool true) ∧ w = w' := by
  go_enter Try.func109, Try.ntmps109
  go_wp2
  go_ret
  exact ⟨rfl, rfl⟩
theorem pBad_any (P : Nat) (l : List (BitVec 8)) (A : Option Addr) (n c : Nat) (bad : Bool) (w : World) (h : PrgR w P l A n c true bad) : Calls Try.prog 109 #[.pointer (some ⟨P, 0, none⟩)] w fun e w' => e = .returned (.bool bad) ∧ w = w' := by
  have c1 : w.cell? ⟨P, 1, none⟩ = some (.bool true) := h.cell rfl
  have c2 : w.cell? ⟨P, 2, none⟩ = some (.bool bad) := h.cell rfl
  clear h
  go_enter Try.func109, Try.ntmps109
  go_wp2
  go_ret
  exact ⟨rfl, rfl⟩
theorem pBad_unmade (P : Nat) (l : List (BitVec 8)) (A : Option Addr) (n c : Nat) (bad : Bool) (w : World) (h : PrgR w P l A n c false bad) : Calls Try.prog 109 #[.pointer (some ⟨P, 0, none⟩)] w fun e w' => e = .returned (.bool true) ∧ w = w' := by
  have c1 : w.cell? ⟨P, 1, none⟩ = some (.bool false) := h.cell rfl
  clear h
  go_enter Try.func109, Try.ntmps109
  go_wp2
  go_ret
  exact ⟨rfl, rfl⟩

theorem closNum_ok (Bx P : Nat) (l : List (BitVec 8)) (A : Option Addr) (n c : Nat) (made bad : Bool) (w : World) (h : PrgR w P l A n c made bad) (hb : w.cell? ⟨Bx, 0, none⟩ = some (.pointer (some ⟨P, 0, none⟩))) (hn : 8 ≤ n) :
    Calls Try.prog 104 #[.pointer (some ⟨Bx, 0, none⟩)] w (NumOk w P l A n c made bad) := by
  have H := Lib.hid h
  clear h
  go_enter Try.func104, Try.ntmps104
  go_wp2_with fail
  refine (pnum_ok P l A n c made bad w H.out hn).mono ?_
  rintro e w1 ⟨rfl, hp, hg⟩
  have HP := Lib.hid hp; have HG := Lib.hid hg
  clear hp hg
  go_wp2
  go_ret
  exact ⟨rfl, HP.out, HG.out⟩
theorem closNum_bad (Bx P : Nat) (l : List (BitVec 8)) (A : Option Addr) (n c : Nat) (made bad : Bool) (w : World) (h : PrgR w P l A n c made bad) (hb : w.cell? ⟨Bx, 0, none⟩ = some (.pointer (some ⟨P, 0, none⟩))) (hn : n < 8) :
    Calls Try.prog 104 #[.pointer (some ⟨Bx, 0, none⟩)] w (PBad w P made bad) := by
  have H := Lib.hid h
  clear h
  go_enter Try.func104, Try.ntmps104
  go_wp2_with fail
  refine (pnum_bad' P l A n c made bad w H.out hn).mono ?_
  rintro e w1 ⟨rfl, hp, hg⟩
  have HP := Lib.hid hp; have HG := Lib.hid hg
  clear hp hg
  go_wp2
  exact ⟨rfl, rfl, HP.out, HG.out⟩

/-- a reader, wherever it stands -/
def PrgN (w : World) (P : Nat) (s : M.Rdr) (A0 : Option Addr) : Prop :=
  ∃ l A n c, (match s with | some l' => PrgR w P l A n c true false ∧ l = l' ∧ (∀ a, A = some a → ∃ a0, A0 = some a0 ∧ a.block = a0.block) | none => ∃ t, w.heap[P]? = some (.cells (readP A n c true true).toArray t (0, 0)))

/-- a number was got, or nothing -/
def GotNum (w : World) (P : Nat) (s : M.Rdr) (A0 : Option Addr) (e : Ending) (w' : World) : Prop := e = .returned (.int .i64 (M.rdNumber s).1) ∧ PrgN w' P (M.rdNumber s).2 A0 ∧ w.grownBy w' (some P)
set_option maxHeartbeats 1000000 in
set_option maxRecDepth 100000 in
theorem readsInt_ok (Bx P : Nat) (l : List (BitVec 8)) (A : Option Addr) (n c : Nat) (w : World) (h : PrgR w P l A n c true false) (hb : w.cell? ⟨Bx, 0, none⟩ = some (.pointer (some ⟨P, 0, none⟩))) (hn : 8 ≤ n) (hAB : ∀ a, A = some a → a.block < w.heap.size) (hBP : Bx ≠ P) :
    Calls Try.prog 103 #[.pointer (some ⟨P, 0, none⟩), .func (.func 104) #[] #[.pointer (some ⟨Bx, 0, none⟩)]] w (GotNum w P (some l) A) := by
  have hmf : ∀ (fn : Fn) (first cap : Array Value) (w : World), (Instr.makeFunc fn first cap).run Try.prog w = .ok (.func fn first cap) w := fun _ _ _ _ => rfl
  have hPl := h.lt
  have hBl := block_lt_of_cell hb
  have hga : w.grownBy ((w.alloc (.cells #[.pointer (some ⟨P, 0, none⟩)] 83)).alloc (.cells #[.int .i64 0] 3)) none := ⟨rfl, rfl, rfl, by simp; omega, fun k hk _ => (heap_alloc_old _ _ (by simp; omega)).trans (heap_alloc_old w _ hk)⟩
  have h2 := h.grown hga (by simp) (fun _ _ => by simp)
  have hb2 := hga.cell hb (by simp)
  have ho2 : ((w.alloc (.cells #[.pointer (some ⟨P, 0, none⟩)] 83)).alloc (.cells #[.int .i64 0] 3)).heap[w.heap.size + 1]? = some (.cells #[.int .i64 0] 3 (0, 0)) := heap_alloc2_new w _ _
  have hsz2 : ((w.alloc (.cells #[.pointer (some ⟨P, 0, none⟩)] 83)).alloc (.cells #[.int .i64 0] 3)).heap.size = w.heap.size + 2 := by simp
  have H := Lib.hid h2; have HB := Lib.hid hb2; have HGA := Lib.hid hga; have HO2 := Lib.hid ho2; have HSZ2 := Lib.hid hsz2; have HAB := Lib.hid hAB
  clear h hb h2 hb2 hga ho2 hsz2 hAB
  go_enter_defers Try.func103, Try.ntmps103
  go_wp2_with fail
  refine (pBad_any P l A n c false _ H.out).mono ?_
  rintro e w1 ⟨rfl, rfl⟩
  go_wp2_with fail
  refine (closNum_ok Bx P l A n c true false _ H.out HB.out hn).mono ?_
  rintro e w1 ⟨rfl, ⟨A', hp, hA'⟩, hg⟩
  have hob : w1.heap[w.heap.size + 1]? = some (.cells #[.int .i64 0] 3 (0, 0)) := (hg.block _ (by rw [HSZ2.out]; omega) (by simp; omega)).trans HO2.out
  have hoc : w1.cell? ⟨w.heap.size + 1, 0, none⟩ = some (.int .i64 0) := block_cell (xs := [.int .i64 0]) hob rfl
  have hof : w1.frozen? ⟨w.heap.size + 1, 0, none⟩ = false := frozen_of_row w1 _ 0 _ _ hob
  have HP := Lib.hid hp; have HA' := Lib.hid hA'; have HG := Lib.hid hg; have HOB := Lib.hid hob
  clear hp hA' hg hob
  go_wp2
  have hoc2 : (w1.setCell ⟨w.heap.size + 1, 0, none⟩ (.int .i64 (M.val (l.take 8)))).cell? ⟨w.heap.size + 1, 0, none⟩ = some (.int .i64 (M.val (l.take 8))) := World.cell?_setCell_same _ _ _ hoc
  refine leaves_cons (f := 116) (args := #[.pointer (some ⟨w.heap.size + 1, 0, none⟩), .pointer (some ⟨w.heap.size, 0, none⟩)]) (by simp) (by simp [go_sem]) ?_
  refine (catchInt_idle _ _ _).mono ?_
  rintro e u' w'' ⟨rfl, rfl, rfl⟩
  have hfin : GotNum w P (some l) A (.returned (.int .i64 (M.val (l.take 8)))) (w1.setCell ⟨w.heap.size + 1, 0, none⟩ (.int .i64 (M.val (l.take 8)))) := by
    have hr : M.rdNumber (some l) = (M.val (l.take 8), some (l.drop 8)) := by
      simp only [M.rdNumber]; rw [if_neg (by have := H.out.len; omega)]
    refine ⟨by rw [hr], ?_, ?_⟩
    · rw [hr]
      refine ⟨_, A', _, _, HP.out.grown (grownBy_setCell w1 (w.heap.size + 1) 0 _) (by simp; omega) (fun a e => ?_), rfl, HA'.out⟩
      obtain ⟨a0, e0, h0⟩ := HA'.out a e
      have := HAB.out a0 e0
      simp; omega
    · refine grown_more (X := w.heap.size + 1) (grown_trans' ⟨HGA.out.os, HGA.out.tape, HGA.out.output, HGA.out.size, fun k hk _ => HGA.out.block k hk (by simp)⟩ HG.out) (grownBy_setCell w1 (w.heap.size + 1) 0 _) (by omega)
  have HFIN := Lib.hid hfin
  clear hfin
  simp [Leaves, settle, results, Try.results103, go_sem, hoc2]
  exact HFIN.out

set_option maxHeartbeats 1000000 in
set_option maxRecDepth 100000 in
theorem readsInt_bad (Bx P : Nat) (l : List (BitVec 8)) (A : Option Addr) (n c : Nat) (w : World) (h : PrgR w P l A n c true false) (hb : w.cell? ⟨Bx, 0, none⟩ = some (.pointer (some ⟨P, 0, none⟩))) (hn : n < 8) (hBP : Bx ≠ P) :
    Calls Try.prog 103 #[.pointer (some ⟨P, 0, none⟩), .func (.func 104) #[] #[.pointer (some ⟨Bx, 0, none⟩)]] w (GotNum w P (some l) A) := by
  have hmf : ∀ (fn : Fn) (first cap : Array Value) (w : World), (Instr.makeFunc fn first cap).run Try.prog w = .ok (.func fn first cap) w := fun _ _ _ _ => rfl
  have hPl := h.lt
  have hlen := h.len
  have hga : w.grownBy ((w.alloc (.cells #[.pointer (some ⟨P, 0, none⟩)] 83)).alloc (.cells #[.int .i64 0] 3)) none := ⟨rfl, rfl, rfl, by simp; omega, fun k hk _ => (heap_alloc_old _ _ (by simp; omega)).trans (heap_alloc_old w _ hk)⟩
  have h2 := h.grown hga (by simp) (fun _ _ => by simp)
  have hb2 := hga.cell hb (by simp)
  have ho2 : ((w.alloc (.cells #[.pointer (some ⟨P, 0, none⟩)] 83)).alloc (.cells #[.int .i64 0] 3)).heap[w.heap.size + 1]? = some (.cells #[.int .i64 0] 3 (0, 0)) := heap_alloc2_new w _ _
  have hr2 : ((w.alloc (.cells #[.pointer (some ⟨P, 0, none⟩)] 83)).alloc (.cells #[.int .i64 0] 3)).heap[w.heap.size]? = some (.cells #[.pointer (some ⟨P, 0, none⟩)] 83 (0, 0)) := heap_alloc2_old w _ _
  have hsz2 : ((w.alloc (.cells #[.pointer (some ⟨P, 0, none⟩)] 83)).alloc (.cells #[.int .i64 0] 3)).heap.size = w.heap.size + 2 := by simp
  have H := Lib.hid h2; have HB := Lib.hid hb2; have HGA := Lib.hid hga; have HO2 := Lib.hid ho2; have HR2 := Lib.hid hr2; have HSZ2 := Lib.hid hsz2; have HLEN := Lib.hid hlen
  clear h hb h2 hb2 hga ho2 hr2 hsz2 hlen
  go_enter_defers Try.func103, Try.ntmps103
  go_wp2_with fail
  refine (pBad_any P l A n c false _ H.out).mono ?_
  rintro e w1 ⟨rfl, rfl⟩
  go_wp2_with fail
  refine (closNum_bad Bx P l A n c true false _ H.out HB.out hn).mono ?_
  rintro e w1 ⟨rfl, ⟨l1, A1, n1, c1, hp⟩, hg⟩
  have hob : w1.heap[w.heap.size + 1]? = some (.cells #[.int .i64 0] 3 (0, 0)) := (hg.block _ (by rw [HSZ2.out]; omega) (by simp; omega)).trans HO2.out
  have hrb : w1.heap[w.heap.size]? = some (.cells #[.pointer (some ⟨P, 0, none⟩)] 83 (0, 0)) := (hg.block _ (by rw [HSZ2.out]; omega) (by simp; omega)).trans HR2.out
  have hoc : w1.cell? ⟨w.heap.size + 1, 0, none⟩ = some (.int .i64 0) := block_cell (xs := [.int .i64 0]) hob rfl
  have hrc : w1.cell? ⟨w.heap.size, 0, none⟩ = some (.pointer (some ⟨P, 0, none⟩)) := block_cell (xs := [.pointer (some ⟨P, 0, none⟩)]) hrb rfl
  have hof : w1.frozen? ⟨w.heap.size + 1, 0, none⟩ = false := frozen_of_row w1 _ 0 _ _ hob
  have HP := Lib.hid hp; have HG := Lib.hid hg; have HOC := Lib.hid hoc; have HRC := Lib.hid hrc; have HOF := Lib.hid hof
  clear hp hg hob hrb hoc hrc hof
  go_wp2
  refine leaves_cons (f := 116) (args := #[.pointer (some ⟨w.heap.size + 1, 0, none⟩), .pointer (some ⟨w.heap.size, 0, none⟩)]) (by simp) (by simp [go_sem]) ?_
  refine (catchInt_panicking (w.heap.size + 1) w.heap.size P 0 A1 l1 n1 c1 _ HOC.out HOF.out HRC.out HP.out (by omega)).mono ?_
  rintro e u' w'' ⟨rfl, rfl, rfl⟩
  have hPl1 := HP.out.lt
  have hw2 : w1.grownBy (w1.alloc (.cells #[] 204)) none := World.grownBy_alloc w1 _ _
  have hlt1 := block_lt_of_cell HOC.out
  have hoc2 : (((w1.alloc (.cells #[] 204)).setCell ⟨w.heap.size + 1, 0, none⟩ (.int .i64 0)).setCell ⟨P, 2, none⟩ (.bool true)).cell? ⟨w.heap.size + 1, 0, none⟩ = some (.int .i64 0) := (cell_setCell_ne _ (by omega)).trans (World.cell?_setCell_same _ _ _ (cell_old _ HOC.out))
  have hfin : GotNum w P (some l) A (.returned (.int .i64 0)) (((w1.alloc (.cells #[] 204)).setCell ⟨w.heap.size + 1, 0, none⟩ (.int .i64 0)).setCell ⟨P, 2, none⟩ (.bool true)) := by
    have hr : M.rdNumber (some l) = (0, none) := by
      simp only [M.rdNumber]; rw [if_pos (by have := HLEN.out; omega)]
    refine ⟨by rw [hr], ?_, ?_⟩
    · rw [hr]
      obtain ⟨t, hblk⟩ := HP.out.blk
      have hblk2 : ((w1.alloc (.cells #[] 204)).setCell ⟨w.heap.size + 1, 0, none⟩ (.int .i64 0)).heap[P]? = some (.cells (readP A1 n1 c1 true false).toArray t (0, 0)) := (heap_setCell_other _ ⟨w.heap.size + 1, 0, none⟩ P _ (by simp; omega)).trans ((heap_alloc_old w1 _ hPl1).trans hblk)
      exact ⟨[], A1, n1, c1, t, block_set hblk2 2 _⟩
    · have g1 : w.grownBy w1 (some P) := grown_trans' ⟨HGA.out.os, HGA.out.tape, HGA.out.output, HGA.out.size, fun k hk _ => HGA.out.block k hk (by simp)⟩ HG.out
      have g2 : w.grownBy (w1.alloc (.cells #[] 204)) (some P) := grown_trans' g1 (World.grownBy_alloc w1 _ _)
      have g3 := grown_more g2 (grownBy_setCell (w1.alloc (.cells #[] 204)) (w.heap.size + 1) 0 (.int .i64 0)) (by omega)
      exact grown_trans' g3 (grownBy_setCell _ P 2 _)
  have HFIN := Lib.hid hfin
  clear hfin
  simp [Leaves, settle, results, Try.results103, go_sem, hoc2]
  exact HFIN.out

theorem pBad_bad (P : Nat) (A : Option Addr) (n c : Nat) (w : World) (h : ∃ t, w.heap[P]? = some (.cells (readP A n c true true).toArray t (0, 0))) : Calls Try.prog 109 #[.pointer (some ⟨P, 0, none⟩)] w fun e w' => e = .returned (.bool true) ∧ w = w' := by
  obtain ⟨t, hb⟩ := h
  have c1 : w.cell? ⟨P, 1, none⟩ = some (.bool true) := block_cell hb rfl
  have c2 : w.cell? ⟨P, 2, none⟩ = some (.bool true) := block_cell hb rfl
  clear hb
  go_enter Try.func109, Try.ntmps109
  go_wp2
  go_ret
  exact ⟨rfl, rfl⟩

/-- nothing is read of what is bad -/
theorem readsInt_early (p : Option Addr) (Bx : Addr) (w : World) (hbad : ∀ w1, w.grownBy w1 none → Calls Try.prog 109 #[.pointer p] w1 fun e w' => e = .returned (.bool true) ∧ w1 = w') :
    Calls Try.prog 103 #[.pointer p, .func (.func 104) #[] #[.pointer (some Bx)]] w fun e w' => e = .returned (.int .i64 0) ∧ Below w.heap.size w w' := by
  have hga : w.grownBy ((w.alloc (.cells #[.pointer p] 83)).alloc (.cells #[.int .i64 0] 3)) none := ⟨rfl, rfl, rfl, by simp; omega, fun k hk _ => (heap_alloc_old _ _ (by simp; omega)).trans (heap_alloc_old w _ hk)⟩
  have hb := hbad _ hga
  have hbel : Below w.heap.size w ((w.alloc (.cells #[.pointer p] 83)).alloc (.cells #[.int .i64 0] 3)) := ((Below.refl _ _).alloc (Nat.le_refl _) _).alloc (by simp) _
  have HB := Lib.hid hb; have HBEL := Lib.hid hbel
  clear hbad hga hb hbel
  go_enter_defers Try.func103, Try.ntmps103
  go_wp2_with fail
  refine HB.out.mono ?_
  rintro e w1 ⟨rfl, rfl⟩
  go_wp2
  simp [bodyPostD, Leaves, settle, results, Try.results103, go_sem]
  exact HBEL.out

set_option maxHeartbeats 1000000 in
theorem pNumber_early (p : Option Addr) (w : World) (hbad : ∀ w1, w.grownBy w1 none → Calls Try.prog 109 #[.pointer p] w1 fun e w' => e = .returned (.bool true) ∧ w1 = w') :
    Calls Try.prog 71 #[.pointer p] w fun e w' => e = .returned (.int .i64 0) ∧ Below w.heap.size w w' := by
  have hmf : ∀ (fn : Fn) (first cap : Array Value) (w : World), (Instr.makeFunc fn first cap).run Try.prog w = .ok (.func fn first cap) w := fun _ _ _ _ => rfl
  have hga : w.grownBy (w.alloc (.cells #[.pointer p] 83)) none := World.grownBy_alloc w _ _
  have hbel : Below w.heap.size w (w.alloc (.cells #[.pointer p] 83)) := (Below.refl _ _).alloc (Nat.le_refl _) _
  have hb := readsInt_early p ⟨w.heap.size, 0, none⟩ (w.alloc (.cells #[.pointer p] 83)) (fun w1 h1 => hbad w1 (grown_trans' hga h1))
  have HB := Lib.hid hb; have HBEL := Lib.hid hbel
  clear hbad hga hb hbel
  go_enter Try.func71, Try.ntmps71
  go_wp2_with fail
  refine HB.out.mono ?_
  rintro e w1 ⟨rfl, hb1⟩
  have HB1 := Lib.hid (HBEL.out.trans (hb1.mono (by simp)))
  clear hb1
  go_wp2
  go_ret
  exact ⟨rfl, HB1.out⟩

set_option maxHeartbeats 1000000 in
theorem pNumber_any (P : Nat) (s : M.Rdr) (A0 : Option Addr) (w : World) (h : PrgN w P s A0) (hAB : ∀ a, A0 = some a → a.block < w.heap.size) :
    Calls Try.prog 71 #[.pointer (some ⟨P, 0, none⟩)] w (GotNum w P s A0) := by
  obtain ⟨l, A, n, c, h⟩ := h
  cases s with
  | none =>
    have h' : ∃ t, w.heap[P]? = some (.cells (readP A n c true true).toArray t (0, 0)) := h
    have hPl : P < w.heap.size := by obtain ⟨t, hb⟩ := h'; exact (Array.getElem?_eq_some_iff.1 hb).1
    refine (pNumber_early (some ⟨P, 0, none⟩) w (fun w1 hg => pBad_bad P A n c w1 ?_)).mono ?_
    · obtain ⟨t, hb⟩ := h'
      exact ⟨t, (hg.block P hPl (by simp)).trans hb⟩
    · rintro e w' ⟨rfl, hb⟩
      obtain ⟨t, hb'⟩ := h'
      exact ⟨rfl, ⟨l, A, n, c, t, (hb.block P hPl).trans hb'⟩, ⟨hb.os, hb.tape, hb.output, hb.size, fun k hk _ => hb.block k hk⟩⟩
  | some l' =>
    obtain ⟨hp, rfl, hA⟩ := h
    have hmf : ∀ (fn : Fn) (first cap : Array Value) (w : World), (Instr.makeFunc fn first cap).run Try.prog w = .ok (.func fn first cap) w := fun _ _ _ _ => rfl
    have hPl := hp.lt
    have hga : w.grownBy (w.alloc (.cells #[.pointer (some ⟨P, 0, none⟩)] 83)) none := World.grownBy_alloc w _ _
    have hp2 := hp.grown hga (by simp) (fun _ _ => by simp)
    have hbx : (w.alloc (.cells #[.pointer (some ⟨P, 0, none⟩)] 83)).cell? ⟨w.heap.size, 0, none⟩ = some (.pointer (some ⟨P, 0, none⟩)) := by rw [World.cell?_alloc_new]; rfl
    have hcall : Calls Try.prog 103 #[.pointer (some ⟨P, 0, none⟩), .func (.func 104) #[] #[.pointer (some ⟨w.heap.size, 0, none⟩)]] (w.alloc (.cells #[.pointer (some ⟨P, 0, none⟩)] 83)) (GotNum (w.alloc (.cells #[.pointer (some ⟨P, 0, none⟩)] 83)) P (some l) A) := by
      rcases Nat.lt_or_ge n 8 with h8 | h8
      · exact readsInt_bad w.heap.size P l A n c _ hp2 hbx h8 (by omega)
      · exact readsInt_ok w.heap.size P l A n c _ hp2 hbx h8 (fun a e => by obtain ⟨a0, e0, h0⟩ := hA a e; have := hAB a0 e0; simp; omega) (by omega)
    have HC := Lib.hid hcall; have HA := Lib.hid hA; have HGA := Lib.hid hga
    clear hcall hA hga hp2 hbx hp hAB
    go_enter Try.func71, Try.ntmps71
    go_wp2_with fail
    refine HC.out.mono ?_
    rintro e w1 ⟨rfl, ⟨l2, A2, n2, c2, hp⟩, hg⟩
    have hfin : GotNum w P (some l) A0 (.returned (.int .i64 (M.rdNumber (some l)).1)) w1 := by
      refine ⟨rfl, ⟨l2, A2, n2, c2, ?_⟩, grown_trans' ⟨HGA.out.os, HGA.out.tape, HGA.out.output, HGA.out.size, fun k hk _ => HGA.out.block k hk (by simp)⟩ hg⟩
      cases hs : (M.rdNumber (some l)).2 with
      | none => rw [hs] at hp; exact hp
      | some l3 =>
        rw [hs] at hp
        refine ⟨hp.1, hp.2.1, fun a e => ?_⟩
        obtain ⟨a1, e1, h1⟩ := hp.2.2 a e
        obtain ⟨a0, e0, h0⟩ := HA.out a1 e1
        exact ⟨a0, e0, h1.trans h0⟩
    have HFIN := Lib.hid hfin
    clear hfin hp hg
    go_wp2
    go_ret
    exact HFIN.out
end Go.Proofs.Ytdmpphioflcofaa.K
