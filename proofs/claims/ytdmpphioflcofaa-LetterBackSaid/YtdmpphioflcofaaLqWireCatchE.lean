/- The closures of the program's reader's Entry. -/
import Derived.Test.YtdmpphioflcofaaLqWireEnt2
import Derived.Laws.Pointers
namespace Go.Proofs.Ytdmpphioflcofaa.K
open Go Go.RowKit

theorem catchEnt_idle (p q : Addr) (w : World) :
    CallsD Try.prog 118 #[.pointer (some p), .pointer (some q)] .returning w fun e u' w' => e = .returned (.tuple #[]) ∧ u' = .returning ∧ w' = w := by
  refine callsD_of_wpS Try.func118 rfl fun c₀ cs hu => ?_
  apply wpS_seq
  apply wpS_region
  simp [wpOpsS, go_sem, recoverD, hu, Try.ntmps118, Exit.thenS]
  refine wpS_of_wp ?_
  rw [tmps21]
  go_wp2
  cases c₀
  simp_all [bodyPostS, results, Try.results118]
abbrev zeroL : List Value := entL 0 0 0 0#8 false none 0 0
set_option maxHeartbeats 1000000 in
set_option maxRecDepth 100000 in
theorem catchEnt_panicking (O R P : Nat) (A : Option Addr) (l : List (BitVec 8)) (n c : Nat) (w : World) (ho : w.heap[O]? = some (.cells zeroL.toArray 48 (0, 0))) (hr : w.cell? ⟨R, 0, none⟩ = some (.pointer (some ⟨P, 0, none⟩))) (hp : PrgR w P l A n c true false) (hOP : O ≠ P) :
    CallsD Try.prog 118 #[.pointer (some ⟨O, 0, none⟩), .pointer (some ⟨R, 0, none⟩)] (.panicking shortP) w fun e u' w' =>
      e = .returned (.tuple #[]) ∧ u' = .panicking [{ v := .iface 204 (.agg #[]), recovered := true }] ∧ w' = (((w.alloc (.cells #[] 204)).alloc (.cells zeroL.toArray 48)).setRow O zeroL.toArray).setCell ⟨P, 2, none⟩ (.bool true) := by
  have hta : ∀ w, (Instr.typeAssert (.iface 204 (.agg #[])) 20 204 true).run Try.prog w = .ok (.tuple #[.agg #[], .bool true]) w := fun _ => by kernel_rfl
  refine callsD_of_wpS Try.func118 rfl fun c₀ cs hu => ?_
  unfold shortP at hu
  have hOl := lt_of_row ho
  have hPl := hp.lt
  have hr' := cell_old (.cells #[.int .i64 0, .int .u8 0, .int .i64 0, .int .i64 0, .bool false, .slice none 0 0] 48) (cell_old (.cells #[] 204) hr)
  have ho2 := (heap_alloc_old (w.alloc (.cells #[] 204)) (.cells zeroL.toArray 48) (by simp; omega)).trans ((heap_alloc_old w (.cells #[] 204) hOl).trans ho)
  have hz2 := heap_alloc_new (w.alloc (.cells #[] 204)) (.cells zeroL.toArray 48)
  obtain ⟨t, hb⟩ := hp.blk
  have hb3 := (setRow_other ((w.alloc (.cells #[] 204)).alloc (.cells zeroL.toArray 48)) O P zeroL.toArray (fun e => hOP e.symm)).trans ((heap_alloc_old (w.alloc (.cells #[] 204)) (.cells zeroL.toArray 48) (by simp; omega)).trans ((heap_alloc_old w (.cells #[] 204) hPl).trans hb))
  have d2 : (((w.alloc (.cells #[] 204)).alloc (.cells #[.int .i64 0, .int .u8 0, .int .i64 0, .int .i64 0, .bool false, .slice none 0 0] 48)).setRow O (entL 0 0 0 0#8 false none 0 0).toArray).cell? ⟨P, 2, none⟩ = some (.bool false) := block_cell hb3 rfl
  have f2 : (((w.alloc (.cells #[] 204)).alloc (.cells #[.int .i64 0, .int .u8 0, .int .i64 0, .int .i64 0, .bool false, .slice none 0 0] 48)).setRow O (entL 0 0 0 0#8 false none 0 0).toArray).frozen? ⟨P, 2, none⟩ = false := frozen_of_row _ P 2 _ _ hb3
  have HO2 := Lib.hid ho2; have HZ2 := Lib.hid hz2
  clear hp hr ho hb hb3 ho2 hz2
  apply wpS_seq
  apply wpS_region
  simp [wpOpsS, go_sem, recoverD, hu, Try.ntmps118, Exit.thenS]
  refine wpS_of_wp ?_
  rw [tmps21]
  go_wp2_with (first
    | (with_reducible refine wpList_load_row rfl 48 (.tmp 5) rfl (w.alloc (.cells #[] 204)).heap.size rfl 48 _ (0, 0) _ HZ2.out Try.underlying48 rfl (infoEntL 0 0 0 0#8 false none 0 0) ?_)
    | (refine wpList_store_row rfl 48 (.tmp 0) (.tmp 18) rfl O (entL 0 0 0 0#8 false none 0 0).toArray rfl rfl 48 _ HO2.out (infoEntL 0 0 0 0#8 false none 0 0) (entL_size _ _ _ _ _ _ _ _ _ _ _ _ _ _ _ _) (entL_one _ _ _ _ _ _ _ _) ?_))
  cases c₀
  simp_all [bodyPostS, results, Try.results118, zeroL, entL, B8]
theorem closEnt_u (Bx P : Nat) (l : List (BitVec 8)) (A : Option Addr) (n c : Nat) (made bad : Bool) (w : World) (h : PrgR w P l A n c made bad) (hAB : ∀ a, A = some a → a.block < w.heap.size) (hb : w.cell? ⟨Bx, 0, none⟩ = some (.pointer (some ⟨P, 0, none⟩))) :
    Calls Try.prog 107 #[.pointer (some ⟨Bx, 0, none⟩)] w (PEnt w P l A made bad) := by
  have hPl := h.lt
  have hb' := cell_old (.cells #[.int .i64 0, .int .u8 0, .int .i64 0, .int .i64 0, .bool false, .slice none 0 0] 48) hb
  have H := Lib.hid (h.grown (World.grownBy_alloc w (.cells zeroL.toArray 48) none) (by simp) (fun _ _ => by simp))
  have HG := Lib.hid (show w.grownBy (w.alloc (.cells zeroL.toArray 48)) (some P) from World.grownBy_alloc w _ _)
  have HZ := Lib.hid (heap_alloc_new w (.cells zeroL.toArray 48))
  have HAB := Lib.hid hAB
  clear h hAB hb
  go_enter Try.func107, Try.ntmps107
  go_wp2_with fail
  change Calls _ _ _ (w.alloc (.cells zeroL.toArray 48)) _
  refine (pentry_u P l A n c made bad _ H.out (fun a e => by have := HAB.out a e; simp; omega)).mono ?_
  rintro e w1 (⟨hp, hr⟩ | ⟨x, B, m, c', l', A', n', c2, rfl, hr, ho, hp, hs, hg⟩)
  · obtain ⟨rfl, hp, hg⟩ := hp
    have HFIN := Lib.hid (show PEnt w P l A made bad (.panicked shortP) w1 from .inl ⟨⟨rfl, hp, grown_trans' HG.out hg⟩, hr⟩)
    clear hp hg hr
    go_wp2
    exact ⟨rfl, HFIN.out⟩
  have HK := Lib.hid ((hg.block w.heap.size (by simp) (by simp; omega)).trans HZ.out)
  have hnew : (Value.slice B m c').ownBlock ≠ some w.heap.size := fun e => by
    have h1 := (ho.lt _ e).1
    have h2 : (w.alloc (.cells zeroL.toArray 48)).heap.size = w.heap.size + 1 := by simp
    omega
  have HNEW := Lib.hid hnew; have HO := Lib.hid (own_low ho (show w.heap.size ≤ _ by simp)); have HP := Lib.hid hp; have HS := Lib.hid hs; have HGG := Lib.hid (grown_trans' HG.out hg); have HR := Lib.hid hr
  clear hnew ho hp hs hg hr H HZ
  go_wp2_with (with_reducible refine wpList_store_row rfl 48 (.tmp 1) (.tmp 5) rfl w.heap.size (entL x.term x.version x.server x.kind x.good B m c').toArray rfl rfl 48 _ HK.out (infoEntL x.term x.version x.server x.kind x.good B m c') (entL_size _ _ _ _ _ _ _ _ _ _ _ _ _ _ _ _) (entL_one _ _ _ _ _ _ _ _) ?_)
  refine bodyPost_ret (v := .agg (entL x.term x.version x.server x.kind x.good B m c').toArray) ?_ ?_ ?_
  · exact results_cell_row rfl _ _ w.heap.size 48 _ (0, 0) _ rfl (setRow_heap _ _ _ _ _ _ HK.out) Try.underlying48 rfl (infoEntL x.term x.version x.server x.kind x.good B m c')
  · rfl
  · exact .inr ⟨x, B, m, c', l', A', n', c2, rfl, HR.out, row_setRow HO.out _ HNEW.out _, HP.out.setRow w.heap.size (by omega) (fun a e => Nat.ne_of_lt (HS.out.lt HAB.out a e)) _, HS.out, grown_setRow HGG.out (Nat.le_refl _) _⟩
end Go.Proofs.Ytdmpphioflcofaa.K
