/- The walk of the program's rest.entry. -/
import Derived.Test.YtdmpphioflcofaaLqWireEnt
namespace Go.Proofs.Ytdmpphioflcofaa.K
open Go Go.RowKit

theorem PrgR.set {w : World} {P : Nat} {l : List (BitVec 8)} {A : Option Addr} {n c : Nat} {made bad : Bool} (h : PrgR w P l A n c made bad) (g i : Nat) (v : Value) (hR : P ≠ g) (hA : ∀ a, A = some a → a.block ≠ g) : PrgR (w.setCell ⟨g, i, Option.none⟩ v) P l A n c made bad :=
  h.grown (grownBy_setCell w g i v) (fun e => hR (by cases e; rfl)) (fun a e e' => hA a e (by cases e'; rfl))
theorem PrgR.setRow {w : World} {P : Nat} {l : List (BitVec 8)} {A : Option Addr} {n c : Nat} {made bad : Bool} (h : PrgR w P l A n c made bad) (g : Nat) (hR : P ≠ g) (hA : ∀ a, A = some a → a.block ≠ g) (cs : Array Value) : PrgR (w.setRow g cs) P l A n c made bad :=
  h.grown (row := some g) ⟨rfl, rfl, rfl, by simp [World.setRow], fun k _ hk => setRow_other w g k cs (fun e => hk (by rw [e]))⟩ (fun e => hR (by cases e; rfl)) (fun a e e' => hA a e (by cases e'; rfl))
theorem lt_of_row {w : World} {g : Nat} {o : Obj} (h : w.heap[g]? = some o) : g < w.heap.size := (Array.getElem?_eq_some_iff.1 h).1

set_option maxHeartbeats 4000000 in
set_option maxRecDepth 100000 in
theorem pentry_u (P : Nat) (l : List (BitVec 8)) (A : Option Addr) (n c : Nat) (made bad : Bool) (w : World) (h : PrgR w P l A n c made bad) (hAB : ∀ a, A = some a → a.block < w.heap.size) :
    Calls Try.prog 108 #[.pointer (some ⟨P, 0, none⟩)] w (PEnt w P l A made bad) := by
  have hPl := h.lt
  have hga : w.grownBy (w.alloc (.cells (entL 0 0 0 0#8 false none 0 0).toArray 48)) (some P) := World.grownBy_alloc w _ _
  have h0 := h.grown (World.grownBy_alloc w (.cells (entL 0 0 0 0#8 false none 0 0).toArray 48) none) (by simp) (fun _ _ => by simp)
  have hblk := heap_alloc_new w (.cells (entL 0 0 0 0#8 false none 0 0).toArray 48)
  have H0 := Lib.hid h0; have HGA := Lib.hid hga; have HBLK := Lib.hid hblk; have HAB := Lib.hid hAB
  clear h h0 hga hblk hAB
  go_enter Try.func108, Try.ntmps108
  -- the term
  go_wp2_with fail
  refine (pnum_u P l A n c made bad _ H0.out).mono ?_
  rintro e w1 (⟨⟨rfl, hp, hg⟩, hr⟩ | ⟨x1, l1, A1, n1, c1, rfl, hr1, h1, hs1, hg1⟩)
  · have hf : M.rdEntry (some l) = (M.zeroEnt, none) := by
      simp only [M.rdEntry, hr, prdNumber_none, prdBytes_none', true_or, if_true]
    have HFIN := Lib.hid (show PEnt w P l A made bad (.panicked shortP) w1 from .inl ⟨⟨rfl, hp, grown_trans' HGA.out hg⟩, hf⟩)
    clear hp hg hr hf
    go_wp2
    exact ⟨rfl, HFIN.out⟩
  have hk1 := (hg1.block w.heap.size (by simp) (by simp; omega)).trans HBLK.out
  have hlt1 := lt_of_row hk1
  have hg01 := grown_trans' HGA.out hg1
  obtain ⟨g, hgg⟩ : ∃ g, g = w1.heap.size := ⟨_, rfl⟩
  have he1 : (w1.alloc (.cells (entL x1 0 0 0#8 false none 0 0).toArray 48)).heap[g]? = some (.cells (entL x1 0 0 0#8 false none 0 0).toArray 48 (0, 0)) := by rw [hgg]; exact heap_alloc_new w1 (.cells (entL x1 0 0 0#8 false none 0 0).toArray 48)
  have H1 := Lib.hid (h1.grown (World.grownBy_alloc w1 (.cells (entL x1 0 0 0#8 false none 0 0).toArray 48) none) (by simp) (fun _ _ => by simp))
  have HK1 := Lib.hid ((heap_alloc_old w1 (.cells (entL x1 0 0 0#8 false none 0 0).toArray 48) hlt1).trans hk1)
  have HG1 := Lib.hid (grown_alloc hg01 (.cells (entL x1 0 0 0#8 false none 0 0).toArray 48))
  have HE1 := Lib.hid he1; have HS1 := Lib.hid hs1; have HR1 := Lib.hid hr1
  have HLT := Lib.hid (show w.heap.size < g by omega)
  have HSZ1 := Lib.hid (show g < (w1.alloc (.cells (entL x1 0 0 0#8 false none 0 0).toArray 48)).heap.size by rw [hgg]; simp)
  have HGG := Lib.hid hgg
  clear h1 hk1 hlt1 hg01 hg1 he1 hs1 hr1 H0 HGA HBLK hgg
  -- the kind
  go_wp2_with fail
  change Calls _ _ _ (w1.alloc (.cells (entL x1 0 0 0#8 false none 0 0).toArray 48)) _
  generalize w1.alloc (.cells (entL x1 0 0 0#8 false none 0 0).toArray 48) = w1' at *
  rw [← HGG.out]
  clear HGG
  refine (small_u P l1 A1 n1 c1 made bad 255 w1' H1.out).mono ?_
  rintro e w2 (⟨⟨rfl, hp, hg⟩, hr⟩ | ⟨x2, l2, A2, n2, c2, rfl, hr2, hx20, hx21, h2, hs2, hg2⟩)
  · have hf : M.rdEntry (some l) = (M.zeroEnt, none) := by
      rcases hr with hr | ⟨x, l', hr, hx⟩
      · simp only [M.rdEntry, HR1.out, hr, prdNumber_none, prdBytes_none', true_or, if_true]
      · simp only [M.rdEntry, HR1.out, hr]
        exact if_pos (by omega)
    have HFIN := Lib.hid (show PEnt w P l A made bad (.panicked shortP) w2 from .inl ⟨⟨rfl, hp, grown_trans' HG1.out hg⟩, hf⟩)
    clear hp hg hr hf
    go_wp2
    exact ⟨rfl, HFIN.out⟩
  obtain ⟨K, rfl⟩ : ∃ K : BitVec 8, x2 = (K.toNat : Int) := ⟨BitVec.ofInt 8 x2, by rw [BitVec.toNat_ofInt]; omega⟩
  have hk2 := (hg2.block w.heap.size (lt_of_row HK1.out) (by simp; omega)).trans HK1.out
  have he2 := (hg2.block g HSZ1.out (by have := HLT.out; simp; omega)).trans HE1.out
  have e21 : w2.cell? ⟨g, 1, none⟩ = some (B8 0#8) := block_cell (xs := entL x1 0 0 0#8 false none 0 0) he2 rfl
  have f21 : w2.frozen? ⟨g, 1, none⟩ = false := frozen_of_row w2 _ 1 _ _ he2
  have hsz2 : g < w2.heap.size := lt_of_row he2
  have hs02 := HS1.out.trans hs2
  have hPg : P ≠ g := by have := HLT.out; omega
  have hAg : ∀ B, SameBlk A B → ∀ a, B = some a → a.block ≠ g := fun B hB a e => by have := hB.lt HAB.out a e; have := HLT.out; omega
  have H2 := Lib.hid (h2.set g 1 (B8 K) hPg (hAg _ hs02))
  have HE2 := Lib.hid (show (w2.setCell ⟨g, 1, none⟩ (B8 K)).heap[g]? = some (.cells (entL x1 0 0 K false none 0 0).toArray 48 (0, 0)) from block_set he2 1 _)
  have HK2 := Lib.hid ((heap_setCell_other w2 ⟨g, 1, none⟩ w.heap.size (B8 K) (by have := HLT.out; simp; omega)).trans hk2)
  have HG2 := Lib.hid (grown_more (grown_trans' HG1.out hg2) (grownBy_setCell w2 g 1 (B8 K)) (by have := HLT.out; omega))
  have HS2 := Lib.hid hs02; have HR2 := Lib.hid hr2; have HPG := Lib.hid hPg; have HAG := Lib.hid hAg
  clear h2 hk2 he2 hs02 hr2 hPg hAg hg2 hs2 hsz2 H1 HK1 HE1 HG1 HSZ1 HS1
  go_wp2_with (with_reducible refine wpList_store_one rfl 46 (.tmp 10) (.tmp 9) rfl ⟨g, 1, none⟩ (B8 K) _ rfl rfl rfl (by kernel_rfl) e21 f21 ?_)
  -- the version
  refine (pnum_u P l2 A2 n2 c2 made bad _ H2.out).mono ?_
  rintro e w3 (⟨⟨rfl, hp, hg⟩, hr⟩ | ⟨x3, l3, A3, n3, c3, rfl, hr3, h3, hs3, hg3⟩)
  · have hf : M.rdEntry (some l) = (M.zeroEnt, none) := by
      simp only [M.rdEntry, HR1.out, HR2.out, hr, prdNumber_none, prdBytes_none', true_or, if_true]
    have HFIN := Lib.hid (show PEnt w P l A made bad (.panicked shortP) w3 from .inl ⟨⟨rfl, hp, grown_trans' HG2.out hg⟩, hf⟩)
    clear hp hg hr hf
    go_wp2
    exact ⟨rfl, HFIN.out⟩
  have HK3 := Lib.hid ((hg3.block w.heap.size (lt_of_row HK2.out) (by simp; omega)).trans HK2.out)
  have HE3 := Lib.hid ((hg3.block g (lt_of_row HE2.out) (fun e => HPG.out (by cases e; rfl))).trans HE2.out)
  have HG3 := Lib.hid (grown_trans' HG2.out hg3)
  have H3 := Lib.hid h3; have HS3 := Lib.hid (HS2.out.trans hs3); have HR3 := Lib.hid hr3
  clear h3 hg3 hs3 hr3 H2 HK2 HE2 HG2 HS2
  -- the server
  go_wp2_with fail
  refine (pnum_u P l3 A3 n3 c3 made bad _ H3.out).mono ?_
  rintro e w4 (⟨⟨rfl, hp, hg⟩, hr⟩ | ⟨x4, l4, A4, n4, c4, rfl, hr4, h4, hs4, hg4⟩)
  · have hf : M.rdEntry (some l) = (M.zeroEnt, none) := by
      simp only [M.rdEntry, HR1.out, HR2.out, HR3.out, hr, prdNumber_none, prdBytes_none', true_or, if_true]
    have HFIN := Lib.hid (show PEnt w P l A made bad (.panicked shortP) w4 from .inl ⟨⟨rfl, hp, grown_trans' HG3.out hg⟩, hf⟩)
    clear hp hg hr hf
    go_wp2
    exact ⟨rfl, HFIN.out⟩
  have hk4 := (hg4.block w.heap.size (lt_of_row HK3.out) (by simp; omega)).trans HK3.out
  have he4 := (hg4.block g (lt_of_row HE3.out) (fun e => HPG.out (by cases e; rfl))).trans HE3.out
  have e42 : w4.cell? ⟨g, 2, none⟩ = some (.int .i64 0) := block_cell (xs := entL x1 0 0 K false none 0 0) he4 rfl
  have f42 : w4.frozen? ⟨g, 2, none⟩ = false := frozen_of_row w4 _ 2 _ _ he4
  have he4' : (w4.setCell ⟨g, 2, none⟩ (.int .i64 x3)).heap[g]? = some (.cells (entL x1 x3 0 K false none 0 0).toArray 48 (0, 0)) := block_set he4 2 _
  have e43 : (w4.setCell ⟨g, 2, none⟩ (.int .i64 x3)).cell? ⟨g, 3, none⟩ = some (.int .i64 0) := block_cell (xs := entL x1 x3 0 K false none 0 0) he4' rfl
  have f43 : (w4.setCell ⟨g, 2, none⟩ (.int .i64 x3)).frozen? ⟨g, 3, none⟩ = false := frozen_of_row _ _ 3 _ _ he4'
  have hs04 := HS3.out.trans hs4
  have H4 := Lib.hid (PrgR.set (PrgR.set h4 g 2 (.int .i64 x3) HPG.out (HAG.out _ hs04)) g 3 (.int .i64 x4) HPG.out (HAG.out _ hs04))
  have HE4 := Lib.hid (show ((w4.setCell ⟨g, 2, none⟩ (.int .i64 x3)).setCell ⟨g, 3, none⟩ (.int .i64 x4)).heap[g]? = some (.cells (entL x1 x3 x4 K false none 0 0).toArray 48 (0, 0)) from block_set he4' 3 _)
  have HK4 := Lib.hid ((heap_setCell_other _ ⟨g, 3, none⟩ w.heap.size (.int .i64 x4) (by have := HLT.out; simp; omega)).trans ((heap_setCell_other w4 ⟨g, 2, none⟩ w.heap.size (.int .i64 x3) (by have := HLT.out; simp; omega)).trans hk4))
  have HG4 := Lib.hid (grown_more (grown_more (grown_trans' HG3.out hg4) (grownBy_setCell w4 g 2 (.int .i64 x3)) (by have := HLT.out; omega)) (grownBy_setCell _ g 3 (.int .i64 x4)) (by have := HLT.out; omega))
  have HS4 := Lib.hid hs04; have HR4 := Lib.hid hr4
  clear h4 hk4 he4 he4' hs04 hr4 hg4 hs4 H3 HK3 HE3 HG3 HS3
  go_wp2_with fail
  -- good
  generalize (w4.setCell ⟨g, 2, none⟩ (.int .i64 x3)).setCell ⟨g, 3, none⟩ (.int .i64 x4) = w4' at *
  clear e42 f42 e43 f43
  refine (small_u P l4 A4 n4 c4 made bad 1 w4' H4.out).mono ?_
  rintro e w5 (⟨⟨rfl, hp, hg⟩, hr⟩ | ⟨x5, l5, A5, n5, c5, rfl, hr5, hx50, hx51, h5, hs5, hg5⟩)
  · have hf : M.rdEntry (some l) = (M.zeroEnt, none) := by
      rcases hr with hr | ⟨x, l', hr, hx⟩
      · simp only [M.rdEntry, HR1.out, HR2.out, HR3.out, HR4.out, hr, prdNumber_none, prdBytes_none', true_or, if_true]
      · simp only [M.rdEntry, HR1.out, HR2.out, HR3.out, HR4.out, hr]
        exact if_pos (by omega)
    have HFIN := Lib.hid (show PEnt w P l A made bad (.panicked shortP) w5 from .inl ⟨⟨rfl, hp, grown_trans' HG4.out hg⟩, hf⟩)
    clear hp hg hr hf
    go_wp2
    exact ⟨rfl, HFIN.out⟩
  have hk5 := (hg5.block w.heap.size (lt_of_row HK4.out) (by simp; omega)).trans HK4.out
  have he5 := (hg5.block g (lt_of_row HE4.out) (fun e => HPG.out (by cases e; rfl))).trans HE4.out
  have e54 : w5.cell? ⟨g, 4, none⟩ = some (.bool false) := block_cell (xs := entL x1 x3 x4 K false none 0 0) he5 rfl
  have f54 : w5.frozen? ⟨g, 4, none⟩ = false := frozen_of_row w5 _ 4 _ _ he5
  have hs05 := HS4.out.trans hs5
  have H5 := Lib.hid (PrgR.set h5 g 4 (.bool (x5 == 1)) HPG.out (HAG.out _ hs05))
  have HE5 := Lib.hid (show (w5.setCell ⟨g, 4, none⟩ (.bool (x5 == 1))).heap[g]? = some (.cells (entL x1 x3 x4 K (x5 == 1) none 0 0).toArray 48 (0, 0)) from block_set he5 4 _)
  have HK5 := Lib.hid ((heap_setCell_other _ ⟨g, 4, none⟩ w.heap.size (.bool (x5 == 1)) (by have := HLT.out; simp; omega)).trans hk5)
  have HG5 := Lib.hid (grown_more (grown_trans' HG4.out hg5) (grownBy_setCell w5 g 4 (.bool (x5 == 1))) (by have := HLT.out; omega))
  have HS5 := Lib.hid hs05; have HR5 := Lib.hid hr5
  clear h5 hk5 he5 hs05 hr5 hg5 hs5 H4 HK4 HE4 HG4 HS4
  go_wp2_with fail
  -- the bytes
  refine (bytes_u P l5 A5 n5 c5 made bad _ H5.out (fun a e => by have := HS5.out.lt HAB.out a e; have := HLT.out; have := lt_of_row HE5.out; omega)).mono ?_
  rintro e w6 (⟨⟨rfl, hp, hg⟩, hr⟩ | ⟨B, m, c', x6, l6, A6, n6, c6, rfl, hr6, ho6, h6, hs6, hg6⟩)
  · have hf : M.rdEntry (some l) = (M.zeroEnt, none) := by
      simp only [M.rdEntry, HR1.out, HR2.out, HR3.out, HR4.out, HR5.out, hr, true_or, if_true]
    have HFIN := Lib.hid (show PEnt w P l A made bad (.panicked shortP) w6 from .inl ⟨⟨rfl, hp, grown_trans' HG5.out hg⟩, hf⟩)
    clear hp hg hr hf
    go_wp2
    exact ⟨rfl, HFIN.out⟩
  have hk6 := (hg6.block w.heap.size (lt_of_row HK5.out) (by simp; omega)).trans HK5.out
  have he6 := (hg6.block g (lt_of_row HE5.out) (fun e => HPG.out (by cases e; rfl))).trans HE5.out
  have e65 : w6.cell? ⟨g, 5, none⟩ = some (.slice none 0 0) := block_cell (xs := entL x1 x3 x4 K (x5 == 1) none 0 0) he6 rfl
  have f65 : w6.frozen? ⟨g, 5, none⟩ = false := frozen_of_row w6 _ 5 _ _ he6
  have hs06 := HS5.out.trans hs6
  have hg5l : g < (w5.setCell ⟨g, 4, none⟩ (.bool (x5 == 1))).heap.size := lt_of_row HE5.out
  have hneg : (Value.slice B m c').ownBlock ≠ some g := fun e => by have := (ho6.lt _ e).1; omega
  have hnew : (Value.slice B m c').ownBlock ≠ some w.heap.size := fun e => by have := (ho6.lt _ e).1; have := HLT.out; omega
  have H6 := Lib.hid (PrgR.set h6 g 5 (.slice B m c') HPG.out (HAG.out _ hs06))
  have HE6 := Lib.hid (show (w6.setCell ⟨g, 5, none⟩ (.slice B m c')).heap[g]? = some (.cells (entL x1 x3 x4 K (x5 == 1) B m c').toArray 48 (0, 0)) from block_set he6 5 _)
  have HK6 := Lib.hid ((heap_setCell_other _ ⟨g, 5, none⟩ w.heap.size (.slice B m c') (by have := HLT.out; simp; omega)).trans hk6)
  have HG6 := Lib.hid (grown_more (grown_trans' HG5.out hg6) (grownBy_setCell w6 g 5 (.slice B m c')) (by have := HLT.out; omega))
  have HO6 := Lib.hid (own_low (World.ownsRow.kept ho6 (grownBy_setCell w6 g 5 (.slice B m c')) (.inr hneg)) (show w.heap.size ≤ _ by have := HLT.out; omega))
  have hf : M.rdEntry (some l) = (⟨x1, K, x3, x4, x5 == 1, x6⟩, some l6) := by
    simp only [M.rdEntry, HR1.out, HR2.out, HR3.out, HR4.out, HR5.out, hr6]
    rw [if_neg, ofInt_B8]
    have := K.isLt
    rintro (h | h | h | h | h)
    · cases h
    all_goals omega
  have HS6 := Lib.hid hs06; have HF := Lib.hid hf; have HNEW := Lib.hid hnew
  clear h6 hk6 he6 hs06 hr6 hg6 hs6 ho6 hneg hf hnew hg5l H5 HK5 HE5 HG5 HS5
  go_wp2_with (first
    | (with_reducible refine wpList_store_one rfl 29 (.tmp 23) (.tmp 22) rfl ⟨g, 5, none⟩ (.slice B m c') _ rfl rfl rfl (by kernel_rfl) e65 f65 ?_)
    | (with_reducible refine wpList_load_row rfl 48 (.tmp 3) rfl g rfl 48 _ (0, 0) _ HE6.out Try.underlying48 rfl (infoEntL _ _ _ _ _ _ _ _) ?_)
    | (with_reducible refine wpList_store_row rfl 48 (.tmp 2) (.tmp 24) rfl w.heap.size (entL x1 x3 x4 K (x5 == 1) B m c').toArray rfl rfl 48 _ HK6.out (infoEntL x1 x3 x4 K (x5 == 1) B m c') (entL_size _ _ _ _ _ _ _ _ _ _ _ _ _ _ _ _) (entL_one _ _ _ _ _ _ _ _) ?_))
  refine bodyPost_ret (v := .agg (entL x1 x3 x4 K (x5 == 1) B m c').toArray) ?_ ?_ ?_
  · exact results_cell_row rfl _ _ w.heap.size 48 _ (0, 0) _ rfl (setRow_heap _ _ _ _ _ _ HK6.out) Try.underlying48 rfl (infoEntL x1 x3 x4 K (x5 == 1) B m c')
  · rfl
  · exact .inr ⟨⟨x1, K, x3, x4, x5 == 1, x6⟩, B, m, c', l6, A6, n6, c6, rfl, HF.out, row_setRow HO6.out _ HNEW.out _, H6.out.setRow w.heap.size (by omega) (fun a e => Nat.ne_of_lt (HS6.out.lt HAB.out a e)) _, HS6.out, grown_setRow HG6.out (Nat.le_refl _) _⟩
end Go.Proofs.Ytdmpphioflcofaa.K
