/- The contract of the reference's reader: Entry. -/
import Derived.Test.YtjnhfmicadcmnaaRefReader2
import Derived.Test.YtjnhfmicadcmnaaKitEntry
namespace Go.Proofs.Ytjnhfmicadcmnaa.K
open Go Go.RowKit

/-- an entry that was read -/
def REntry (w : World) (R : Nat) (s : M.Rdr) (A : Option Addr) (n c : Nat) (D : List (BitVec 8)) (e : Ending) (w' : World) : Prop :=
  ∃ B m c', e = .returned (.agg (entL (M.rdEntry s).1.term (M.rdEntry s).1.version (M.rdEntry s).1.server (M.rdEntry s).1.kind (M.rdEntry s).1.good B m c').toArray) ∧
    w'.ownsRow w.heap.size 5 1 (.slice B m c') m (bv (M.rdEntry s).1.data) ∧ RefN w' R (M.rdEntry s).2 A n c D ∧ w.grownBy w' (some R)
theorem grown_setRow {w W : World} {R g : Nat} (h : w.grownBy W (some R)) (hg : w.heap.size ≤ g) (cs : Array Value) : w.grownBy (W.setRow g cs) (some R) :=
  ⟨h.os, h.tape, h.output, by have := h.size; simp [World.setRow]; exact this, fun k hk hne => (setRow_other W g k cs (by omega)).trans (h.block k hk hne)⟩
theorem RefR.setRow {w : World} {R : Nat} {s : M.Rdr} {A : Option Addr} {n c at' : Nat} {bad : Bool} {D : List (BitVec 8)} (h : RefR w R s A n c at' bad D) (g : Nat) (hR : R ≠ g) (hA : ∀ a, A = some a → a.block ≠ g) (cs : Array Value) : RefR (w.setRow g cs) R s A n c at' bad D :=
  h.grown (row := some g) ⟨rfl, rfl, rfl, by simp [World.setRow], fun k _ hk => setRow_other w g k cs (fun e => hk (by rw [e]))⟩ (fun e => hR (by cases e; rfl)) (fun a e e' => hA a e (by cases e'; rfl))
theorem RefR.lt_row {w : World} {R : Nat} {s : M.Rdr} {A : Option Addr} {n c at' : Nat} {bad : Bool} {D : List (BitVec 8)} (h : RefR w R s A n c at' bad D) (hD : 0 < D.length) : ∀ a, A = some a → a.block < w.heap.size := by
  intro a e
  obtain ⟨b, o, e', hlt, _⟩ := h.rd.lay hD
  rw [e] at e'; cases e'; exact hlt
theorem row_setRow {w : World} {base : Nat} {e : TypeId} {B : Option Addr} {m c : Nat} {xs : List Value} (h : w.ownsRow base e 1 (.slice B m c) m xs) (g : Nat) (hg : (Value.slice B m c).ownBlock ≠ some g) (cs : Array Value) : (w.setRow g cs).ownsRow base e 1 (.slice B m c) m xs :=
  h.kept (row := some g) ⟨rfl, rfl, rfl, by simp [World.setRow], fun k _ hk => setRow_other w g k cs (fun e => hk (by rw [e]))⟩ (.inr hg)

set_option maxHeartbeats 4000000 in
set_option maxRecDepth 100000 in
theorem rEntry_any (R : Nat) (s : M.Rdr) (A : Option Addr) (n c at' : Nat) (bad : Bool) (D : List (BitVec 8)) (w : World) (h : RefR w R s A n c at' bad D) (hA : ∀ a, A = some a → a.block < w.heap.size) :
    Calls Try.prog 32 #[.pointer (some ⟨R, 0, none⟩)] w (REntry w R s A n c D) := by
  have hRl := h.lt
  have hga : w.grownBy (w.alloc (.cells (entL 0 0 0 0#8 false none 0 0).toArray 25)) (some R) := World.grownBy_alloc w _ _
  have h0 := h.grown (World.grownBy_alloc w (.cells (entL 0 0 0 0#8 false none 0 0).toArray 25) none) (by simp) (fun _ _ => by simp)
  have hblk := heap_alloc_new w (.cells (entL 0 0 0 0#8 false none 0 0).toArray 25)
  have H0 := Lib.hid h0; have HGA := Lib.hid hga; have HBLK := Lib.hid hblk; have HAB := Lib.hid hA
  clear h h0 hga hblk hA
  go_enter Try.func32, Try.ntmps32
  go_wp2_with fail
  refine (rNumber_any R s A n c at' bad D _ H0.out).mono ?_
  rintro e w1 ⟨rfl, ⟨at1, bad1, h1⟩, hg1⟩
  obtain ⟨⟨x1, s1⟩, hp1⟩ : ∃ p : Int × M.Rdr, p = M.rdNumber s := ⟨_, rfl⟩
  rw [← hp1] at h1 ⊢
  have H1 := Lib.hid (show RefR w1 R s1 A n c at1 bad1 D from h1); have HG1 := Lib.hid (grown_trans HGA.out hg1); have HP1 := Lib.hid hp1
  have HK1 := Lib.hid ((hg1.block w.heap.size (by simp) (by simp; omega)).trans HBLK.out)
  clear h1 hg1 hp1
  go_wp2_with fail
  refine (rNumber_any R s1 A n c at1 bad1 D _ H1.out).mono ?_
  rintro e w2 ⟨rfl, ⟨at2, bad2, h2⟩, hg2⟩
  obtain ⟨⟨x2, s2⟩, hp2⟩ : ∃ p : Int × M.Rdr, p = M.rdNumber s1 := ⟨_, rfl⟩
  rw [← hp2] at h2 ⊢
  have H2 := Lib.hid (show RefR w2 R s2 A n c at2 bad2 D from h2); have HG2 := Lib.hid (grown_trans HG1.out hg2); have HP2 := Lib.hid hp2
  have HK2 := Lib.hid ((hg2.block w.heap.size ((Array.getElem?_eq_some_iff.1 HK1.out).1) (by simp; omega)).trans HK1.out)
  clear h2 hg2 hp2 H1 HG1 HK1
  go_wp2_with fail
  refine (rNumber_any R s2 A n c at2 bad2 D _ H2.out).mono ?_
  rintro e w3 ⟨rfl, ⟨at3, bad3, h3⟩, hg3⟩
  obtain ⟨⟨x3, s3⟩, hp3⟩ : ∃ p : Int × M.Rdr, p = M.rdNumber s2 := ⟨_, rfl⟩
  rw [← hp3] at h3 ⊢
  have H3 := Lib.hid (show RefR w3 R s3 A n c at3 bad3 D from h3); have HG3 := Lib.hid (grown_trans HG2.out hg3); have HP3 := Lib.hid hp3
  have HK3 := Lib.hid ((hg3.block w.heap.size ((Array.getElem?_eq_some_iff.1 HK2.out).1) (by simp; omega)).trans HK2.out)
  clear h3 hg3 hp3 H2 HG2 HK2
  go_wp2_with fail
  refine (rNumber_any R s3 A n c at3 bad3 D _ H3.out).mono ?_
  rintro e w4 ⟨rfl, ⟨at4, bad4, h4⟩, hg4⟩
  obtain ⟨⟨x4, s4⟩, hp4⟩ : ∃ p : Int × M.Rdr, p = M.rdNumber s3 := ⟨_, rfl⟩
  rw [← hp4] at h4 ⊢
  have H4 := Lib.hid (show RefR w4 R s4 A n c at4 bad4 D from h4); have HG4 := Lib.hid (grown_trans HG3.out hg4); have HP4 := Lib.hid hp4
  have HK4 := Lib.hid ((hg4.block w.heap.size ((Array.getElem?_eq_some_iff.1 HK3.out).1) (by simp; omega)).trans HK3.out)
  clear h4 hg4 hp4 H3 HG3 HK3
  go_wp2_with fail
  refine (rNumber_any R s4 A n c at4 bad4 D _ H4.out).mono ?_
  rintro e w5 ⟨rfl, ⟨at5, bad5, h5⟩, hg5⟩
  obtain ⟨⟨x5, s5⟩, hp5⟩ : ∃ p : Int × M.Rdr, p = M.rdNumber s4 := ⟨_, rfl⟩
  rw [← hp5] at h5 ⊢
  have H5 := Lib.hid (show RefR w5 R s5 A n c at5 bad5 D from h5); have HG5 := Lib.hid (grown_trans HG4.out hg5); have HP5 := Lib.hid hp5
  have HK5 := Lib.hid ((hg5.block w.heap.size ((Array.getElem?_eq_some_iff.1 HK4.out).1) (by simp; omega)).trans HK4.out)
  clear h5 hg5 hp5 H4 HG4 HK4
  go_wp2_with fail
  refine (rBytes_any R s5 A n c at5 bad5 D _ H5.out).mono ?_
  rintro e w6 ⟨B, m, c', rfl, ho6, ⟨at6, bad6, h6⟩, hg6⟩
  obtain ⟨⟨x6, s6⟩, hp6⟩ : ∃ p : List (BitVec 8) × M.Rdr, p = M.rdBytes s5 := ⟨_, rfl⟩
  rw [← hp6] at h6 ho6
  have hk6 := (hg6.block w.heap.size ((Array.getElem?_eq_some_iff.1 HK5.out).1) (by simp; omega)).trans HK5.out
  have hsz5 : w.heap.size < w5.heap.size := (Array.getElem?_eq_some_iff.1 HK5.out).1
  have hg06 := grown_trans HG5.out hg6
  have hne6 : (Value.slice B m c').ownBlock ≠ some w.heap.size := fun e => by
    have := (ho6.lt _ e).1; omega
  have ho6' : w6.ownsRow w.heap.size 5 1 (.slice B m c') m (bv x6) := row_weaken ho6 (by omega)
  have h6' : RefR w6 R s6 A n c at6 bad6 D := h6
  have his := h6'.is
  have d2 : w6.cell? ⟨R, 2, none⟩ = some (.bool bad6) := h6'.cell rfl
  have f2 := h6'.free 2
  have hent : M.rdEntry s = if s6 = none ∨ x2 < 0 ∨ 255 < x2 ∨ x5 < 0 ∨ 1 < x5 then (M.zeroEnt, none) else (⟨x1, BitVec.ofInt 8 x2, x3, x4, x5 == 1, x6⟩, s6) := by
    simp only [M.rdEntry, ← HP1.out, ← HP2.out, ← HP3.out, ← HP4.out, ← HP5.out, ← hp6]
  have H6 := Lib.hid h6'; have HG6 := Lib.hid hg06; have HK6 := Lib.hid hk6; have HO6 := Lib.hid ho6'; have HNE6 := Lib.hid hne6; have HENT := Lib.hid hent; have HIS := Lib.hid his
  clear h6 h6' hg6 hg06 hk6 ho6 ho6' hne6 hent hp6 his H5 HG5 HK5
  have hcases : (bad6 = true ∨ (bad6 = false ∧ x2 < 0) ∨ (bad6 = false ∧ 0 ≤ x2 ∧ 255 < x2) ∨ (bad6 = false ∧ 0 ≤ x2 ∧ x2 ≤ 255 ∧ x5 < 0) ∨ (bad6 = false ∧ 0 ≤ x2 ∧ x2 ≤ 255 ∧ 0 ≤ x5 ∧ 1 < x5)) ∨ (bad6 = false ∧ 0 ≤ x2 ∧ x2 ≤ 255 ∧ 0 ≤ x5 ∧ x5 ≤ 1) := by
    cases bad6
    · simp; omega
    · simp
  rcases hcases with hc | hc
  · have hf : M.rdEntry s = (M.zeroEnt, none) := by
      rw [HENT.out, if_pos]
      rcases hc with h | h | h | h | h
      · left; rw [HIS.out, h]; rfl
      · right; left; exact h.2
      · right; right; left; exact h.2.2
      · right; right; right; left; exact h.2.2.2
      · right; right; right; right; exact h.2.2.2.2
    have hk7 := (heap_setCell_other w6 ⟨R, 2, none⟩ w.heap.size (.bool true) (by simp; omega)).trans HK6.out
    have HF := Lib.hid hf; have HK7 := Lib.hid hk7
    clear hf hk7
    rcases hc with h | h | h | h | h
    · subst h
      go_wp2_with (refine wpList_store_row rfl 25 (.tmp 2) (.tmp 44) rfl w.heap.size (entL 0 0 0 0#8 false none 0 0).toArray rfl rfl 25 _ HK7.out (infoEntL 0 0 0 0#8 false none 0 0) (entL_size _ _ _ _ _ _ _ _ _ _ _ _ _ _ _ _) (entL_one _ _ _ _ _ _ _ _) ?_)
      refine bodyPost_ret (v := .agg (entL 0 0 0 0#8 false none 0 0).toArray) ?_ ?_ ?_
      · exact results_cell_row rfl _ _ w.heap.size 25 _ (0, 0) _ rfl (setRow_heap _ _ _ _ _ _ HK7.out) Try.underlying25 rfl (infoEntL 0 0 0 0#8 false none 0 0)
      · rfl
      · refine ⟨none, 0, 0, by rw [HF.out]; rfl, by rw [HF.out]; exact World.ownsRow_nil _ _ _ _, ?_, grown_setRow (grown_trans HG6.out (grown_set _)) (Nat.le_refl _) _⟩
        rw [HF.out]
        exact ⟨_, _, (H6.out.bad).setRow w.heap.size (by omega) (fun a e => Nat.ne_of_lt (HAB.out a e)) _⟩
    · obtain ⟨rfl, hx⟩ := h
      go_wp2_with (refine wpList_store_row rfl 25 (.tmp 2) (.tmp 44) rfl w.heap.size (entL 0 0 0 0#8 false none 0 0).toArray rfl rfl 25 _ HK7.out (infoEntL 0 0 0 0#8 false none 0 0) (entL_size _ _ _ _ _ _ _ _ _ _ _ _ _ _ _ _) (entL_one _ _ _ _ _ _ _ _) ?_)
      refine bodyPost_ret (v := .agg (entL 0 0 0 0#8 false none 0 0).toArray) ?_ ?_ ?_
      · exact results_cell_row rfl _ _ w.heap.size 25 _ (0, 0) _ rfl (setRow_heap _ _ _ _ _ _ HK7.out) Try.underlying25 rfl (infoEntL 0 0 0 0#8 false none 0 0)
      · rfl
      · refine ⟨none, 0, 0, by rw [HF.out]; rfl, by rw [HF.out]; exact World.ownsRow_nil _ _ _ _, ?_, grown_setRow (grown_trans HG6.out (grown_set _)) (Nat.le_refl _) _⟩
        rw [HF.out]
        exact ⟨_, _, (H6.out.bad).setRow w.heap.size (by omega) (fun a e => Nat.ne_of_lt (HAB.out a e)) _⟩
    · obtain ⟨rfl, hx0, hx⟩ := h
      have g0 : ¬ x2 < 0 := by omega
      go_wp2_with (refine wpList_store_row rfl 25 (.tmp 2) (.tmp 44) rfl w.heap.size (entL 0 0 0 0#8 false none 0 0).toArray rfl rfl 25 _ HK7.out (infoEntL 0 0 0 0#8 false none 0 0) (entL_size _ _ _ _ _ _ _ _ _ _ _ _ _ _ _ _) (entL_one _ _ _ _ _ _ _ _) ?_)
      refine bodyPost_ret (v := .agg (entL 0 0 0 0#8 false none 0 0).toArray) ?_ ?_ ?_
      · exact results_cell_row rfl _ _ w.heap.size 25 _ (0, 0) _ rfl (setRow_heap _ _ _ _ _ _ HK7.out) Try.underlying25 rfl (infoEntL 0 0 0 0#8 false none 0 0)
      · rfl
      · refine ⟨none, 0, 0, by rw [HF.out]; rfl, by rw [HF.out]; exact World.ownsRow_nil _ _ _ _, ?_, grown_setRow (grown_trans HG6.out (grown_set _)) (Nat.le_refl _) _⟩
        rw [HF.out]
        exact ⟨_, _, (H6.out.bad).setRow w.heap.size (by omega) (fun a e => Nat.ne_of_lt (HAB.out a e)) _⟩
    · obtain ⟨rfl, hx0, hx1, hx⟩ := h
      have g0 : ¬ x2 < 0 := by omega
      have g1 : ¬ 255 < x2 := by omega
      go_wp2_with (refine wpList_store_row rfl 25 (.tmp 2) (.tmp 44) rfl w.heap.size (entL 0 0 0 0#8 false none 0 0).toArray rfl rfl 25 _ HK7.out (infoEntL 0 0 0 0#8 false none 0 0) (entL_size _ _ _ _ _ _ _ _ _ _ _ _ _ _ _ _) (entL_one _ _ _ _ _ _ _ _) ?_)
      refine bodyPost_ret (v := .agg (entL 0 0 0 0#8 false none 0 0).toArray) ?_ ?_ ?_
      · exact results_cell_row rfl _ _ w.heap.size 25 _ (0, 0) _ rfl (setRow_heap _ _ _ _ _ _ HK7.out) Try.underlying25 rfl (infoEntL 0 0 0 0#8 false none 0 0)
      · rfl
      · refine ⟨none, 0, 0, by rw [HF.out]; rfl, by rw [HF.out]; exact World.ownsRow_nil _ _ _ _, ?_, grown_setRow (grown_trans HG6.out (grown_set _)) (Nat.le_refl _) _⟩
        rw [HF.out]
        exact ⟨_, _, (H6.out.bad).setRow w.heap.size (by omega) (fun a e => Nat.ne_of_lt (HAB.out a e)) _⟩
    · obtain ⟨rfl, hx0, hx1, hx2, hx⟩ := h
      have g0 : ¬ x2 < 0 := by omega
      have g1 : ¬ 255 < x2 := by omega
      have g2 : ¬ x5 < 0 := by omega
      go_wp2_with (refine wpList_store_row rfl 25 (.tmp 2) (.tmp 44) rfl w.heap.size (entL 0 0 0 0#8 false none 0 0).toArray rfl rfl 25 _ HK7.out (infoEntL 0 0 0 0#8 false none 0 0) (entL_size _ _ _ _ _ _ _ _ _ _ _ _ _ _ _ _) (entL_one _ _ _ _ _ _ _ _) ?_)
      refine bodyPost_ret (v := .agg (entL 0 0 0 0#8 false none 0 0).toArray) ?_ ?_ ?_
      · exact results_cell_row rfl _ _ w.heap.size 25 _ (0, 0) _ rfl (setRow_heap _ _ _ _ _ _ HK7.out) Try.underlying25 rfl (infoEntL 0 0 0 0#8 false none 0 0)
      · rfl
      · refine ⟨none, 0, 0, by rw [HF.out]; rfl, by rw [HF.out]; exact World.ownsRow_nil _ _ _ _, ?_, grown_setRow (grown_trans HG6.out (grown_set _)) (Nat.le_refl _) _⟩
        rw [HF.out]
        exact ⟨_, _, (H6.out.bad).setRow w.heap.size (by omega) (fun a e => Nat.ne_of_lt (HAB.out a e)) _⟩
  · obtain ⟨rfl, hx0, hx1, hx2, hx3⟩ := hc
    have g0 : ¬ x2 < 0 := by omega
    have g1 : ¬ 255 < x2 := by omega
    have g2 : ¬ x5 < 0 := by omega
    have g3 : ¬ 1 < x5 := by omega
    obtain ⟨K, rfl⟩ : ∃ K : BitVec 8, x2 = (K.toNat : Int) := ⟨BitVec.ofInt 8 x2, by rw [BitVec.toNat_ofInt]; omega⟩
    have hf : M.rdEntry s = (⟨x1, K, x3, x4, x5 == 1, x6⟩, s6) := by
      rw [HENT.out, if_neg, ofInt_B8]
      rintro (h | h | h | h | h)
      · rw [HIS.out] at h; cases h
      · exact g0 h
      · exact g1 h
      · exact g2 h
      · exact g3 h
    have HF := Lib.hid hf
    clear hf
    go_wp2_with (refine wpList_store_row rfl 25 (.tmp 2) (.tmp 53) rfl w.heap.size (entL x1 x3 x4 K (x5 == 1) B m c').toArray rfl rfl 25 _ HK6.out (infoEntL x1 x3 x4 K (x5 == 1) B m c') (entL_size _ _ _ _ _ _ _ _ _ _ _ _ _ _ _ _) (entL_one _ _ _ _ _ _ _ _) ?_)
    refine bodyPost_ret (v := .agg (entL x1 x3 x4 K (x5 == 1) B m c').toArray) ?_ ?_ ?_
    · exact results_cell_row rfl _ _ w.heap.size 25 _ (0, 0) _ rfl (setRow_heap _ _ _ _ _ _ HK6.out) Try.underlying25 rfl (infoEntL x1 x3 x4 K (x5 == 1) B m c')
    · rfl
    · refine ⟨B, m, c', by rw [HF.out], by rw [HF.out]; exact row_setRow HO6.out _ HNE6.out _, ?_, grown_setRow HG6.out (Nat.le_refl _) _⟩
      rw [HF.out]
      exact ⟨_, _, H6.out.setRow w.heap.size (by omega) (fun a e => Nat.ne_of_lt (HAB.out a e)) _⟩
end Go.Proofs.Ytjnhfmicadcmnaa.K
