/- Merged: Apart, ApartBytes, Lit, Box, Held, KitEnts, Open, EntsOf, KitKept, KitLet2. -/
import Derived.Test.YtdmpphioflcofaaGreatLz3
import Derived.Deep.RegionLaw
import Derived.OpenShut
import Derived.ShutString
import Derived.ChangeOld
import Derived.Below
import Derived.Deep.Slices
import Derived.Deep.Fields
import Derived.Deep.DeepHandedRow
import Derived.LaidLaws
import Derived.Lib.QuietBelow
import Derived.Deep.RegionHeld3
import Derived.Deep.DeepCutAuto
/- The contract of barbicankit's apart at a bag that holds rows of bytes alone. -/
namespace Go.Proofs.YtdmpphioflcofaaGreat.K
open Go Go.RowKit

def nilS : Value := .slice none 0 0
def bagCells (v : Value) : List Value := [.slice none 0 0, .slice none 0 0, .slice none 0 0, .slice none 0 0, .slice none 0 0, v, .slice none 0 0, .slice none 0 0, .slice none 0 0, .slice none 0 0, .slice none 0 0, .slice none 0 0, .slice none 0 0, .slice none 0 0, .slice none 0 0, .slice none 0 0, .slice none 0 0, .slice none 0 0, .slice none 0 0, .slice none 0 0, .slice none 0 0]
theorem bag_at (v : Value) (j : Nat) (hj : j < 21) (h5 : j ≠ 5) : (bagCells v)[j]? = some (.slice none 0 0) := by
  rcases j with _ | _ | _ | _ | _ | _ | _ | _ | _ | _ | _ | _ | _ | _ | _ | _ | _ | _ | _ | _ | _ | j
  all_goals first | rfl | (exact absurd rfl h5) | omega
theorem bag_five (v : Value) : (bagCells v)[5]? = some v := rfl
/-- the block g holds a bag whose lists of bytes are v -/
def IsBag (w : World) (g : Nat) (v : Value) : Prop := ∃ t, w.heap[g]? = some (.cells (bagCells v).toArray t (0, 0))
theorem IsBag.nil {w : World} {g : Nat} {v : Value} (h : IsBag w g v) (j : Nat) (hj : j < 21) (h5 : j ≠ 5) : w.cell? ⟨g, j, none⟩ = some (.slice none 0 0) := by
  obtain ⟨t, h⟩ := h
  exact block_cell h (bag_at v j hj h5)
theorem IsBag.five {w : World} {g : Nat} {v : Value} (h : IsBag w g v) : w.cell? ⟨g, 5, none⟩ = some v := by
  obtain ⟨t, h⟩ := h
  exact block_cell h (bag_five v)
theorem IsBag.lt {w : World} {g : Nat} {v : Value} (h : IsBag w g v) : g < w.heap.size := by
  obtain ⟨t, h⟩ := h
  exact (Array.getElem?_eq_some_iff.1 h).1
theorem IsBag.below {w w' : World} {g : Nat} {v : Value} (h : IsBag w g v) (hb : Below w.heap.size w w') : IsBag w' g v := by
  have hl := h.lt
  obtain ⟨t, h⟩ := h
  exact ⟨t, (hb.block g hl).trans h⟩

set_option maxHeartbeats 4000000 in
set_option maxRecDepth 100000 in
theorem apart_any (g : Nat) (v : Value) (base : Nat) (w : World) (hg : IsBag w g v) (hbase : base ≤ w.heap.size) (hf : ∀ w1, Below w.heap.size w w1 → Calls Tryz.prog 60 #[v] w1 fun e w' => e = .returned (.bool true) ∧ Below base w1 w' ∧ w'.heap[g]? = w1.heap[g]?) :
    Calls Tryz.prog 33 #[.pointer (some ⟨g, 0, none⟩)] w fun e w' => e = .returned (.bool true) ∧ Below base w w' := by
  have hb0 : Below w.heap.size w w := Below.refl _ _
  have HF := Lib.hid hf; have HG0 := Lib.hid hg; have HB0 := Lib.hid hb0
  clear hf hg hb0
  go_enter Tryz.func33, Tryz.ntmps33
  have c0 : w.cell? ⟨g, 0, none⟩ = some (.slice none 0 0) := HG0.out.nil 0 (by omega) (by omega)
  go_wp2_with fail
  refine (flatLimbs_nil _).mono ?_
  rintro e w1 ⟨rfl, hb⟩
  have HG1 := Lib.hid (HG0.out.below hb)
  have HB1 := Lib.hid (HB0.out.trans (hb.mono HB0.out.size))
  clear c0 hb HG0 HB0
  have c1 : w1.cell? ⟨g, 1, none⟩ = some (.slice none 0 0) := HG1.out.nil 1 (by omega) (by omega)
  go_wp2_with fail
  refine (flatWords_nil _).mono ?_
  rintro e w2 ⟨rfl, hb⟩
  have HG2 := Lib.hid (HG1.out.below hb)
  have HB2 := Lib.hid (HB1.out.trans (hb.mono HB1.out.size))
  clear c1 hb HG1 HB1
  have c2 : w2.cell? ⟨g, 2, none⟩ = some (.slice none 0 0) := HG2.out.nil 2 (by omega) (by omega)
  go_wp2_with fail
  refine (flatInts_nil _).mono ?_
  rintro e w3 ⟨rfl, hb⟩
  have HG3 := Lib.hid (HG2.out.below hb)
  have HB3 := Lib.hid (HB2.out.trans (hb.mono HB2.out.size))
  clear c2 hb HG2 HB2
  have c3 : w3.cell? ⟨g, 3, none⟩ = some (.slice none 0 0) := HG3.out.nil 3 (by omega) (by omega)
  go_wp2_with fail
  refine (flatLongs_nil _).mono ?_
  rintro e w4 ⟨rfl, hb⟩
  have HG4 := Lib.hid (HG3.out.below hb)
  have HB4 := Lib.hid (HB3.out.trans (hb.mono HB3.out.size))
  clear c3 hb HG3 HB3
  have c4 : w4.cell? ⟨g, 4, none⟩ = some (.slice none 0 0) := HG4.out.nil 4 (by omega) (by omega)
  go_wp2_with fail
  refine (flatTexts_nil _).mono ?_
  rintro e w5 ⟨rfl, hb⟩
  have HG5 := Lib.hid (HG4.out.below hb)
  have HB5 := Lib.hid (HB4.out.trans (hb.mono HB4.out.size))
  clear c4 hb HG4 HB4
  have c5 : w5.cell? ⟨g, 5, none⟩ = some v := HG5.out.five
  go_wp2_with fail
  refine (HF.out _ HB5.out).mono ?_
  rintro e w6 ⟨rfl, hb, hbg⟩
  have hg6 : IsBag w6 g v := by
    obtain ⟨t, h⟩ := HG5.out
    exact ⟨t, hbg.trans h⟩
  have HG6 := Lib.hid hg6
  have HB6 := Lib.hid ((HB5.out.mono hbase).trans hb)
  clear c5 hb hbg hg6 HG5 HB5
  have c6 : w6.cell? ⟨g, 6, none⟩ = some (.slice none 0 0) := HG6.out.nil 6 (by omega) (by omega)
  go_wp2_with fail
  refine (flatTruths_nil _).mono ?_
  rintro e w7 ⟨rfl, hb⟩
  have HG7 := Lib.hid (HG6.out.below hb)
  have HB7 := Lib.hid (HB6.out.trans (hb.mono (Nat.le_trans hbase HB6.out.size)))
  clear c6 hb HG6 HB6
  have c7 : w7.cell? ⟨g, 7, none⟩ = some (.slice none 0 0) := HG7.out.nil 7 (by omega) (by omega)
  go_wp2_with fail
  refine (flatIns_nil _).mono ?_
  rintro e w8 ⟨rfl, hb⟩
  have HG8 := Lib.hid (HG7.out.below hb)
  have HB8 := Lib.hid (HB7.out.trans (hb.mono (Nat.le_trans hbase HB7.out.size)))
  clear c7 hb HG7 HB7
  have c8 : w8.cell? ⟨g, 8, none⟩ = some (.slice none 0 0) := HG8.out.nil 8 (by omega) (by omega)
  go_wp2_with fail
  refine (flatSpans_nil _).mono ?_
  rintro e w9 ⟨rfl, hb⟩
  have HG9 := Lib.hid (HG8.out.below hb)
  have HB9 := Lib.hid (HB8.out.trans (hb.mono (Nat.le_trans hbase HB8.out.size)))
  clear c8 hb HG8 HB8
  have c9 : w9.cell? ⟨g, 9, none⟩ = some (.slice none 0 0) := HG9.out.nil 9 (by omega) (by omega)
  go_wp2_with fail
  refine (flatKnowns_nil _).mono ?_
  rintro e w10 ⟨rfl, hb⟩
  have HG10 := Lib.hid (HG9.out.below hb)
  have HB10 := Lib.hid (HB9.out.trans (hb.mono (Nat.le_trans hbase HB9.out.size)))
  clear c9 hb HG9 HB9
  have c10 : w10.cell? ⟨g, 10, none⟩ = some (.slice none 0 0) := HG10.out.nil 10 (by omega) (by omega)
  go_wp2_with fail
  refine (flatPlaces_nil _).mono ?_
  rintro e w11 ⟨rfl, hb⟩
  have HG11 := Lib.hid (HG10.out.below hb)
  have HB11 := Lib.hid (HB10.out.trans (hb.mono (Nat.le_trans hbase HB10.out.size)))
  clear c10 hb HG10 HB10
  have c11 : w11.cell? ⟨g, 11, none⟩ = some (.slice none 0 0) := HG11.out.nil 11 (by omega) (by omega)
  go_wp2_with fail
  refine (flatFaults_nil _).mono ?_
  rintro e w12 ⟨rfl, hb⟩
  have HG12 := Lib.hid (HG11.out.below hb)
  have HB12 := Lib.hid (HB11.out.trans (hb.mono (Nat.le_trans hbase HB11.out.size)))
  clear c11 hb HG11 HB11
  have c12 : w12.cell? ⟨g, 12, none⟩ = some (.slice none 0 0) := HG12.out.nil 12 (by omega) (by omega)
  go_wp2_with fail
  refine (flatOutcomes_nil _).mono ?_
  rintro e w13 ⟨rfl, hb⟩
  have HG13 := Lib.hid (HG12.out.below hb)
  have HB13 := Lib.hid (HB12.out.trans (hb.mono (Nat.le_trans hbase HB12.out.size)))
  clear c12 hb HG12 HB12
  have c13 : w13.cell? ⟨g, 13, none⟩ = some (.slice none 0 0) := HG13.out.nil 13 (by omega) (by omega)
  go_wp2_with fail
  refine (flatFlats_nil _).mono ?_
  rintro e w14 ⟨rfl, hb⟩
  have HG14 := Lib.hid (HG13.out.below hb)
  have HB14 := Lib.hid (HB13.out.trans (hb.mono (Nat.le_trans hbase HB13.out.size)))
  clear c13 hb HG13 HB13
  have c14 : w14.cell? ⟨g, 14, none⟩ = some (.slice none 0 0) := HG14.out.nil 14 (by omega) (by omega)
  go_wp2_with fail
  refine (flatBundles_nil _).mono ?_
  rintro e w15 ⟨rfl, hb⟩
  have HG15 := Lib.hid (HG14.out.below hb)
  have HB15 := Lib.hid (HB14.out.trans (hb.mono (Nat.le_trans hbase HB14.out.size)))
  clear c14 hb HG14 HB14
  have c15 : w15.cell? ⟨g, 15, none⟩ = some (.slice none 0 0) := HG15.out.nil 15 (by omega) (by omega)
  go_wp2_with fail
  refine (flatEntries_nil _).mono ?_
  rintro e w16 ⟨rfl, hb⟩
  have HG16 := Lib.hid (HG15.out.below hb)
  have HB16 := Lib.hid (HB15.out.trans (hb.mono (Nat.le_trans hbase HB15.out.size)))
  clear c15 hb HG15 HB15
  have c16 : w16.cell? ⟨g, 16, none⟩ = some (.slice none 0 0) := HG16.out.nil 16 (by omega) (by omega)
  go_wp2_with fail
  refine (flatHeldRow_nil _).mono ?_
  rintro e w17 ⟨rfl, hb⟩
  have HG17 := Lib.hid (HG16.out.below hb)
  have HB17 := Lib.hid (HB16.out.trans (hb.mono (Nat.le_trans hbase HB16.out.size)))
  clear c16 hb HG16 HB16
  have c17 : w17.cell? ⟨g, 17, none⟩ = some (.slice none 0 0) := HG17.out.nil 17 (by omega) (by omega)
  go_wp2_with fail
  refine (flatRegistries_nil _).mono ?_
  rintro e w18 ⟨rfl, hb⟩
  have HG18 := Lib.hid (HG17.out.below hb)
  have HB18 := Lib.hid (HB17.out.trans (hb.mono (Nat.le_trans hbase HB17.out.size)))
  clear c17 hb HG17 HB17
  have c18 : w18.cell? ⟨g, 18, none⟩ = some (.slice none 0 0) := HG18.out.nil 18 (by omega) (by omega)
  go_wp2_with fail
  refine (flatLetters_nil _).mono ?_
  rintro e w19 ⟨rfl, hb⟩
  have HG19 := Lib.hid (HG18.out.below hb)
  have HB19 := Lib.hid (HB18.out.trans (hb.mono (Nat.le_trans hbase HB18.out.size)))
  clear c18 hb HG18 HB18
  have c19 : w19.cell? ⟨g, 19, none⟩ = some (.slice none 0 0) := HG19.out.nil 19 (by omega) (by omega)
  go_wp2_with fail
  refine (flatSteps_nil _).mono ?_
  rintro e w20 ⟨rfl, hb⟩
  have HG20 := Lib.hid (HG19.out.below hb)
  have HB20 := Lib.hid (HB19.out.trans (hb.mono (Nat.le_trans hbase HB19.out.size)))
  clear c19 hb HG19 HB19
  have c20 : w20.cell? ⟨g, 20, none⟩ = some (.slice none 0 0) := HG20.out.nil 20 (by omega) (by omega)
  go_wp2_with fail
  refine (flatTales_nil _).mono ?_
  rintro e w21 ⟨rfl, hb⟩
  have HG21 := Lib.hid (HG20.out.below hb)
  have HB21 := Lib.hid (HB20.out.trans (hb.mono (Nat.le_trans hbase HB20.out.size)))
  clear c20 hb HG20 HB20
  go_wp2
  go_ret
  exact ⟨rfl, HB21.out⟩
end Go.Proofs.YtdmpphioflcofaaGreat.K

/- The contracts of barbicankit's putBytes and ApartBytes: rows of bytes that lie apart are told to. -/
namespace Go.Proofs.YtdmpphioflcofaaGreat.K
open Go Go.RowKit

theorem IsBag.set {w : World} {g : Nat} {v : Value} (h : IsBag w g v) (v' : Value) : IsBag (w.setCell ⟨g, 5, none⟩ v') g v' := by
  obtain ⟨t, h⟩ := h
  exact ⟨t, block_set h 5 v'⟩
theorem IsBag.grown {w w1 : World} {g B k : Nat} {v x : Value} {e t : TypeId} {vals : List Value} (h : IsBag w g v) (ho : w.ownsRow B e 1 v k vals) (hB : g < B) (hg : (w.alloc (.cells #[x] t)).grownBy w1 v.ownBlock) : IsBag w1 g v := by
  have hl := h.lt
  have hvg : v.ownBlock ≠ some g := fun h => by
    have := (ho.lt g h).1; omega
  obtain ⟨t, h⟩ := h
  exact ⟨t, (hg.block g (by simp; omega) (Ne.symm hvg)).trans ((heap_alloc_old w _ hl).trans h)⟩
theorem IsBag.free {w : World} {g : Nat} {v : Value} (h : IsBag w g v) (j : Nat) : w.frozen? ⟨g, j, none⟩ = false := by
  obtain ⟨t, h⟩ := h
  exact frozen_of_row w g j _ t h

set_option maxHeartbeats 1000000 in
set_option maxRecDepth 100000 in
theorem putBytes_any (g B : Nat) (v : Value) (k : Nat) (vals : List Value) (A : Option Addr) (n c : Nat) (w : World) (hg : IsBag w g v) (hown : w.ownsRow B 22 1 v k vals) (hgB : g < B) (hB : B ≤ w.heap.size) (hk : k ≤ 1000000) :
    Calls Tryz.prog 85 #[.pointer (some ⟨g, 0, none⟩), .slice A n c] w fun e w' => e = .returned (.tuple #[]) ∧ ∃ v', IsBag w' g v' ∧ w'.ownsRow B 22 1 v' (k + 1) (vals ++ [.slice A n c]) ∧ Below g w w' := by
  obtain ⟨j0, hj0, hy0, hy1, hy2⟩ := info_parts infoBytes
  have c5 := hg.five
  have hgl := hg.lt
  have HG := Lib.hid hg; have HO := Lib.hid hown
  clear hg hown
  go_enter Tryz.func85, Tryz.ntmps85
  go_wp2_with (first
    | (at_builtin; refine wpList_append_own _ rfl _ _ 63 rfl B 22 j0 (.slice none 0 0) 1 24 Tryz.underlying63 hj0 hy0 hy1 hy2 rfl (by decide) v k vals rfl (HO.out.alloc _) ⟨w.heap.size, 0, none⟩ 1 1 [.slice A n c] rfl rfl (cell_last _ _ _) (by intro u hu; simp at hu; subst hu; rfl) (by unfold maxLen; omega) (by omega) (by simp; omega) ?_; intro v' w1 hown1 hgrow1 _; obtain ⟨L, cL, rfl, hgL, _⟩ := hown1.form (Nat.succ_pos _); have hg1 : IsBag w1 g v := IsBag.grown HG.out HO.out hgB hgrow1; have d5 := hg1.five; have f5 := hg1.free 5; have HG1 := Lib.hid hg1; have HO1 := Lib.hid hown1; clear hg1 hown1)
    | (with_reducible refine wpList_store_one rfl 63 (.tmp 13) (.tmp 11) rfl ⟨g, 5, none⟩ _ _ rfl rfl rfl (by kernel_rfl) d5 f5 ?_))
  go_end0
  refine ⟨rfl, _, HG1.out.set _, ?_, ?_⟩
  · exact HO1.out.kept (grownBy_setCell w1 g 5 _) (.inr (by simp [Value.ownBlock]; omega))
  · exact (((Below.refl _ _).mono (Nat.le_of_lt hgl)).alloc (Nat.le_of_lt hgl) _).grown hgrow1 (by simp; omega) (fun k' hk' => by have := (HO.out.lt k' hk').1; omega) |>.setCell (Nat.le_refl _) _

set_option maxHeartbeats 2000000 in
set_option maxRecDepth 100000 in
theorem ApartBytes_any (S : Option Addr) (m cS : Nat) (r : Nat → Rw) (f : Nat → List (BitVec 8)) (base : Nat) (w : World)
    (hS : ∀ j, j < m → ∃ b o, S = some ⟨b, o, none⟩ ∧ w.cell? ⟨b, o + j, none⟩ = some (r j).v) (hown : ∀ j, j < m → (r j).own w base 5 (f j))
    (hsep : ∀ i j, i < m → j < m → i ≠ j → ∀ b, (r i).blk = some b → (r j).blk ≠ some b) (hm : m ≤ 1000000) (hn : ∀ j, j < m → (r j).n ≤ 1000000000000) (hbase : base ≤ w.heap.size) :
    Calls Tryz.prog 44 #[.slice S m cS] w fun e w' => e = .returned (.bool true) ∧ Below base w w' := by
  have hlt : ∀ j, j < m → ∀ b, (r j).blk = some b → b < w.heap.size := fun j hj b hb => ((hown j hj).lt b hb).2
  have HS := Lib.hid hS; have HOWN := Lib.hid hown; have HSEP := Lib.hid hsep; have HN := Lib.hid hn; have HLT := Lib.hid hlt
  clear hS hown hsep hn hlt
  go_enter Tryz.func44, Tryz.ntmps44
  go_wp2
  have hbag : IsBag (w.alloc (.cells (bagCells nilS).toArray 79)) w.heap.size nilS := ⟨_, heap_alloc_new w _⟩
  have hb0 : Below w.heap.size w (w.alloc (.cells (bagCells nilS).toArray 79)) := (Below.refl _ _).alloc (Nat.le_refl _) _
  have hsz : (w.alloc (.cells (bagCells nilS).toArray 79)).heap.size = w.heap.size + 1 := by simp
  have hsz1 : w.heap.size + 1 ≤ (w.alloc (.cells (bagCells nilS).toArray 79)).heap.size := by omega
  have HBAG := Lib.hid hbag; have HB0 := Lib.hid hb0; have HZ := Lib.hid hsz1
  clear hbag hb0 hsz hsz1
  go_loopw [4] (fun i wr => ∃ k : Nat, k ≤ m ∧ i = .int .i64 (k : Int) ∧ ∃ v, IsBag wr w.heap.size v ∧ wr.ownsRow (w.heap.size + 1) 22 1 v k ((List.range k).map fun j => (r j).v) ∧ (k = 0 → v = nilS) ∧ Below w.heap.size w wr ∧ w.heap.size + 1 ≤ wr.heap.size) (fun i _ => m - (intOf i).toNat)
  case atStart => exact ⟨0, Nat.zero_le _, rfl, nilS, HBAG.out, World.ownsRow_nil _ _ _ _, fun _ => rfl, HB0.out, HZ.out⟩
  case round =>
    clear HBAG HB0 HZ
    obtain ⟨k, hk, rfl, v, hbag, hown, hv0, hb, hsz⟩ := hrel
    have k0 : (0 : Int) ≤ (k : Int) := by omega
    have HBAG := Lib.hid hbag; have HO := Lib.hid hown; have HV := Lib.hid hv0
    clear hbag hown hv0
    rcases Nat.lt_or_ge k m with h1 | h1
    · have i1 : (k : Int) < (m : Int) := by omega
      obtain ⟨b, o, rfl, hc⟩ := HS.out k h1
      obtain ⟨A, n, c, hr⟩ : ∃ A n c, r k = ⟨A, n, c⟩ := ⟨_, _, _, rfl⟩
      have hc1 : wr.cell? ⟨b, o + k, none⟩ = some (.slice A n c) := (hb.cell (block_lt_of_cell hc)).trans (by rw [hc, hr]; rfl)
      have HR := Lib.hid hr
      clear hc hr
      go_wp2_with fail
      refine (putBytes_any w.heap.size (w.heap.size + 1) v k _ A n c wr HBAG.out HO.out (by omega) hsz (by omega)).mono ?_
      rintro e w2 ⟨rfl, v', hg', ho', hb'⟩
      have HG' := Lib.hid hg'; have HO' := Lib.hid ho'; have HB' := Lib.hid (hb.trans hb')
      have hsz2 := hb'.size
      clear hg' ho' hb' hc1
      go_wp2
      go_roundw
      case rel =>
        refine ⟨k + 1, by omega, by go_num, v', HG'.out, ?_, fun h => by omega, HB'.out, by omega⟩
        have o := HO'.out
        rw [List.range_succ, List.map_append, List.map_cons, List.map_nil, HR.out]
        exact o
      case measure => simp [intOf]; omega
    · have hkm : k = m := by omega
      have i1 : ¬ (k : Int) < (m : Int) := by omega
      rw [hkm] at HO HV
      go_wp2_with fail
      have hcall : ∀ w1, Below wr.heap.size wr w1 → Calls Tryz.prog 60 #[v] w1 fun e w' => e = .returned (.bool true) ∧ Below base w1 w' ∧ w'.heap[w.heap.size]? = w1.heap[w.heap.size]? := by
        intro w1 hb1
        have hb01 : Below w.heap.size w w1 := hb.trans (hb1.mono hb.size)
        rcases Nat.eq_zero_or_pos m with hm0 | hm0
        · rw [HV.out hm0]
          refine (flatBytes_nil w1).mono ?_
          rintro e w2 ⟨he, hb2⟩
          exact ⟨he, hb2.mono (Nat.le_trans hbase hb01.size), hb2.block _ (by have := hb1.size; omega)⟩
        · obtain ⟨L, cL, rfl, hL1, hL2⟩ := HO.out.form (by omega)
          have hs1 := hb1.size
          refine (flatBytes_any (fun b => b = L ∨ b = w.heap.size) L m cL r f base w1 ⟨fun j hj => ?_, HSEP.out, fun _ h => absurd h (Nat.not_lt_zero _), fun _ _ _ h => absurd h (Nat.not_lt_zero _), fun _ _ h => absurd h (Nat.not_lt_zero _), fun b hb2 => ⟨?_, fun j hj h => ?_, fun _ h => absurd h (Nat.not_lt_zero _)⟩⟩ (fun j hj => ?_) hm HN.out (Nat.le_trans hbase hb01.size) (.inl rfl)).mono ?_
          · exact World.ownsRow.kept (HOWN.out j hj) (row := none) ⟨hb01.os, hb01.tape, hb01.output, hb01.size, fun k' hk' _ => hb01.block k' hk'⟩ (by cases h : (r j).v.ownBlock <;> simp)
          · rcases hb2 with rfl | rfl <;> omega
          · have := HLT.out j hj b h
            rcases hb2 with rfl | rfl <;> omega
          · have hc := (HO.out).cellAt j (by omega)
            refine (hb1.cell (p := ⟨L, j, none⟩) hL2).trans (hc.trans ?_)
            simp [hj]
          · rintro e w2 ⟨he, h2, h3⟩
            exact ⟨he, h2, h3 _ (.inr rfl)⟩
      refine (apart_any w.heap.size v base wr HBAG.out (by omega) hcall).mono ?_
      rintro e w2 ⟨rfl, hb2⟩
      have HB2 := Lib.hid ((hb.mono hbase).trans hb2)
      clear hb2 hcall
      go_wp2
      go_ret
      exact ⟨rfl, HB2.out⟩
end Go.Proofs.YtdmpphioflcofaaGreat.K

/- Literal slices, lent ones, and the kit's questions about them. -/
namespace Go.Proofs.YtdmpphioflcofaaGreat.K
open Go Go.RowKit

theorem row_lit (w : World) (cs : Array Value) (t : TypeId) (bs : List (BitVec 8)) (n c : Nat) (h : cs.toList = bv bs) (hn : bs.length = n) : RowRd (w.alloc (.cells cs t)) ⟨some ⟨w.heap.size, 0, none⟩, n, c⟩ bs :=
  ⟨Rd.of_block (heap_alloc_new w _) (by rw [h, ← bv_length, List.take_length]), hn, fun h => by cases h⟩
/-- two rows that read the same -/
theorem SameBytes_eq (A B : Option Addr) (n m c d : Nat) (bs : List (BitVec 8)) (w : World) (hx : RowRd w ⟨A, n, c⟩ bs) (hy : RowRd w ⟨B, m, d⟩ bs) (hn2 : n ≤ 4611686018427387904) :
    Calls Tryz.prog 15 #[.slice A n c, .slice B m d] w fun e w' => e = .returned (.bool true) ∧ Below w.heap.size w w' := by
  have hnm : m ≤ 4611686018427387904 := by have := hx.len; have := hy.len; simp at *; omega
  refine (SameBytes_any A B n m c d bs bs w hx.rd hy.rd hx.len hy.len hn2 hnm).mono ?_
  rintro e w1 ⟨rfl, q, rfl⟩
  exact ⟨by rw [decide_eq_true rfl], below_drewN (Below.refl _ _) q⟩
theorem grown_none_of_below {w w1 : World} (h : Below w.heap.size w w1) : w.grownBy w1 none := ⟨h.os, h.tape, h.output, h.size, fun k hk _ => h.block k hk⟩
abbrev RB := Rw × List (BitVec 8)
def flat (l : List RB) : List (BitVec 8) := (l.map (·.2)).flatten
def accOf (p : RB) : Acc := ⟨p.1.v, p.1.n, 5, 1, bv p.2⟩
theorem apart_lit {w0 w : World} (l : List RB) (cs : Array Value) (k c : Nat) (hcs : cs = (l.map fun p => p.1.v).toArray) (hk : k = l.length) (hB : Bank w0 w (l.reverse.map accOf)) (hm : l.length ≤ 1000000) (hn : ∀ p ∈ l, p.1.n ≤ 1000000000000) :
    Calls Tryz.prog 44 #[.slice (some ⟨w.heap.size, 0, none⟩) k c] (w.alloc (.cells cs 22)) fun e w' => e = .returned (.bool true) ∧ Since w0 w' := by
  subst hcs hk
  have hB2 := hB.alloc (.cells (l.map fun p => p.1.v).toArray 22)
  have hrow : ∀ j, (h : j < l.length) → rowsOf l j = l[j].1 ∧ bytesAt l j = l[j].2 := fun j h => by simp [rowsOf, bytesAt, h]
  refine (ApartBytes_any (some ⟨w.heap.size, 0, none⟩) l.length c (rowsOf l) (bytesAt l) w0.heap.size (w.alloc (.cells (l.map fun p => p.1.v).toArray 22)) (fun j hj => ?_) (fun j hj => ?_) (fun i j hi hj hij => ?_) hm (fun j hj => ?_) hB2.since.size).mono ?_
  · refine ⟨w.heap.size, 0, rfl, ?_⟩
    rw [World.cell?_alloc_new, (hrow j hj).1]
    simp [hj]
  · have := hB2.own (accOf l[j]) (List.mem_map.2 ⟨l[j], by simp, rfl⟩)
    unfold Rw.own
    rw [(hrow j hj).1, (hrow j hj).2]
    exact this
  · have h1 : (l.reverse.map accOf)[l.length - 1 - i]? = some (accOf l[i]) := by
      rw [List.getElem?_map, List.getElem?_reverse (by omega)]
      simp [show l.length - 1 - (l.length - 1 - i) = i by omega, hi]
    have h2 : (l.reverse.map accOf)[l.length - 1 - j]? = some (accOf l[j]) := by
      rw [List.getElem?_map, List.getElem?_reverse (by omega)]
      simp [show l.length - 1 - (l.length - 1 - j) = j by omega, hj]
    rw [(hrow i hi).1, (hrow j hj).1]
    exact hB2.sepAt h1 h2 (by omega)
  · rw [(hrow j hj).1]; exact hn _ (List.getElem_mem _)
  · rintro e w' ⟨he, hb⟩
    exact ⟨he, hB2.since.trans hb⟩
/-- lent bytes -/
def Lent1 (w0 : World) (n : Nat) (bs : List (BitVec 8)) (e : Ending) (w' : World) : Prop := ∃ g, e = .returned (.slice (some ⟨g, 0, none⟩) n (n + 12)) ∧ w0.heap.size ≤ g ∧ w'.heap[g]? = some (.cells (bv (bs ++ marks 1 0 12)).toArray 5 (0, 0)) ∧ Since w0 w'
theorem lent_from (w0 : World) (A : Option Addr) (n c : Nat) (bs : List (BitVec 8)) (hr : RowRd w0 ⟨A, n, c⟩ bs) (hn2 : n ≤ 140737488000000) {w : World} (h : Since w0 w) :
    Calls Tryz.prog 6 #[.slice A n c] w (Lent1 w n bs) := by
  have hr' := h.row hr
  exact (LentBytes_any A n c bs w hr'.rd hr'.len hn2 hr'.none).mono fun e w' ⟨g, he, hg, hb, hbe⟩ => ⟨g, he, hg, hb, hbe⟩
/-- kept, as lent -/
theorem kept_made {w0 : World} {g : Nat} {A : Option Addr} {n c : Nat} {bs : List (BitVec 8)} (hg : w0.heap[g]? = some (.cells (bv (bs ++ marks 1 0 12)).toArray 5 (0, 0))) (hr : RowRd w0 ⟨A, n, c⟩ bs) (hn2 : n ≤ 140737488000000) {w : World} (h : Since w0 w) :
    Calls Tryz.prog 10 #[.slice (some ⟨g, 0, none⟩) n (n + 12), .slice A n c] w fun e w' => e = .returned (.bool true) ∧ Below w.heap.size w w' :=
  (KeptBytes_any g A n c bs w (h.at hg) (h.row hr).rd hr.len hn2).mono fun e w' ⟨he, q, hw⟩ => ⟨he, by subst hw; exact below_drewN (Below.refl _ _) q⟩
theorem same_made {w0 : World} {A B : Option Addr} {n m c d : Nat} {bs : List (BitVec 8)} (hx : RowRd w0 ⟨A, n, c⟩ bs) (hy : RowRd w0 ⟨B, m, d⟩ bs) (hn2 : n ≤ 4611686018427387904) {w : World} (h : Since w0 w) :
    Calls Tryz.prog 15 #[.slice A n c, .slice B m d] w fun e w' => e = .returned (.bool true) ∧ Below w.heap.size w w' :=
  SameBytes_eq A B n m c d bs w (h.row hx) (h.row hy) hn2
/-- lent bytes read as the bytes -/
theorem lent_row {w : World} {g n : Nat} {bs : List (BitVec 8)} (hg : w.heap[g]? = some (.cells (bv (bs ++ marks 1 0 12)).toArray 5 (0, 0))) (hn : bs.length = n) : RowRd w ⟨some ⟨g, 0, none⟩, n, n + 12⟩ bs :=
  ⟨Rd.of_block hg (by rw [List.toList_toArray, bv_append, List.take_left' (bv_length bs)]), hn, fun h => by cases h⟩
end Go.Proofs.YtdmpphioflcofaaGreat.K

/- Boxes as accounts of a bank: blocks of cells that the call made, written cell by cell or whole. -/
namespace Go.Proofs.YtdmpphioflcofaaGreat.K
open Go Go.RowKit

def rowAcc (A : Option Addr) (N c : Nat) (bs : List (BitVec 8)) : Acc := ⟨.slice A N c, N, 5, 1, bv bs⟩
/-- a block of cells as a row -/
def boxAcc (g : Nat) (t : TypeId) (vs : List Value) : Acc := ⟨.slice (some ⟨g, 0, none⟩) vs.length vs.length, vs.length, t, 1, vs⟩
theorem Bank.box {w0 w : World} {L : List Acc} (h : Bank w0 w L) (cs : Array Value) (t : TypeId) (hs : cs.size ≤ 1000000) : Bank w0 (w.alloc (.cells cs t)) (boxAcc w.heap.size t cs.toList :: L) := by
  have := h.litV cs t hs
  exact this
/-- a box's block -/
theorem Bank.boxAt {w0 w : World} {L : List Acc} (h : Bank w0 w L) (i : Nat) {g : Nat} {t : TypeId} {vs : List Value} (hi : L[i]? = some (boxAcc g t vs)) : w0.heap.size ≤ g ∧ w.heap[g]? = some (.cells vs.toArray t (0, 0)) := own_full (h.at i hi)
/-- a cell of a box is written -/
theorem Bank.boxSet {w0 w : World} {L : List Acc} (h : Bank w0 w L) (i : Nat) {g : Nat} {t : TypeId} {vs : List Value} (hi : L[i]? = some (boxAcc g t vs)) (j : Nat) (v : Value) : Bank w0 (w.setCell ⟨g, j, Option.none⟩ v) (L.set i (boxAcc g t (vs.set j v))) := by
  obtain ⟨ho, hg⟩ := (h.at i hi).stored j v
  refine h.put i hi ?_ hg (.inl ?_)
  · show (w.setCell ⟨g, j, Option.none⟩ v).ownsRow _ _ _ (.slice _ (vs.set j v).length (vs.set j v).length) (vs.set j v).length _
    rw [List.length_set]
    exact ho
  · show Value.ownBlock (.slice _ (vs.set j v).length (vs.set j v).length) = _
    rw [List.length_set]
    rfl
theorem Bank.ne {w0 w : World} {L : List Acc} (h : Bank w0 w L) {i j : Nat} {g g' : Nat} {t t' : TypeId} {vs vs' : List Value} (hi : L[i]? = some (boxAcc g t vs)) (hj : L[j]? = some (boxAcc g' t' vs')) (hij : i ≠ j) : g ≠ g' := by
  intro e
  subst e
  exact h.sepAt hi hj hij g rfl rfl
theorem Bank.cell {w0 w : World} {L : List Acc} (h : Bank w0 w L) (i : Nat) {g : Nat} {t : TypeId} {vs : List Value} (hi : L[i]? = some (boxAcc g t vs)) (j : Nat) {v : Value} (hv : vs[j]? = some v) : w.cell? ⟨g, j, Option.none⟩ = some v := block_cell (h.boxAt i hi).2 hv
theorem Bank.free {w0 w : World} {L : List Acc} (h : Bank w0 w L) (i : Nat) {g : Nat} {t : TypeId} {vs : List Value} (hi : L[i]? = some (boxAcc g t vs)) (j : Nat) : w.frozen? ⟨g, j, Option.none⟩ = false := frozen_of_row w g j _ _ (h.boxAt i hi).2
theorem own_someB {w : World} {base : Nat} {e : TypeId} {A : Option Addr} {n c : Nat} {xs : List Value} (h : w.ownsRow base e 1 (.slice A n c) n xs) (hp : 0 < n) : ∃ g, A = some ⟨g, 0, none⟩ := by
  rcases h.2 with ⟨h0, h1⟩ | ⟨g, cap, cur, hv, _⟩
  · cases h0; omega
  · simp only [Value.slice.injEq, true_and] at hv
    exact ⟨g, hv.1⟩
/-- a box is written whole -/
theorem Bank.boxRow {w0 w : World} {L : List Acc} (h : Bank w0 w L) (i : Nat) {g : Nat} {t : TypeId} {vs : List Value} (hi : L[i]? = some (boxAcc g t vs)) (vs' : List Value) (hl : vs'.length = vs.length) (hs : vs.length ≤ 1000000) : Bank w0 (w.setRow g vs'.toArray) (L.set i (boxAcc g t vs')) := by
  obtain ⟨hb, hg⟩ := h.boxAt i hi
  refine h.put i hi ?_ (show w.grownBy (w.setRow g vs'.toArray) (some g) from ⟨rfl, rfl, rfl, by simp [World.setRow], fun k hk hne => setRow_other w g k _ (fun e => hne (by rw [e]))⟩) (.inl ?_)
  · refine ⟨?_, .inr ⟨g, _, _, rfl, hb, setRow_heap _ _ _ _ _ _ hg, Nat.le_refl _, ?_, ?_, ?_⟩⟩
    · show vs'.length = vs'.length * 1; omega
    · show vs'.length ≤ maxLen; unfold maxLen; omega
    · show _ = vs'.length * 1; simp
    · show vs'.toArray.toList.take (vs'.length * 1) = vs'; simp
  · show Value.ownBlock (.slice _ vs'.length vs'.length) = _
    rw [hl]; rfl
end Go.Proofs.YtdmpphioflcofaaGreat.K

/- A reader beside a bank: its block and what it reads of are none of the bank's. Plain lemmas over any program. -/
namespace Go.Proofs.YtdmpphioflcofaaGreat.K
open Go Go.RowKit

theorem Bank.sub {w0 w : World} {L L' : List Acc} (h : Bank w0 w L) (hs : L'.Sublist L) : Bank w0 w L' := ⟨h.since, fun p hp => h.own p (hs.subset hp), h.sep.sublist hs⟩
structure Held (w0 w : World) (Q : World → M.Rdr → Prop) (s : M.Rdr) (R : Nat) (Bd : Option Addr) (L : List Acc) : Prop where
  bank : Bank w0 w L
  q : Q w s
  keep : ∀ w w' s (row : Option Nat), Q w s → w.grownBy w' row → row ≠ some R → (∀ a, Bd = some a → row ≠ some a.block) → Q w' s
  lt : R < w.heap.size ∧ ∀ a, Bd = some a → a.block < w.heap.size
  base : w0.heap.size ≤ R
  away : ∀ p ∈ L, ∀ b, p.v.ownBlock = some b → b ≠ R ∧ ∀ a, Bd = some a → b ≠ a.block
section
variable {w0 w w' : World} {Q : World → M.Rdr → Prop} {s s' : M.Rdr} {R : Nat} {Bd : Option Addr} {L : List Acc}
theorem Held.step (h : Held w0 w Q s R Bd L) (hq : Q w' s') (hg : w.grownBy w' (some R)) : Held w0 w' Q s' R Bd L :=
  ⟨h.bank.other hg h.base (fun p hp e => (h.away p hp R e).1 rfl), hq, h.keep, ⟨Nat.lt_of_lt_of_le h.lt.1 hg.size, fun a e => Nat.lt_of_lt_of_le (h.lt.2 a e) hg.size⟩, h.base, h.away⟩
theorem Held.row (h : Held w0 w Q s R Bd L) (hq : Q w' s') (hg : w.grownBy w' (some R)) {e : TypeId} {size m : Nat} {v : Value} {xs : List Value} (ho : w'.ownsRow w.heap.size e size v m xs) : Held w0 w' Q s' R Bd (⟨v, m, e, size, xs⟩ :: L) := by
  have h1 := h.step hq hg
  refine ⟨h1.bank.add ho h.bank.since.size (fun p hp b hb => (h.bank.lt hp hb).2), hq, h.keep, h1.lt, h.base, fun p hp b hb => ?_⟩
  rcases List.mem_cons.1 hp with rfl | hp
  · have h2 := (ho.lt b hb).1
    have h3 := h.lt.1
    exact ⟨by omega, fun a e => by have := h.lt.2 a e; omega⟩
  · exact h.away p hp b hb
theorem Held.call (h : Held w0 w Q s R Bd L) (hb : Below w.heap.size w w') : Held w0 w' Q s R Bd L :=
  ⟨h.bank.call hb, h.keep _ _ _ none h.q (grown_none_of_below hb) (by simp) (fun _ _ => by simp), h.keep, ⟨Nat.lt_of_lt_of_le h.lt.1 hb.size, fun a e => Nat.lt_of_lt_of_le (h.lt.2 a e) hb.size⟩, h.base, h.away⟩
theorem Held.set (h : Held w0 w Q s R Bd L) (i : Nat) {g : Nat} {t : TypeId} {vs : List Value} (hi : L[i]? = some (boxAcc g t vs)) (j : Nat) (v : Value) : Held w0 (w.setCell ⟨g, j, Option.none⟩ v) Q s R Bd (L.set i (boxAcc g t (vs.set j v))) := by
  have ha := h.away _ (List.mem_of_getElem? hi) g rfl
  refine ⟨h.bank.boxSet i hi j v, h.keep _ _ _ (some g) h.q (grownBy_setCell w g j v) (fun e => ha.1 (Option.some.inj e)) (fun a e e2 => ha.2 a e (Option.some.inj e2)), h.keep, ⟨by simpa using h.lt.1, fun a e => by simpa using h.lt.2 a e⟩, h.base, fun p hp b hb => ?_⟩
  rcases List.mem_or_eq_of_mem_set hp with hp | rfl
  · exact h.away p hp b hb
  · have e : b = g := by simpa [boxAcc, Value.ownBlock] using hb.symm
    subst e
    exact ha
theorem Held.box (h : Held w0 w Q s R Bd L) (cs : Array Value) (t : TypeId) (hs : cs.size ≤ 1000000) : Held w0 (w.alloc (.cells cs t)) Q s R Bd (boxAcc w.heap.size t cs.toList :: L) := by
  have h1 := h.call ((Below.refl _ _).alloc (Nat.le_refl _) (.cells cs t))
  refine ⟨h.bank.box cs t hs, h1.q, h.keep, h1.lt, h.base, fun p hp b hb => ?_⟩
  rcases List.mem_cons.1 hp with rfl | hp
  · have e : b = w.heap.size := by simpa [boxAcc, Value.ownBlock] using hb.symm
    have h3 := h.lt.1
    exact ⟨by omega, fun a ea => by have := h.lt.2 a ea; omega⟩
  · exact h.away p hp b hb
/-- a reader that was just made -/
theorem Held.start {w1 : World} (hB : Bank w0 w1 L) (hq : Q w s) (hb : Below w1.heap.size w1 w) (hR : w1.heap.size ≤ R) (hRl : R < w.heap.size) (hBd : ∀ a, Bd = some a → w1.heap.size ≤ a.block ∧ a.block < w.heap.size)
    (keep : ∀ w w' s (row : Option Nat), Q w s → w.grownBy w' row → row ≠ some R → (∀ a, Bd = some a → row ≠ some a.block) → Q w' s) : Held w0 w Q s R Bd L :=
  ⟨hB.call hb, hq, keep, ⟨hRl, fun a e => (hBd a e).2⟩, Nat.le_trans hB.since.size hR, fun p hp b e => by
    have h1 := (hB.lt hp e).2
    exact ⟨by omega, fun a ea => by have := (hBd a ea).1; omega⟩⟩
end
end Go.Proofs.YtdmpphioflcofaaGreat.K

/- The contracts of barbicankit's markEntry, LentEntries. -/
namespace Go.Proofs.YtdmpphioflcofaaGreat.K
open Go Go.RowKit

theorem infoEntry : (Tryz.prog.info? 42).map (fun i => (i.zero, i.size, i.bytes)) = some (some (.agg #[.int .i64 0, .int .u8 0, .int .i64 0, .int .i64 0, .bool false, .slice none 0 0]), 6, 64) := by kernel_rfl
theorem own_fullE {w : World} {base : Nat} {e : TypeId} {g n es : Nat} {xs : List Value} (h : w.ownsRow base e es (.slice (some ⟨g, 0, none⟩) n n) n xs) : base ≤ g ∧ w.heap[g]? = some (.cells xs.toArray e (0, 0)) := by
  rcases h.2 with ⟨h1, _⟩ | ⟨g', cap, cur, hv, hb, hg, _, _, hs, ht⟩
  · simp at h1
  · simp only [Value.slice.injEq, Option.some.injEq, Addr.mk.injEq, and_true, true_and] at hv
    obtain ⟨rfl, rfl⟩ := hv
    refine ⟨hb, ?_⟩
    rw [hg, ← ht, List.take_of_length_le (by simp; omega)]
/-- the mark of a place, an entry's cells -/
def mEnt (k i : Int) : List Value := entL (markI k i) 0 0 0#8 false none 0 0
def zeroEL : List Value := entL 0 0 0 0#8 false none 0 0
theorem entL_oneL (t v s : Int) (K : BitVec 8) (G : Bool) (A : Option Addr) (n c : Nat) : ∀ u ∈ entL t v s K G A n c, u.oneCell' = true := by
  intro u hu
  simp only [entL, List.mem_cons, List.mem_nil_iff, or_false] at hu
  rcases hu with rfl | rfl | rfl | rfl | rfl | rfl <;> rfl
theorem load_ent (t v s : Int) (K : BitVec 8) (G : Bool) (A : Option Addr) (n c : Nat) {w : World} {g : Nat} (h : w.heap[g]? = some (.cells (entL t v s K G A n c).toArray 42 (0, 0))) : (loadVar 42 ⟨g, 0, none⟩).run Tryz.prog w = .ok (.agg (entL t v s K G A n c).toArray) w := by
  have x0 : w.cell? ⟨g, 0, none⟩ = some (.int .i64 t) := block_cell h rfl
  have x1 : w.cell? ⟨g, 1, none⟩ = some (B8 K) := block_cell h rfl
  have x2 : w.cell? ⟨g, 2, none⟩ = some (.int .i64 v) := block_cell h rfl
  have x3 : w.cell? ⟨g, 3, none⟩ = some (.int .i64 s) := block_cell h rfl
  have x4 : w.cell? ⟨g, 4, none⟩ = some (.bool G) := block_cell h rfl
  have x5 : w.cell? ⟨g, 5, none⟩ = some (.slice A n c) := block_cell h rfl
  simp [go_sem, x0, x1, x2, x3, x4, x5, entL]
set_option maxHeartbeats 4000000 in
set_option maxRecDepth 100000 in
theorem markEntry_any (k i : Int) (w : World) : Calls Tryz.prog 105 #[.int .i64 k, .int .i64 i] w fun e w' => e = .returned (.agg #[.int .i64 (markI k i), B8 0#8, .int .i64 0, .int .i64 0, .bool false, .slice none 0 0]) ∧ Since w w' := by
  have BK0 := Lib.hid ((Bank.nil (Below.refl w.heap.size w)).box zeroEL.toArray 42 (by decide))
  go_enter Tryz.func105, Tryz.ntmps105
  go_wp2_with fail
  generalize hw1 : w.alloc (.cells #[.int .i64 0, .int .u8 0, .int .i64 0, .int .i64 0, .bool false, .slice none 0 0] 42) = w1 at *
  have BK1 := Lib.hid (show Bank w w1 [boxAcc w.heap.size 42 zeroEL] from by rw [← hw1]; exact BK0.out)
  clear hw1 BK0
  refine (mark_any k i _).mono ?_
  rintro e w' ⟨rfl, rfl⟩
  have HRES := Lib.hid (BK1.out.boxAt 0 rfl).2
  have HS := Lib.hid (BK1.out.boxRow 0 rfl (mEnt k i) rfl (by decide)).since
  have hinf : (Tryz.prog.info? 42).map (·.size) = some (#[.int .i64 (markI k i), .int .u8 0, .int .i64 0, .int .i64 0, .bool false, .slice none 0 0] : Array Value).size := infoEntL (markI k i) 0 0 0#8 false none 0 0
  have hone : (#[.int .i64 (markI k i), .int .u8 0, .int .i64 0, .int .i64 0, .bool false, .slice none 0 0] : Array Value).all (·.oneCell') = true := entL_one (markI k i) 0 0 0#8 false none 0 0
  go_wp2_with (with_reducible refine wpList_store_row rfl 42 (.tmp 4) (.tmp 8) rfl w.heap.size #[.int .i64 (markI k i), .int .u8 0, .int .i64 0, .int .i64 0, .bool false, .slice none 0 0] rfl rfl 42 _ HRES.out hinf rfl hone ?_)
  refine bodyPost_ret (v := .agg (mEnt k i).toArray) ?_ ?_ ?_
  · exact results_cell_row rfl _ _ w.heap.size 42 _ (0, 0) _ rfl (setRow_heap _ _ _ _ _ _ HRES.out) Tryz.underlying42 rfl (infoEntL _ _ _ _ _ _ _ _)
  · rfl
  · exact ⟨rfl, HS.out⟩
/-- cells of a lent entry: its data lie at block d -/
def lentE (e : M.Ent) (d : Nat) : List Value := entL e.term e.version e.server e.kind e.good (some ⟨d, 0, none⟩) e.data.length (e.data.length + 12)
def lentEs (es : List M.Ent) (d : Nat → Nat) (k : Nat) : List Value := (List.range k).flatMap fun i => lentE (es.getD i M.zeroEnt) (d i)
def markEs (k : Nat) : List Value := (List.range k).flatMap fun (i : Nat) => mEnt 1 i
theorem lentEs_succ (es : List M.Ent) (d : Nat → Nat) (k : Nat) : lentEs es d (k + 1) = lentEs es d k ++ lentE (es.getD k M.zeroEnt) (d k) := by simp [lentEs, List.range_succ]
theorem markEs_succ (k : Nat) : markEs (k + 1) = markEs k ++ mEnt 1 k := by simp [markEs, List.range_succ]
theorem lentE_length (e : M.Ent) (d : Nat) : (lentE e d).length = 6 := rfl
theorem mEnt_length (k i : Int) : (mEnt k i).length = 6 := rfl
theorem lentEs_length (es : List M.Ent) (d : Nat → Nat) : ∀ k, (lentEs es d k).length = k * 6
  | 0 => rfl
  | k + 1 => by rw [lentEs_succ, List.length_append, lentEs_length es d k, lentE_length]; omega
theorem markEs_length : ∀ k, (markEs k).length = k * 6
  | 0 => rfl
  | k + 1 => by rw [markEs_succ, List.length_append, markEs_length k, mEnt_length]; omega
theorem lentEs_congr (es : List M.Ent) (d d' : Nat → Nat) (k : Nat) (h : ∀ j, j < k → d j = d' j) : lentEs es d k = lentEs es d' k := by
  induction k with
  | zero => rfl
  | succ k ih => rw [lentEs_succ, lentEs_succ, ih fun j hj => h j (by omega), h k (by omega)]
theorem cells_lit1 (w : World) (vs : List Value) (t : TypeId) : ∀ j u, vs[j]? = some u → (w.alloc (.cells vs.toArray t)).cell? ((⟨w.heap.size, 0, none⟩ : Addr).add j) = some u := fun j u hu => by
  rw [Addr.add_lit, Nat.zero_add]
  exact block_cell (heap_alloc_new w _) hu
theorem cells_lit2 (w : World) (o : Obj) (vs : List Value) (t : TypeId) : ∀ j u, vs[j]? = some u → ((w.alloc o).alloc (.cells vs.toArray t)).cell? ((⟨w.heap.size + 1, 0, none⟩ : Addr).add j) = some u := fun j u hu => by
  have h := cells_lit1 (w.alloc o) vs t j u hu
  rwa [World.size_alloc] at h
/-- the data of lent entries -/
def LentData (w0 w : World) (es : List M.Ent) (d : Nat → Nat) (k : Nat) : Prop := ∀ j, j < k → w0.heap.size < d j ∧ w.heap[d j]? = some (.cells (bv ((es.getD j M.zeroEnt).data ++ marks 1 0 12)).toArray 5 (0, 0))
theorem LentData.call {w0 w w' : World} {es : List M.Ent} {d : Nat → Nat} {k : Nat} (h : LentData w0 w es d k) (hs : Since w w') : LentData w0 w' es d k := fun j hj => ⟨(h j hj).1, Since.at hs (h j hj).2⟩
theorem LentData.grown {w0 w w' : World} {es : List M.Ent} {d : Nat → Nat} {k : Nat} (h : LentData w0 w es d k) (hg : w.grownBy w' (some w0.heap.size)) : LentData w0 w' es d k := fun j hj =>
  ⟨(h j hj).1, (hg.block _ (Array.getElem?_eq_some_iff.1 (h j hj).2).1 (fun e => by have := (h j hj).1; simp at e; omega)).trans (h j hj).2⟩
/-- an account of entries -/
def entAcc (g k c : Nat) (xs : List Value) : Acc := ⟨.slice (some ⟨g, 0, none⟩) k c, k, 42, 6, xs⟩
/-- lent entries -/
def LentEs (w : World) (n : Nat) (es : List M.Ent) (e : Ending) (w' : World) : Prop := ∃ g d, e = .returned (.slice (some ⟨g, 0, none⟩) n (n + 12)) ∧ w.heap.size ≤ g ∧ w'.heap[g]? = some (.cells (lentEs es d n ++ markEs 12).toArray 42 (0, 0)) ∧ (∀ j, j < n → w.heap.size ≤ d j ∧ w'.heap[d j]? = some (.cells (bv ((es.getD j M.zeroEnt).data ++ marks 1 0 12)).toArray 5 (0, 0))) ∧ Since w w'
set_option maxHeartbeats 8000000 in
set_option maxRecDepth 100000 in
theorem LentEntries_any (A : Option Addr) (n c : Nat) (es : List M.Ent) (w : World) (hl : es.length = n) (hE : EntsRd w A es) (hn : n ≤ 1000000) (hD : ∀ e ∈ es, e.data.length ≤ 140737488000000) :
    Calls Tryz.prog 83 #[.slice A n c] w (LentEs w n es) := by
  obtain ⟨i0, hi, hz0, hz1, hz2⟩ := info_parts infoEntry
  have HE := Lib.hid hE; have HL := Lib.hid hl; have HD := Lib.hid hD
  have BK0 := Lib.hid (Bank.nil (Below.refl w.heap.size w))
  clear hE hl hD
  go_enter Tryz.func83, Tryz.ntmps83
  go_wp2_with (at_make; refine wpList_make_own _ rfl _ _ 26 rfl w.heap.size 42 i0 _ 6 Tryz.underlying26 hi hz0 hz1 _ _ _ (n + 12) rfl rfl (by omega) (by rw [hz2]; omega) (by unfold maxLen; omega) (Nat.le_refl _) ?_; intro w1 hown1 hgrow1)
  have BK1 := Lib.hid (show Bank w w1 [entAcc w.heap.size 0 (n + 12) []] from ⟨(Below.refl _ _).grown hgrow1 (Nat.le_refl _) (by simp), fun p hp => by rw [List.mem_singleton.1 hp]; exact hown1, .cons (fun _ h => by cases h) .nil⟩)
  clear hown1 hgrow1 BK0
  go_loopw [3, 4] (fun v i wr => ∃ (k : Nat) (d : Nat → Nat), k ≤ n ∧ i = .int .i64 (k : Int) ∧ v = .slice (some ⟨w.heap.size, 0, none⟩) k (n + 12) ∧ Bank w wr [entAcc w.heap.size k (n + 12) (lentEs es d k)] ∧ LentData w wr es d k) (fun _ i _ => n - (intOf i).toNat)
  case atStart => exact ⟨0, fun _ => 0, by omega, rfl, rfl, BK1.out, fun _ h => absurd h (Nat.not_lt_zero _)⟩
  case round =>
    clear BK1
    obtain ⟨k, d, hk, rfl, rfl, hB, hLD⟩ := hrel
    have BK := Lib.hid hB; have LD := Lib.hid hLD
    clear hB hLD
    have k0 : (0 : Int) ≤ (k : Int) := by omega
    rcases Nat.lt_or_ge k n with h1 | h1
    · have i1 : (k : Int) < (n : Int) := by omega
      have hkl : k < es.length := by rw [HL.out]; exact h1
      obtain ⟨b, o, rfl, A', m', c2, ⟨y0, y1, y2, y3, y4, y5⟩, hrd⟩ := HE.out.since BK.out.since k hkl
      obtain ⟨x, hx⟩ : ∃ x, x = es[k] := ⟨_, rfl⟩
      rw [← hx] at y0 y1 y2 y3 y4 hrd
      have HXD := Lib.hid (show es.getD k M.zeroEnt = x by rw [hx]; simp [hkl])
      have HML := Lib.hid (show x.data.length = m' from hrd.len)
      have HMB := Lib.hid (show m' ≤ 140737488000000 by rw [← HML.out, hx]; exact HD.out _ (List.getElem_mem _))
      have HRD := Lib.hid hrd
      clear hx hrd
      go_wp2_with fail
      clear y0 y1 y2 y3 y4 y5
      refine (LentEntry_any x.term x.version x.server x.kind x.good A' m' c2 x.data wr HRD.out HMB.out).mono ?_
      rintro e w1 ⟨g, rfl, hg, hb, hs⟩
      have hGw := (BK.out.lt (List.mem_singleton.2 rfl) (p := entAcc w.heap.size k (n + 12) (lentEs es d k)) (b := w.heap.size) rfl).2
      have HG := Lib.hid (show w.heap.size < g by omega)
      have BK3 := Lib.hid (((BK.out.call hs).alloc (.cells #[.int .i64 x.term, B8 x.kind, .int .i64 x.version, .int .i64 x.server, .bool x.good, .slice (some ⟨g, 0, none⟩) m' (m' + 12)] 42)).alloc (.cells #[.int .i64 x.term, B8 x.kind, .int .i64 x.version, .int .i64 x.server, .bool x.good, .slice (some ⟨g, 0, none⟩) m' (m' + 12)] 42))
      have S3 := Lib.hid (tmBx (w := w1) (c := #[.int .i64 x.term, B8 x.kind, .int .i64 x.version, .int .i64 x.server, .bool x.good, .slice (some ⟨g, 0, none⟩) m' (m' + 12)]) (d := #[.int .i64 x.term, B8 x.kind, .int .i64 x.version, .int .i64 x.server, .bool x.good, .slice (some ⟨g, 0, none⟩) m' (m' + 12)]) (t := 42))
      have LD1 := Lib.hid (show LentData w w1 es (upd d k g) (k + 1) from fun j hj => by
        by_cases h : j = k
        · subst h
          rw [upd_same, HXD.out]
          exact ⟨HG.out, hb⟩
        · rw [upd_other _ _ _ h]
          exact (LD.out.call hs) j (by omega))
      have HCG := Lib.hid (lentEs_congr es (upd d k g) d k (fun j hj => upd_other _ _ _ (by omega)))
      clear hg hb hs hGw BK LD HRD
      go_wp2_with (at_builtin; refine wpList_append_fits _ rfl _ _ 26 rfl w.heap.size 42 i0 6 Tryz.underlying26 hi hz1 w.heap.size k (n + 12) (lentEs es d k) rfl (BK3.out.at 0 rfl) ⟨w1.heap.size + 1, 0, none⟩ 1 1 (entL x.term x.version x.server x.kind x.good (some ⟨g, 0, none⟩) m' (m' + 12)) rfl rfl (cells_lit2 w1 _ (entL x.term x.version x.server x.kind x.good (some ⟨g, 0, none⟩) m' (m' + 12)) _) (entL_oneL _ _ _ _ _ _ _ _) (by omega) ?_; intro w4 hown4 hgrow4; have HO4 := Lib.hid hown4; have HG4 := Lib.hid hgrow4; clear hown4 hgrow4)
      go_roundw
      case rel =>
        refine ⟨k + 1, upd d k g, by omega, by go_num, rfl, ?_, (LD1.out.call S3.out).grown HG4.out⟩
        rw [lentEs_succ, HCG.out, upd_same, HXD.out, show lentE x g = entL x.term x.version x.server x.kind x.good (some ⟨g, 0, none⟩) m' (m' + 12) by rw [lentE, HML.out]]
        exact BK3.out.put 0 rfl (p' := entAcc w.heap.size (k + 1) (n + 12) _) HO4.out HG4.out (.inl rfl)
      case measure => simp [intOf]; omega
    · have i1 : ¬ (k : Int) < (n : Int) := by omega
      obtain rfl : k = n := by omega
      go_wp2_with fail
      go_loopw [3, 6] (fun v i wr => ∃ q : Nat, q ≤ 12 ∧ i = .int .i64 (q : Int) ∧ v = .slice (some ⟨w.heap.size, 0, none⟩) (k + q) (k + 12) ∧ Bank w wr [entAcc w.heap.size (k + q) (k + 12) (lentEs es d k ++ markEs q)] ∧ LentData w wr es d k) (fun _ i _ => 12 - (intOf i).toNat)
      case atStart => exact ⟨0, by omega, rfl, rfl, by have h := BK.out; simpa [markEs] using h, LD.out⟩
      case round =>
        clear BK LD
        obtain ⟨q, hq, rfl, rfl, hB, hLD⟩ := hrel
        have BK := Lib.hid hB; have LD := Lib.hid hLD
        clear hB hLD
        have q0 : (0 : Int) ≤ (q : Int) := by omega
        rcases Nat.lt_or_ge q 12 with h2 | h2
        · have i2 : (q : Int) < 12 := by omega
          go_wp2_with fail
          refine (markEntry_any 1 (q : Int) wr).mono ?_
          rintro e w1 ⟨rfl, hs⟩
          have BK3 := Lib.hid ((BK.out.call hs).alloc (.cells (mEnt 1 (q : Int)).toArray 42))
          have LD3 := Lib.hid ((LD.out.call hs).call (Since.alloc (Below.refl _ _) (.cells (mEnt 1 (q : Int)).toArray 42)))
          clear hs BK LD
          go_wp2_with (at_builtin; refine wpList_append_fits _ rfl _ _ 26 rfl w.heap.size 42 i0 6 Tryz.underlying26 hi hz1 w.heap.size (k + q) (k + 12) (lentEs es d k ++ markEs q) rfl (BK3.out.at 0 rfl) ⟨w1.heap.size, 0, none⟩ 1 1 (mEnt 1 (q : Int)) rfl rfl (cells_lit1 w1 (mEnt 1 (q : Int)) _) (entL_oneL _ _ _ _ _ _ _ _) (by omega) ?_; intro w4 hown4 hgrow4; have HO4 := Lib.hid hown4; have HG4 := Lib.hid hgrow4; clear hown4 hgrow4)
          go_roundw
          case rel =>
            refine ⟨q + 1, by omega, by go_num, by rw [Nat.add_assoc], ?_, LD3.out.grown HG4.out⟩
            rw [markEs_succ, ← List.append_assoc, ← Nat.add_assoc]
            exact BK3.out.put 0 rfl (p' := entAcc w.heap.size (k + q + 1) (k + 12) _) HO4.out HG4.out (.inl rfl)
          case measure => simp [intOf]; omega
        · have i2 : ¬ (q : Int) < 12 := by omega
          obtain rfl : q = 12 := by omega
          have hf := own_fullE (BK.out.at 0 rfl)
          have HFIN := Lib.hid (show LentEs w k es (.returned (.slice (some ⟨w.heap.size, 0, none⟩) k (k + 12))) wr from ⟨_, d, rfl, Nat.le_refl _, hf.2, fun j hj => ⟨Nat.le_of_lt (LD.out j hj).1, (LD.out j hj).2⟩, BK.out.since⟩)
          clear hf
          go_wp2
          go_ret
          exact HFIN.out
end Go.Proofs.YtdmpphioflcofaaGreat.K

/- What comes in: bytes, numbers, entries, lists of them, out of the statement's own reading of the arguments. -/
namespace Go.Proofs.YtdmpphioflcofaaGreat.K
open Go Go.RowKit Go.ChangeShapes Go.WideShapes Go.Deep

set_option maxRecDepth 100000
theorem own : ownKnob Tryz.prog.godebug = none := by kernel_rfl
theorem laidOut : laidOutB Tryz.prog = true := by kernel_rfl
noncomputable def laidWorld (os : Os) : World := World.holding Tryz.prog os ⟨#[], #[], []⟩

/-- a byte that came in -/
theorem B8_of_wf {n : Int} (h : (Lit.int .u8 n).wf = true) : ∃ b : BitVec 8, Value.int .u8 n = B8 b := by
  have h' : 0 ≤ n ∧ n < 256 := by
    simp [Lit.wf, IntKind.min, IntKind.max, IntKind.bits, IntKind.signed] at h
    omega
  refine ⟨BitVec.ofInt 8 n, ?_⟩
  simp only [B8, BitVec.toNat_ofInt, Value.int.injEq, true_and]
  omega
/-- a slice of bytes that came in reads as a list -/
theorem Rd.of_ints {w : World} {x : Addr} {zs : List Int} (hcell : ∀ i, i < zs.length → w.cell? (x.add i) = some (.int .u8 (zs.getD i 0))) (hwz : ∀ n ∈ zs, (Lit.int .u8 n).wf = true) (n : Nat) :
    Rd w (some x) ((zs.take n).map (BitVec.ofInt 8)) := by
  intro k hk
  have hk2 : k < zs.length := by simp at hk; omega
  have hc := hcell k hk2
  obtain ⟨b, o, s⟩ := x
  have hs : s = none := by simpa [Addr.add] using World.cell?_spot (hcell 0 (by omega))
  subst hs
  refine ⟨b, o, rfl, ?_⟩
  rw [Addr.add_lit] at hc
  rw [hc]
  obtain ⟨y, hy⟩ := B8_of_wf (hwz zs[k] (List.getElem_mem _))
  have e : zs.getD k 0 = zs[k] := by simp [hk2]
  rw [e, hy]
  simp only [B8, Value.int.injEq, true_and] at hy
  simp only [List.getElem_map, List.getElem_take, hy, BitVec.ofInt_natCast, ofNat_self]
theorem inI64_of_wf {n : Int} (h : (Lit.int .i64 n).wf = true) : M.inI64 n := by
  simp [Lit.wf, IntKind.min, IntKind.max, IntKind.bits, IntKind.signed] at h
  exact ⟨by omega, by omega⟩

theorem cellsByte : Tryz.prog.cellsOf 5 = 1 := by kernel_rfl
theorem cellsInt : Tryz.prog.cellsOf 3 = 1 := by kernel_rfl
theorem cellsBool : Tryz.prog.cellsOf 4 = 1 := by kernel_rfl
theorem cellsBytes : Tryz.prog.cellsOf 22 = 1 := by kernel_rfl
theorem cellsEnt : Tryz.prog.cellsOf 42 = 6 := by kernel_rfl
theorem cellsKind : Tryz.prog.cellsOf 40 = 1 := by kernel_rfl

section
variable {H : Type} {enc : TypeId × Value → H} {W : World} {base b0 : Nat} {sp : Nat → Bool} {held : Bool} {r : Reach}
theorem cs_bytes {fuel : Nat} {v : Value} {x : DataW H × List MemPlace} (h : DataW.trod enc Tryz.prog W base sp held fuel 22 [v] = some x) :
    ∃ A n c bs, v = .slice A n c ∧ RowRd W ⟨A, n, c⟩ bs ∧ n ≤ c ∧ c ≤ 9223372036854775807 := by
  rcases open_ints Tryz.underlying22 Tryz.underlying5 cellsByte h with ⟨hcs, _⟩ | ⟨x, l, c, zs, hcs, _, hl, hm, hz, hx, hcell, hwz⟩
  · obtain rfl : v = .slice none 0 0 := by simpa using hcs
    exact ⟨none, 0, 0, [], rfl, ⟨Rd.of_nil _ _, rfl, fun _ => rfl⟩, by omega, by omega⟩
  · obtain rfl : v = .slice (some x) l c := by simpa using hcs
    unfold maxLen at hm
    refine ⟨some x, l, c, _, rfl, ⟨Rd.of_ints hcell hwz l, ?_, fun h => by cases h⟩, hl, hm⟩
    simp only [List.length_map, List.length_take]
    split at hz <;> omega
theorem cs_int {fuel : Nat} {v : Value} {x : DataW H × List MemPlace} (h : DataW.trod enc Tryz.prog W base sp held fuel 3 [v] = some x) : ∃ n, v = .int .i64 n ∧ M.inI64 n := by
  obtain ⟨n, hcs, _, hw⟩ := DataW.trod_int Tryz.underlying3 h
  obtain rfl : v = .int .i64 n := by simpa using hcs
  exact ⟨n, rfl, inI64_of_wf hw⟩
theorem cs_bool {fuel : Nat} {v : Value} {x : DataW H × List MemPlace} (h : DataW.trod enc Tryz.prog W base sp held fuel 4 [v] = some x) : ∃ b, v = .bool b := by
  obtain ⟨b, hcs, _⟩ := DataW.trod_bool Tryz.underlying4 h
  exact ⟨b, by simpa using hcs⟩
theorem cs_kind {fuel : Nat} {v : Value} {x : DataW H × List MemPlace} (h : DataW.trod enc Tryz.prog W base sp held fuel 40 [v] = some x) : ∃ b, v = B8 b := by
  obtain ⟨n, hcs, _, hw⟩ := DataW.trod_int Tryz.underlying40 h
  obtain rfl : v = .int .u8 n := by simpa using hcs
  exact B8_of_wf hw
/-- bytes that came in -/
theorem open_bytes {v : Value} {d : DataW H} {p : List MemPlace} (hv : Value.okWide Tryz.prog W r b0 22 v) (h : DataW.Trod enc Tryz.prog W base sp held 22 v d p) :
    ∃ A n c bs, v = .slice A n c ∧ RowRd W ⟨A, n, c⟩ bs ∧ n ≤ c ∧ c ≤ 9223372036854775807 := by
  obtain ⟨A, l, c, rfl⟩ := okWide_slice Tryz.underlying22 hv
  obtain ⟨fuel, hf⟩ := h
  exact cs_bytes hf
/-- a number that came in -/
theorem open_num {v : Value} {d : DataW H} {p : List MemPlace} (hv : Value.okWide Tryz.prog W r b0 3 v) (h : DataW.Trod enc Tryz.prog W base sp held 3 v d p) : ∃ n, v = .int .i64 n ∧ M.inI64 n := by
  obtain ⟨n, rfl, _, _, hw⟩ := open_int Tryz.underlying3 hv h
  exact ⟨n, rfl, inI64_of_wf hw⟩
/-- numbers that came in: those that are read -/
def Nums (W : World) (A : Option Addr) (n : Nat) : Prop := ∀ i, i < n → ∃ b o z, A = some ⟨b, o, none⟩ ∧ W.cell? ⟨b, o + i, none⟩ = some (.int .i64 z)
theorem Nums.below {w w' : World} {A : Option Addr} {n : Nat} (h : Nums w A n) (hb : Below w.heap.size w w') : Nums w' A n := fun i hi => by
  obtain ⟨b, o, z, e, hc⟩ := h i hi
  exact ⟨b, o, z, e, (hb.cell (p := ⟨b, o + i, none⟩) (block_lt_of_cell hc)).trans hc⟩
theorem open_nums {v : Value} {d : DataW H} {p : List MemPlace} (hv : Value.okWide Tryz.prog W r b0 38 v) (h : DataW.Trod enc Tryz.prog W base sp held 38 v d p) :
    ∃ A n c, v = .slice A n c ∧ Nums W A n ∧ n ≤ c ∧ c ≤ 9223372036854775807 := by
  obtain ⟨A, l, c, rfl⟩ := okWide_slice Tryz.underlying38 hv
  obtain ⟨fuel, hf⟩ := h
  rcases open_ints Tryz.underlying38 Tryz.underlying3 cellsInt hf with ⟨hcs, _⟩ | ⟨x, l, c, zs, hcs, _, hl, hm, hz, hx, hcell, hwz⟩
  · simp [Value.cells] at hcs
    obtain ⟨rfl, rfl, rfl⟩ := hcs
    exact ⟨none, 0, 0, rfl, fun i hi => absurd hi (Nat.not_lt_zero _), by omega, by omega⟩
  · simp [Value.cells] at hcs
    obtain ⟨rfl, rfl, rfl⟩ := hcs
    unfold maxLen at hm
    have hlz : l ≤ zs.length := by split at hz <;> omega
    refine ⟨_, _, _, rfl, fun i hi => ?_, hl, hm⟩
    obtain ⟨b, o, s⟩ := x
    have hs : s = none := by simpa [Addr.add] using World.cell?_spot (hcell 0 (by omega))
    subst hs
    exact ⟨b, o, _, rfl, by rw [← Addr.add_lit]; exact hcell i (by omega)⟩
/-- six cells that read as an entry -/
theorem cs_entry {fuel : Nat} {cs : List Value} {x : DataW H × List MemPlace} (h : DataW.trod enc Tryz.prog W base sp held fuel 42 cs = some x) :
    ∃ (e : M.Ent) (A : Option Addr) (n c : Nat), cs = [.int .i64 e.term, B8 e.kind, .int .i64 e.version, .int .i64 e.server, .bool e.good, .slice A n c] ∧ M.inI64 e.term ∧ M.inI64 e.version ∧ M.inI64 e.server ∧ RowRd W ⟨A, n, c⟩ e.data ∧ n ≤ c ∧ c ≤ 9223372036854775807 := by
  obtain ⟨xs, n, _, _, hlen, hxl, hf⟩ := DataW.trod_struct Tryz.underlying42 h
  rw [cellsEnt] at hlen
  match cs, hlen with
  | [c0, c1, c2, c3, c4, c5], _ =>
    match xs, hxl with
    | [y0, y1, y2, y3, y4, y5], _ =>
      have f0 : DataW.trod enc Tryz.prog W base sp held n 3 [c0] = some y0 := by simpa [cellsInt] using hf 0 _ rfl
      have f1 : DataW.trod enc Tryz.prog W base sp held n 40 [c1] = some y1 := by simpa [cellsKind] using hf 1 _ rfl
      have f2 : DataW.trod enc Tryz.prog W base sp held n 3 [c2] = some y2 := by simpa [cellsInt] using hf 2 _ rfl
      have f3 : DataW.trod enc Tryz.prog W base sp held n 3 [c3] = some y3 := by simpa [cellsInt] using hf 3 _ rfl
      have f4 : DataW.trod enc Tryz.prog W base sp held n 4 [c4] = some y4 := by simpa [cellsBool] using hf 4 _ rfl
      have f5 : DataW.trod enc Tryz.prog W base sp held n 22 [c5] = some y5 := by simpa [cellsBytes] using hf 5 _ rfl
      obtain ⟨t, rfl, ht⟩ := cs_int f0
      obtain ⟨k, rfl⟩ := cs_kind f1
      obtain ⟨v, rfl, hv⟩ := cs_int f2
      obtain ⟨s, rfl, hs⟩ := cs_int f3
      obtain ⟨g, rfl⟩ := cs_bool f4
      obtain ⟨A, m, c, bs, rfl, hr, h1, h2⟩ := cs_bytes f5
      exact ⟨⟨t, k, v, s, g, bs⟩, A, m, c, rfl, ht, hv, hs, hr, h1, h2⟩
theorem open_entry {v : Value} {d : DataW H} {p : List MemPlace} (hv : Value.okWide Tryz.prog W r b0 42 v) (h : DataW.Trod enc Tryz.prog W base sp held 42 v d p) :
    ∃ (e : M.Ent) (A : Option Addr) (n c : Nat), v = .agg #[.int .i64 e.term, B8 e.kind, .int .i64 e.version, .int .i64 e.server, .bool e.good, .slice A n c] ∧ M.inI64 e.term ∧ M.inI64 e.version ∧ M.inI64 e.server ∧ RowRd W ⟨A, n, c⟩ e.data ∧ n ≤ c ∧ c ≤ 9223372036854775807 := by
  obtain ⟨cs, rfl, hsz⟩ := okWide_struct Tryz.underlying42 hv
  obtain ⟨fuel, hf⟩ := h
  obtain ⟨e, A, n, c, h0, h1⟩ := cs_entry hf
  refine ⟨e, A, n, c, ?_, h1⟩
  have : cs.toList = _ := h0
  rw [← this]
/-- an entry in memory, its first cell at o of block b -/
def EntAt (W : World) (b o : Nat) (e : M.Ent) : Prop := ∃ A n c, (∀ j u, [Value.int .i64 e.term, B8 e.kind, .int .i64 e.version, .int .i64 e.server, .bool e.good, .slice A n c][j]? = some u → W.cell? ⟨b, o + j, none⟩ = some u) ∧ M.inI64 e.term ∧ M.inI64 e.version ∧ M.inI64 e.server ∧ RowRd W ⟨A, n, c⟩ e.data ∧ n ≤ c ∧ c ≤ 9223372036854775807
/-- entries that came in -/
def Ents (W : World) (A : Option Addr) (es : List M.Ent) : Prop := ∀ i, (h : i < es.length) → ∃ b o, A = some ⟨b, o, none⟩ ∧ EntAt W b (o + i * 6) es[i]
theorem EntAt.below {w w' : World} {b o : Nat} {e : M.Ent} (h : EntAt w b o e) (hb : Below w.heap.size w w') : EntAt w' b o e := by
  obtain ⟨A, n, c, hc, h1, h2, h3, h4, h5⟩ := h
  exact ⟨A, n, c, fun j u hu => (hb.cell (p := ⟨b, o + j, none⟩) (block_lt_of_cell (hc j u hu))).trans (hc j u hu), h1, h2, h3, h4.below hb, h5⟩
theorem Ents.below {w w' : World} {A : Option Addr} {es : List M.Ent} (h : Ents w A es) (hb : Below w.heap.size w w') : Ents w' A es := fun i hi => by
  obtain ⟨b, o, e, hc⟩ := h i hi
  exact ⟨b, o, e, hc.below hb⟩
theorem open_entries {v : Value} {d : DataW H} {p : List MemPlace} (hv : Value.okWide Tryz.prog W r b0 26 v) (h : DataW.Trod enc Tryz.prog W base sp held 26 v d p) :
    ∃ A n c es, v = .slice A n c ∧ Ents W A es ∧ es.length = n ∧ (A = none → c = 0) ∧ n ≤ c ∧ c ≤ 9223372036854775807 := by
  obtain ⟨A, l, c, rfl⟩ := okWide_slice Tryz.underlying26 hv
  obtain ⟨fuel, hf⟩ := h
  rcases open_slice Tryz.underlying26 hf with ⟨hcs, _⟩ | ⟨a, len, cap, m, n, D, Pl, hcs, hb, hl, hm, hmm, hx, hi⟩
  · simp [Value.cells] at hcs
    obtain ⟨rfl, rfl, rfl⟩ := hcs
    exact ⟨none, 0, 0, [], rfl, fun i hi => absurd hi (Nat.not_lt_zero _), rfl, fun _ => rfl, by omega, by omega⟩
  · simp [Value.cells] at hcs
    obtain ⟨rfl, rfl, rfl⟩ := hcs
    unfold maxLen at hm
    have hlm : l ≤ m := by split at hmm <;> omega
    rw [cellsEnt] at hi
    have hev : ∀ i : Nat, ∃ e : M.Ent, i < l → ∃ b o, a = ⟨b, o, none⟩ ∧ EntAt W b (o + i * 6) e := by
      intro i
      by_cases hil : i < l
      · obtain ⟨cs', hc, ht⟩ := hi i (by omega)
        obtain ⟨e, A, n2, c2, rfl, hr⟩ := cs_entry ht
        obtain ⟨_, _, hat⟩ := World.cells?_some hc
        obtain ⟨b, o, s⟩ := a
        obtain ⟨cs0, hc0, ht0⟩ := hi 0 (by omega)
        obtain ⟨_, _, _, _, rfl, _⟩ := cs_entry ht0
        obtain ⟨_, _, hat0⟩ := World.cells?_some hc0
        have hs : s = none := by simpa [Addr.add] using World.cell?_spot ((hat0 0 (by omega)).trans rfl)
        subst hs
        refine ⟨e, fun _ => ⟨b, o, rfl, A, n2, c2, fun j u hu => ?_, hr⟩⟩
        have hj : j < 6 := (List.getElem?_eq_some_iff.1 hu).1
        have h1 := hat j hj
        rw [hu, Addr.add_lit, Addr.add_lit] at h1
        exact h1
      · exact ⟨M.zeroEnt, fun h => absurd h hil⟩
    obtain ⟨f, hf⟩ := Classical.axiomOfChoice hev
    refine ⟨_, _, _, (List.range l).map f, rfl, fun i hi2 => ?_, by simp, (fun h => by cases h), hl, hm⟩
    have hil : i < l := by simpa using hi2
    obtain ⟨b, o, rfl, he⟩ := hf i hil
    exact ⟨b, o, rfl, by simpa using he⟩
end
end Go.Proofs.YtdmpphioflcofaaGreat.K

/- The contract of barbicankit.EntriesOf. -/
namespace Go.Proofs.YtdmpphioflcofaaGreat.K
open Go Go.RowKit

def esum (es : List M.Ent) (k : Nat) : Nat := ((es.take k).map fun e => e.data.length / 8).sum
theorem esum_succ (es : List M.Ent) (k : Nat) (h : k < es.length) : esum es (k + 1) = esum es k + es[k].data.length / 8 := by
  unfold esum
  rw [List.take_succ_eq_append_getElem h, List.map_append, List.sum_append]
  simp
theorem esum_le (es : List M.Ent) (k i : Nat) (hk : k ≤ es.length) (hi : i < k) : es[i].data.length / 8 ≤ esum es k := by
  induction k with
  | zero => omega
  | succ k ih =>
    rw [esum_succ es k (by omega)]
    by_cases h : i = k
    · subst h; omega
    · have := ih (by omega) (by omega); omega
/-- so many entries and eighths of bytes; or more than most -/
def EOf (w : World) (most n : Nat) (es : List M.Ent) (e : Ending) (w' : World) : Prop := ∃ r : Nat, e = .returned (.int .i64 (r : Int)) ∧ (r ≤ most → n + esum es n ≤ most) ∧ w = w'
set_option maxHeartbeats 1000000 in
set_option maxRecDepth 100000 in
theorem EntriesOf_any (A : Option Addr) (n c : Nat) (es : List M.Ent) (most : Nat) (w : World) (hE : Ents w A es) (hl : es.length = n) (hn : n ≤ 9223372036854775807) (hmost : most ≤ 100000) :
    Calls Tryz.prog 82 #[.slice A n c, .int .i64 (most : Int)] w (EOf w most n es) := by
  have HE := Lib.hid hE; have HL := Lib.hid hl
  clear hE hl
  go_enter Tryz.func82, Tryz.ntmps82
  go_wp2
  go_loop [5, 6] (fun v i => ∃ k r : Nat, k ≤ n ∧ i = .int .i64 (k : Int) ∧ v = .int .i64 (r : Int) ∧ r = n + esum es k ∧ r ≤ 9223372036854775807) (fun _ i => n - (intOf i).toNat)
  case atStart => exact ⟨0, n, by omega, rfl, rfl, by simp [esum], hn⟩
  case round =>
    obtain ⟨k, r, hk, rfl, rfl, hr, hrm⟩ := hrel
    have HR := Lib.hid hr
    have k0 : (0 : Int) ≤ (k : Int) := by omega
    clear hr
    by_cases hkn : k < n
    · have i1 : (k : Int) < (n : Int) := by omega
      by_cases hrl : r ≤ most
      · have i2 : (r : Int) ≤ (most : Int) := by omega
        obtain ⟨b, o, rfl, A', m, c', hc, _, _, _, hrd, h1, h2⟩ := HE.out k (by rw [HL.out]; exact hkn)
        have c5 := hc 5 _ rfl
        have hkl : k < es.length := by rw [HL.out]; exact hkn
        have hm : es[k].data.length = m := hrd.len
        have HM := Lib.hid hm
        have m0 : (0 : Int) ≤ (m : Int) := by omega
        have q0 : (0 : Int) ≤ (m : Int) / 8 := by omega
        have q1 : (r : Int) + (m : Int) / 8 ≤ 9223372036854775807 := by omega
        have q2 : -9223372036854775808 ≤ (r : Int) + (m : Int) / 8 := by omega
        clear hc hrd hm
        go_wp2
        go_round
        case rel =>
          refine ⟨k + 1, r + m / 8, by omega, by go_num, by rw [show ((r + m / 8 : Nat) : Int) = (r : Int) + (m : Int) / 8 by omega], ?_, by omega⟩
          rw [HR.out, esum_succ es k (by rw [HL.out]; exact hkn), HM.out]; omega
        case measure => simp [intOf]; omega
      · have i2 : ¬ (r : Int) ≤ (most : Int) := by omega
        go_wp2
        go_ret
        exact ⟨r, rfl, fun h => absurd h hrl, rfl⟩
    · have i1 : ¬ (k : Int) < (n : Int) := by omega
      have hkk : k = n := by omega
      have HK := Lib.hid hkk
      clear hkk
      go_wp2
      go_ret
      exact ⟨r, rfl, fun h => by have := HR.out; rw [HK.out] at this; omega, rfl⟩
end Go.Proofs.YtdmpphioflcofaaGreat.K

/- The contracts of barbicankit's KeptEntries, LentLetter, KeptLetter, LetterOf. -/
namespace Go.Proofs.YtdmpphioflcofaaGreat.K
open Go Go.RowKit

theorem flat_len {f : Nat → List Value} {es : Nat} (hf : ∀ i, (f i).length = es) : ∀ n, ((List.range n).flatMap f).length = n * es
  | 0 => by simp
  | n + 1 => by rw [List.range_succ, List.flatMap_append, List.length_append, flat_len hf n, Nat.add_mul]; simp [hf]
theorem flat_at {f : Nat → List Value} {es : Nat} (hf : ∀ i, (f i).length = es) {n i j : Nat} (hi : i < n) (hj : j < es) : ((List.range n).flatMap f)[i * es + j]? = (f i)[j]? := by
  induction n with
  | zero => omega
  | succ n ih =>
    rw [List.range_succ, List.flatMap_append]
    by_cases h : i < n
    · have hm : (i + 1) * es ≤ n * es := Nat.mul_le_mul_right _ h
      have hm2 : (i + 1) * es = i * es + es := by rw [Nat.add_mul, Nat.one_mul]
      rw [List.getElem?_append_left (by rw [flat_len hf]; omega)]
      exact ih h
    · obtain rfl : i = n := by omega
      rw [List.getElem?_append_right (by rw [flat_len hf]; omega), flat_len hf, show i * es + j - i * es = j by omega]
      simp
theorem lent_at {es : List M.Ent} {d : Nat → Nat} {n k j : Nat} {m : List Value} (hk : k < n) (hj : j < 6) : (lentEs es d n ++ m)[k * 6 + j]? = (lentE (es.getD k M.zeroEnt) (d k))[j]? := by
  rw [List.getElem?_append_left (by rw [lentEs_length]; omega)]
  exact flat_at (f := fun i => lentE (es.getD i M.zeroEnt) (d i)) (fun i => lentE_length _ _) hk hj
theorem mark_at {es : List M.Ent} {d : Nat → Nat} {n k q j : Nat} (hq : k < q) (hj : j < 6) : (lentEs es d n ++ markEs q)[(n + k) * 6 + j]? = (mEnt 1 k)[j]? := by
  rw [List.getElem?_append_right (by rw [lentEs_length]; omega), lentEs_length, show (n + k) * 6 + j - n * 6 = k * 6 + j by omega]
  exact flat_at (f := fun i : Nat => mEnt 1 i) (fun i => mEnt_length _ _) hq hj
set_option maxHeartbeats 8000000 in
set_option maxRecDepth 100000 in
theorem KeptEntries_any (g : Nat) (d : Nat → Nat) (A : Option Addr) (n c : Nat) (es : List M.Ent) (w : World) (hg : w.heap[g]? = some (.cells (lentEs es d n ++ markEs 12).toArray 42 (0, 0))) (hd : ∀ j, j < n → w.heap[d j]? = some (.cells (bv ((es.getD j M.zeroEnt).data ++ marks 1 0 12)).toArray 5 (0, 0)))
    (hl : es.length = n) (hE : EntsRd w A es) (hn : n ≤ 1000000) (hD : ∀ e ∈ es, e.data.length ≤ 140737488000000) :
    Calls Tryz.prog 84 #[.slice (some ⟨g, 0, none⟩) n (n + 12), .slice A n c] w (SaidB w true) := by
  have HG := Lib.hid hg; have HDD := Lib.hid hd; have HL := Lib.hid hl; have HE := Lib.hid hE; have HD := Lib.hid hD
  clear hg hd hl hE hD
  go_enter Tryz.func84, Tryz.ntmps84
  go_wp2
  go_loopw [6] (fun i wr => ∃ k : Nat, k ≤ n + 12 ∧ i = .int .i64 (k : Int) ∧ Since w wr) (fun i _ => n + 12 - (intOf i).toNat)
  case atStart => exact ⟨0, by omega, rfl, Below.refl _ _⟩
  case round =>
    obtain ⟨k, hk, rfl, hs⟩ := hrel
    have S1 := Lib.hid hs
    clear hs
    have k0 : (0 : Int) ≤ (k : Int) := by omega
    have hgr := Since.at S1.out HG.out
    rcases Nat.lt_or_ge k (n + 12) with h1 | h1
    · have i1 : (k : Int) < ((n + 12 : Nat) : Int) := by omega
      have i1' : (k : Int) < (n : Int) + 12 := by omega
      rcases Nat.lt_or_ge k n with h2 | h2
      · have i2 : (k : Int) < (n : Int) := by omega
        have d2 : decide ((k : Int) < (n : Int)) = true := by simpa using i2
        have d4 : decide (n ≤ k) = false := by simp; omega
        have d5 : decide ((n : Int) ≤ (k : Int)) = false := by simp; omega
        have d6 : decide (k < n) = true := by simp; omega
        have hkl : k < es.length := by rw [HL.out]; exact h2
        obtain ⟨b, o, rfl, A', m', c2, ⟨y0, y1, y2, y3, y4, y5⟩, hrd⟩ := HE.out.since S1.out k hkl
        obtain ⟨x, hx⟩ : ∃ x, x = es[k] := ⟨_, rfl⟩
        rw [← hx] at y0 y1 y2 y3 y4 hrd
        have hxd : es.getD k M.zeroEnt = x := by rw [hx]; simp [hkl]
        have hml : x.data.length = m' := hrd.len
        have hmb : m' ≤ 140737488000000 := by rw [← hml, hx]; exact HD.out _ (List.getElem_mem _)
        have hla : ∀ j, j < 6 → (lentEs es d n ++ markEs 12)[k * 6 + j]? = (entL x.term x.version x.server x.kind x.good (some ⟨d k, 0, none⟩) m' (m' + 12))[j]? := fun j hj => by
          rw [lent_at h2 hj, hxd, lentE, hml]
        have z0 : wr.cell? ⟨g, k * 6, none⟩ = some (.int .i64 x.term) := block_cell hgr (hla 0 (by omega))
        have z1 : wr.cell? ⟨g, k * 6 + 1, none⟩ = some (B8 x.kind) := block_cell hgr (hla 1 (by omega))
        have z2 : wr.cell? ⟨g, k * 6 + 2, none⟩ = some (.int .i64 x.version) := block_cell hgr (hla 2 (by omega))
        have z3 : wr.cell? ⟨g, k * 6 + 3, none⟩ = some (.int .i64 x.server) := block_cell hgr (hla 3 (by omega))
        have z4 : wr.cell? ⟨g, k * 6 + 4, none⟩ = some (.bool x.good) := block_cell hgr (hla 4 (by omega))
        have z5 : wr.cell? ⟨g, k * 6 + 5, none⟩ = some (.slice (some ⟨d k, 0, none⟩) m' (m' + 12)) := block_cell hgr (hla 5 (by omega))
        have hdk := Since.at S1.out (HDD.out k h2)
        rw [hxd] at hdk
        have HKE := Lib.hid (fun (dq : Nat) (osq : Array Obj) => KeptEntry_any x.term x.version x.server x.kind x.good (d k) A' m' c2 x.data _ (Since.at (below_regrown wr dq osq) hdk) (Since.row (below_regrown wr dq osq) hrd) hmb)
        clear hx hxd hrd hml hmb hla hdk hgr
        go_upto_region 7 with fail
        have ry0 := cell_regrown y0
        have ry1 := cell_regrown y1
        have ry2 := cell_regrown y2
        have ry3 := cell_regrown y3
        have ry4 := cell_regrown y4
        have ry5 := cell_regrown y5
        have rz0 := cell_regrown z0
        have rz1 := cell_regrown z1
        have rz2 := cell_regrown z2
        have rz3 := cell_regrown z3
        have rz4 := cell_regrown z4
        have rz5 := cell_regrown z5
        clear y0 y1 y2 y3 y4 y5 z0 z1 z2 z3 z4 z5
        refine wp_region_quiet_below (by kernel_rfl) (by kernel_rfl) ?_
        repeat (refine @wpQuiet_step _ _ _ _ _ _ _ ?_; intro K hK; go_simp; first | (refine hK _ ?_; clear hK K) | (apply Exists.intro; refine ⟨fun _ => ?_, hK _ ?_⟩; (with_reducible exact Calls.regrown_of (HKE.out _ _)); clear hK K))
        refine wpQuiet_nil ?_
        intro _ hw'
        obtain ⟨⟨dq, osq⟩, hw''⟩ := hw'
        subst hw''
        have S2 := Lib.hid (S1.out.add (below_regrown wr dq osq))
        clear ry0 ry1 ry2 ry3 ry4 ry5 rz0 rz1 rz2 rz3 rz4 rz5 S1
        go_wp2_with fail
        go_roundw
        case rel => exact ⟨k + 1, by omega, by go_num, S2.out⟩
        case measure => simp [intOf]; omega
      · have i2 : ¬ (k : Int) < (n : Int) := by omega
        have d2 : decide ((k : Int) < (n : Int)) = false := by simpa using i2
        have i3 : (n : Int) ≤ (k : Int) := by omega
        have d3 : decide ((n : Int) ≤ (k : Int)) = true := by simpa using i3
        have d4 : decide (n ≤ k) = true := by simp; omega
        have d6 : decide (k < n) = false := by simp; omega
        obtain ⟨q, hq⟩ : ∃ q, k = n + q := ⟨k - n, by omega⟩
        have hla : ∀ j, j < 6 → (lentEs es d n ++ markEs 12)[k * 6 + j]? = (mEnt 1 q)[j]? := fun j hj => by rw [hq]; exact mark_at (by omega) hj
        have z0 : wr.cell? ⟨g, k * 6, none⟩ = some (.int .i64 (markI 1 q)) := block_cell hgr (hla 0 (by omega))
        have z1 : wr.cell? ⟨g, k * 6 + 1, none⟩ = some (B8 0#8) := block_cell hgr (hla 1 (by omega))
        have z2 : wr.cell? ⟨g, k * 6 + 2, none⟩ = some (.int .i64 0) := block_cell hgr (hla 2 (by omega))
        have z3 : wr.cell? ⟨g, k * 6 + 3, none⟩ = some (.int .i64 0) := block_cell hgr (hla 3 (by omega))
        have z4 : wr.cell? ⟨g, k * 6 + 4, none⟩ = some (.bool false) := block_cell hgr (hla 4 (by omega))
        have z5 : wr.cell? ⟨g, k * 6 + 5, none⟩ = some (.slice none 0 0) := block_cell hgr (hla 5 (by omega))
        have hsub : IntKind.i64.wrap ((k : Int) - (n : Int)) = (q : Int) := by rw [show ((k : Int) - (n : Int)) = (q : Int) by omega]; exact IntWalk.i64_in _ (by omega)
        clear hla hgr hq
        go_upto_region 7 with fail
        have rz0 := cell_regrown z0
        have rz1 := cell_regrown z1
        have rz2 := cell_regrown z2
        have rz3 := cell_regrown z3
        have rz4 := cell_regrown z4
        have rz5 := cell_regrown z5
        clear z0 z1 z2 z3 z4 z5
        have HSM := Lib.hid (fun (w : World) => SameEntry_eq (markI 1 q) 0 0 0#8 false none none 0 0 0 0 [] w ⟨Rd.of_nil _ _, rfl, fun _ => rfl⟩ ⟨Rd.of_nil _ _, rfl, fun _ => rfl⟩ (by omega))
        refine wp_region_quiet_below (by kernel_rfl) (by kernel_rfl) ?_
        repeat (refine @wpQuiet_step _ _ _ _ _ _ _ ?_; intro K hK; go_simp; first | (refine hK _ ?_; clear hK K) | (apply Exists.intro; refine ⟨fun _ => ?_, hK _ ?_⟩; (first | (with_reducible exact Calls.regrown_of (markEntry_any _ _ _)) | (with_reducible exact Calls.regrown_of (HSM.out _))); clear hK K))
        refine wpQuiet_nil ?_
        intro _ hw'
        obtain ⟨⟨dq, osq⟩, hw''⟩ := hw'
        subst hw''
        have S2 := Lib.hid (S1.out.add (below_regrown wr dq osq))
        clear rz0 rz1 rz2 rz3 rz4 rz5 S1
        go_wp2_with fail
        go_roundw
        case rel => exact ⟨k + 1, by omega, by go_num, S2.out⟩
        case measure => simp [intOf]; omega
    · have i1 : ¬ (k : Int) < ((n + 12 : Nat) : Int) := by omega
      have i1' : ¬ (k : Int) < (n : Int) + 12 := by omega
      have HFIN := Lib.hid (show SaidB w true (.returned (.bool true)) wr from ⟨rfl, S1.out⟩)
      clear hgr
      go_wp2
      go_ret
      exact HFIN.out
/-- cells of a letter -/
def letL (l : M.Let) (A : Option Addr) (n c : Nat) : List Value := [B8 l.kind, .int .i64 l.src, .int .i64 l.dst, .int .i64 l.term, .int .i64 l.index, .int .i64 l.was, .bool l.ok, .int .i64 l.commit, .int .i64 l.version, .slice A n c]
theorem infoLetL (l : M.Let) (A : Option Addr) (n c : Nat) : (Tryz.prog.info? 28).map (·.size) = some (letL l A n c).toArray.size := by
  rw [show (letL l A n c).toArray.size = 10 from rfl]; kernel_rfl
theorem letL_one (l : M.Let) (A : Option Addr) (n c : Nat) : (letL l A n c).toArray.all (·.oneCell') = true := by
  rw [Array.all_eq_true_iff_forall_mem]
  intro x hx
  simp only [letL, List.mem_toArray, List.mem_cons, List.mem_nil_iff, or_false] at hx
  rcases hx with rfl | rfl | rfl | rfl | rfl | rfl | rfl | rfl | rfl | rfl <;> rfl
/-- lent data -/
def LentD (w0 w : World) (n : Nat) (es : List M.Ent) (g : Nat) (d : Nat → Nat) : Prop := w0.heap.size ≤ g ∧ w.heap[g]? = some (.cells (lentEs es d n ++ markEs 12).toArray 42 (0, 0)) ∧ ∀ j, j < n → w0.heap.size ≤ d j ∧ w.heap[d j]? = some (.cells (bv ((es.getD j M.zeroEnt).data ++ marks 1 0 12)).toArray 5 (0, 0))
theorem LentD.since {w0 w w' : World} {n : Nat} {es : List M.Ent} {g : Nat} {d : Nat → Nat} (h : LentD w0 w n es g d) (hs : Since w w') : LentD w0 w' n es g d := ⟨h.1, Since.at hs h.2.1, fun j hj => ⟨(h.2.2 j hj).1, Since.at hs (h.2.2 j hj).2⟩⟩
theorem LentD.low {w0 w1 w : World} {n : Nat} {es : List M.Ent} {g : Nat} {d : Nat → Nat} (h : LentD w1 w n es g d) (hs : w0.heap.size ≤ w1.heap.size) : LentD w0 w n es g d := ⟨Nat.le_trans hs h.1, h.2.1, fun j hj => ⟨Nat.le_trans hs (h.2.2 j hj).1, (h.2.2 j hj).2⟩⟩
/-- lent entries read as entries -/
theorem LentD.rd {w0 w : World} {n : Nat} {es : List M.Ent} {g : Nat} {d : Nat → Nat} (h : LentD w0 w n es g d) (hl : es.length = n) : EntsRd w (some ⟨g, 0, none⟩) es := fun i hi => by
  have hin : i < n := by omega
  have hx : es.getD i M.zeroEnt = es[i] := by simp [hi]
  have hla : ∀ j, j < 6 → (lentEs es d n ++ markEs 12)[i * 6 + j]? = (lentE es[i] (d i))[j]? := fun j hj => by rw [lent_at hin hj, hx]
  refine ⟨g, 0, rfl, some ⟨d i, 0, none⟩, es[i].data.length, es[i].data.length + 12, ?_, ?_⟩
  · rw [Nat.zero_add]
    exact ⟨block_cell h.2.1 (hla 0 (by omega)), block_cell h.2.1 (hla 1 (by omega)), block_cell h.2.1 (hla 2 (by omega)), block_cell h.2.1 (hla 3 (by omega)), block_cell h.2.1 (hla 4 (by omega)), block_cell h.2.1 (hla 5 (by omega))⟩
  · have h2 := (h.2.2 i hin).2
    rw [hx] at h2
    exact lent_row h2 rfl
/-- a lent letter -/
def LentL (w : World) (l : M.Let) (n : Nat) (e : Ending) (w' : World) : Prop := ∃ g d, e = .returned (.agg #[B8 l.kind, .int .i64 l.src, .int .i64 l.dst, .int .i64 l.term, .int .i64 l.index, .int .i64 l.was, .bool l.ok, .int .i64 l.commit, .int .i64 l.version, .slice (some ⟨g, 0, none⟩) n (n + 12)]) ∧ LentD w w' n l.ents g d ∧ Since w w'
set_option maxHeartbeats 8000000 in
set_option maxRecDepth 100000 in
theorem LentLetter_any (l : M.Let) (A : Option Addr) (n c : Nat) (w : World) (hl : l.ents.length = n) (hE : EntsRd w A l.ents) (hn : n ≤ 1000000) (hD : ∀ e ∈ l.ents, e.data.length ≤ 140737488000000) :
    Calls Tryz.prog 42 #[.agg #[B8 l.kind, .int .i64 l.src, .int .i64 l.dst, .int .i64 l.term, .int .i64 l.index, .int .i64 l.was, .bool l.ok, .int .i64 l.commit, .int .i64 l.version, .slice A n c]] w (LentL w l n) := by
  have HE := Lib.hid hE; have HL := Lib.hid hl; have HD := Lib.hid hD
  have BK0 := Lib.hid (((Bank.nil (Below.refl w.heap.size w)).box #[B8 l.kind, .int .i64 l.src, .int .i64 l.dst, .int .i64 l.term, .int .i64 l.index, .int .i64 l.was, .bool l.ok, .int .i64 l.commit, .int .i64 l.version, .slice A n c] 28 (by simp)).box #[.int .u8 0, .int .i64 0, .int .i64 0, .int .i64 0, .int .i64 0, .int .i64 0, .bool false, .int .i64 0, .int .i64 0, .slice none 0 0] 28 (by simp))
  rw [World.size_alloc] at BK0
  clear hE hl hD
  go_enter Tryz.func42, Tryz.ntmps42
  go_wp2_with fail
  generalize (w.alloc (.cells #[B8 l.kind, .int .i64 l.src, .int .i64 l.dst, .int .i64 l.term, .int .i64 l.index, .int .i64 l.was, .bool l.ok, .int .i64 l.commit, .int .i64 l.version, .slice A n c] 28)).alloc (.cells #[.int .u8 0, .int .i64 0, .int .i64 0, .int .i64 0, .int .i64 0, .int .i64 0, .bool false, .int .i64 0, .int .i64 0, .slice none 0 0] 28) = w1 at *
  refine (LentEntries_any A n c l.ents w1 HL.out (HE.out.since BK0.out.since) hn HD.out).mono ?_
  rintro e w2 ⟨g, d, rfl, hg, hb, hd, hs⟩
  have BK2 := Lib.hid (BK0.out.call hs)
  have c9 := BK2.out.cell 1 rfl 9 rfl
  have f9 := BK2.out.free 1 rfl 9
  have hlt1 := BK2.out.boxAt 1 rfl
  have hlt0 := BK2.out.boxAt 0 rfl
  have BK3 := Lib.hid (BK2.out.boxSet 1 rfl 9 (.slice (some ⟨g, 0, none⟩) n (n + 12)))
  have hsz := BK0.out.since.size
  have hw1 : w.heap.size + 2 ≤ w1.heap.size := by
    have h := (BK0.out.lt (p := boxAcc (w.heap.size + 1) 28 (#[.int .u8 0, .int .i64 0, .int .i64 0, .int .i64 0, .int .i64 0, .int .i64 0, .bool false, .int .i64 0, .int .i64 0, .slice none 0 0] : Array Value).toList) (b := w.heap.size + 1) (List.mem_cons_self ..) rfl).2
    omega
  have LD2 : LentD w1 w2 n l.ents g d := ⟨hg, hb, hd⟩
  have kb : ∀ (w0 w' : World) (X : Nat), X < w1.heap.size → w0.grownBy w' (some X) → LentD w1 w0 n l.ents g d → LentD w1 w' n l.ents g d := fun w0 w' X hX hgr h =>
    ⟨h.1, (hgr.block _ (Array.getElem?_eq_some_iff.1 h.2.1).1 (fun e => by have := h.1; simp at e; omega)).trans h.2.1, fun j hj => ⟨(h.2.2 j hj).1, (hgr.block _ (Array.getElem?_eq_some_iff.1 (h.2.2 j hj).2).1 (fun e => by have := (h.2.2 j hj).1; simp at e; omega)).trans (h.2.2 j hj).2⟩⟩
  have LD3 := kb _ _ w.heap.size (by omega) (grownBy_setCell w2 w.heap.size 9 (.slice (some ⟨g, 0, none⟩) n (n + 12))) LD2
  have x0 := BK3.out.cell 1 rfl 0 rfl
  have x1 := BK3.out.cell 1 rfl 1 rfl
  have x2 := BK3.out.cell 1 rfl 2 rfl
  have x3 := BK3.out.cell 1 rfl 3 rfl
  have x4 := BK3.out.cell 1 rfl 4 rfl
  have x5 := BK3.out.cell 1 rfl 5 rfl
  have x6 := BK3.out.cell 1 rfl 6 rfl
  have x7 := BK3.out.cell 1 rfl 7 rfl
  have x8 := BK3.out.cell 1 rfl 8 rfl
  have x9 := BK3.out.cell 1 rfl 9 rfl
  have HRES := Lib.hid (BK3.out.boxAt 0 rfl).2
  have BK4 := BK3.out.boxRow 0 rfl (letL l (some ⟨g, 0, none⟩) n (n + 12)) rfl (by decide)
  have LD4 := kb _ _ (w.heap.size + 1) (by omega) (show (w2.setCell ⟨w.heap.size, 9, none⟩ (.slice (some ⟨g, 0, none⟩) n (n + 12))).grownBy ((w2.setCell ⟨w.heap.size, 9, none⟩ (.slice (some ⟨g, 0, none⟩) n (n + 12))).setRow (w.heap.size + 1) (letL l (some ⟨g, 0, none⟩) n (n + 12)).toArray) (some (w.heap.size + 1)) from ⟨rfl, rfl, rfl, by simp [World.setRow], fun k hk hne => setRow_other _ _ k _ (fun e => hne (by rw [e]))⟩) LD3
  have HFIN := Lib.hid (show LentL w l n (.returned (.agg (letL l (some ⟨g, 0, none⟩) n (n + 12)).toArray)) ((w2.setCell ⟨w.heap.size, 9, none⟩ (.slice (some ⟨g, 0, none⟩) n (n + 12))).setRow (w.heap.size + 1) (letL l (some ⟨g, 0, none⟩) n (n + 12)).toArray) from ⟨g, d, rfl, LD4.low hsz, BK4.since⟩)
  clear hg hb hd hs hlt0 hlt1 hsz hw1 LD2 kb LD3 BK4 LD4 BK2 BK0
  go_wp2_with (with_reducible refine wpList_store_row rfl 28 (.tmp 2) (.tmp 7) rfl (w.heap.size + 1) (letL l (some ⟨g, 0, none⟩) n (n + 12)).toArray rfl rfl 28 _ HRES.out (infoLetL _ _ _ _) rfl (letL_one _ _ _ _) ?_)
  refine bodyPost_ret (v := .agg (letL l (some ⟨g, 0, none⟩) n (n + 12)).toArray) ?_ ?_ ?_
  · exact results_cell_row rfl _ _ (w.heap.size + 1) 28 _ (0, 0) _ rfl (setRow_heap _ _ _ _ _ _ HRES.out) Tryz.underlying28 rfl (infoLetL _ _ _ _)
  · rfl
  · exact HFIN.out
end Go.Proofs.YtdmpphioflcofaaGreat.K

/- The contracts of barbicankit's KeptLetter, LetterOf. -/
namespace Go.Proofs.YtdmpphioflcofaaGreat.K
open Go Go.RowKit

/-- rows that a call made, over what stood there -/
theorem bank_under' {w0 w w' : World} {L L' : List Acc} (h : Bank w0 w L) (h' : Bank w w' L') : Bank w0 w' (L' ++ L) := by
  have h1 := h.call h'.since
  refine ⟨h1.since, fun p hp => ?_, List.pairwise_append.2 ⟨h'.sep, h1.sep, fun p hp q hq b hb1 hb2 => ?_⟩⟩
  · rcases List.mem_append.1 hp with hp | hp
    · exact row_base (h'.own p hp) h.since.size
    · exact h1.own p hp
  · have h2 := (h'.lt hp hb1).1
    have h3 := (h.lt hq hb2).2
    omega
theorem same_true (l : M.Let) : (l.term == l.term && l.index == l.index && l.was == l.was && (l.ok == l.ok) && l.commit == l.commit && l.version == l.version && true) = true := by simp
/-- two letters that read the same -/
theorem SameLetter_eq (l : M.Let) (A : Option Addr) (n c : Nat) (B : Option Addr) (d : Nat) (w : World) (hl : l.ents.length = n) (hA : EntsRd w A l.ents) (hB : EntsRd w B l.ents) (hn : n ≤ 9223372036854775807) (hD : ∀ e ∈ l.ents, e.data.length ≤ 4611686018427387904) :
    Calls Tryz.prog 9 #[.agg #[B8 l.kind, .int .i64 l.src, .int .i64 l.dst, .int .i64 l.term, .int .i64 l.index, .int .i64 l.was, .bool l.ok, .int .i64 l.commit, .int .i64 l.version, .slice A n c], .agg #[B8 l.kind, .int .i64 l.src, .int .i64 l.dst, .int .i64 l.term, .int .i64 l.index, .int .i64 l.was, .bool l.ok, .int .i64 l.commit, .int .i64 l.version, .slice B n d]] w (SaidB w true) := by
  have h := SameLetter_any l.kind l.src l.dst l.term l.term l.index l.index l.was l.was l.ok l.ok l.commit l.commit l.version l.version A n c B n d true w (fun w' hw => SameEntries_eq A n c B d l.ents w' hl (hA.since hw) (hB.since hw) hn hD)
  rw [same_true] at h
  exact h
set_option maxHeartbeats 8000000 in
set_option maxRecDepth 100000 in
theorem KeptLetter_any (l : M.Let) (g : Nat) (d : Nat → Nat) (A : Option Addr) (n c : Nat) (w0 w : World) (hg : LentD w0 w n l.ents g d) (hl : l.ents.length = n) (hE : EntsRd w A l.ents) (hn : n ≤ 1000000) (hD : ∀ e ∈ l.ents, e.data.length ≤ 140737488000000) :
    Calls Tryz.prog 43 #[.agg #[B8 l.kind, .int .i64 l.src, .int .i64 l.dst, .int .i64 l.term, .int .i64 l.index, .int .i64 l.was, .bool l.ok, .int .i64 l.commit, .int .i64 l.version, .slice (some ⟨g, 0, none⟩) n (n + 12)], .agg #[B8 l.kind, .int .i64 l.src, .int .i64 l.dst, .int .i64 l.term, .int .i64 l.index, .int .i64 l.was, .bool l.ok, .int .i64 l.commit, .int .i64 l.version, .slice A n c]] w (SaidB w true) := by
  have BK0 := Lib.hid (((Bank.nil (Below.refl w.heap.size w)).box #[B8 l.kind, .int .i64 l.src, .int .i64 l.dst, .int .i64 l.term, .int .i64 l.index, .int .i64 l.was, .bool l.ok, .int .i64 l.commit, .int .i64 l.version, .slice (some ⟨g, 0, none⟩) n (n + 12)] 28 (by simp)).box #[B8 l.kind, .int .i64 l.src, .int .i64 l.dst, .int .i64 l.term, .int .i64 l.index, .int .i64 l.was, .bool l.ok, .int .i64 l.commit, .int .i64 l.version, .slice A n c] 28 (by simp))
  rw [World.size_alloc] at BK0
  have HG := Lib.hid hg; have HL := Lib.hid hl; have HE := Lib.hid hE; have HD := Lib.hid hD
  clear hg hl hE hD
  go_enter Tryz.func43, Tryz.ntmps43
  go_wp2_with fail
  generalize (w.alloc (.cells #[B8 l.kind, .int .i64 l.src, .int .i64 l.dst, .int .i64 l.term, .int .i64 l.index, .int .i64 l.was, .bool l.ok, .int .i64 l.commit, .int .i64 l.version, .slice (some ⟨g, 0, none⟩) n (n + 12)] 28)).alloc (.cells #[B8 l.kind, .int .i64 l.src, .int .i64 l.dst, .int .i64 l.term, .int .i64 l.index, .int .i64 l.was, .bool l.ok, .int .i64 l.commit, .int .i64 l.version, .slice A n c] 28) = w1 at *
  refine (SameLetter_eq l (some ⟨g, 0, none⟩) n (n + 12) A c w1 HL.out ((HG.out.since BK0.out.since).rd HL.out) (HE.out.since BK0.out.since) (by omega) (fun e he => Nat.le_trans (HD.out e he) (by omega))).mono ?_
  rintro e w2 ⟨rfl, hs⟩
  have BK2 := Lib.hid (BK0.out.call hs)
  have x9 := BK2.out.cell 1 rfl 9 rfl
  have z9 := BK2.out.cell 0 rfl 9 rfl
  clear hs BK0
  go_wp2_with fail
  clear x9 z9
  refine (KeptEntries_any g d A n c l.ents w2 (HG.out.since BK2.out.since).2.1 (fun j hj => ((HG.out.since BK2.out.since).2.2 j hj).2) HL.out (HE.out.since BK2.out.since) hn HD.out).mono ?_
  rintro e w3 ⟨rfl, hs⟩
  have HFIN := Lib.hid (show SaidB w true (.returned (.bool true)) w3 from ⟨rfl, (BK2.out.call hs).since⟩)
  clear hs
  go_wp2
  go_ret
  exact HFIN.out
/-- so many entries and eighths of bytes; or more than most -/
def EOf2 (w : World) (most n : Nat) (es : List M.Ent) (e : Ending) (w' : World) : Prop := ∃ r : Nat, e = .returned (.int .i64 (r : Int)) ∧ r ≤ 2000000000000000000 ∧ (r ≤ most → n + esum es n ≤ most) ∧ w = w'
set_option maxHeartbeats 1000000 in
set_option maxRecDepth 100000 in
theorem EntriesOf2_any (A : Option Addr) (n c : Nat) (es : List M.Ent) (most : Nat) (w : World) (hE : EntsRd w A es) (hl : es.length = n) (hn : n ≤ 1000000000000000) (hD : ∀ e ∈ es, e.data.length ≤ 9223372036854775807) (hmost : most ≤ 100000) :
    Calls Tryz.prog 82 #[.slice A n c, .int .i64 (most : Int)] w (EOf2 w most n es) := by
  have HE := Lib.hid hE; have HL := Lib.hid hl; have HD := Lib.hid hD
  clear hE hl hD
  go_enter Tryz.func82, Tryz.ntmps82
  go_wp2
  go_loop [5, 6] (fun v i => ∃ k r : Nat, k ≤ n ∧ i = .int .i64 (k : Int) ∧ v = .int .i64 (r : Int) ∧ r = n + esum es k ∧ r ≤ 2000000000000000000) (fun _ i => n - (intOf i).toNat)
  case atStart => exact ⟨0, n, by omega, rfl, rfl, by simp [esum], by omega⟩
  case round =>
    obtain ⟨k, r, hk, rfl, rfl, hr, hrm⟩ := hrel
    have HR := Lib.hid hr
    have k0 : (0 : Int) ≤ (k : Int) := by omega
    clear hr
    by_cases hkn : k < n
    · have i1 : (k : Int) < (n : Int) := by omega
      by_cases hrl : r ≤ most
      · have i2 : (r : Int) ≤ (most : Int) := by omega
        have hkl : k < es.length := by rw [HL.out]; exact hkn
        obtain ⟨b, o, rfl, A', m, c', ⟨y0, y1, y2, y3, y4, c5⟩, hrd⟩ := HE.out k hkl
        have hm : es[k].data.length = m := hrd.len
        have hmb : m ≤ 9223372036854775807 := by rw [← hm]; exact HD.out _ (List.getElem_mem _)
        have HM := Lib.hid hm
        have m0 : (0 : Int) ≤ (m : Int) := by omega
        have q0 : (0 : Int) ≤ (m : Int) / 8 := by omega
        have q1 : (r : Int) + (m : Int) / 8 ≤ 9223372036854775807 := by omega
        have q2 : -9223372036854775808 ≤ (r : Int) + (m : Int) / 8 := by omega
        clear y0 y1 y2 y3 y4 hrd hm
        go_wp2
        go_round
        case rel =>
          refine ⟨k + 1, r + m / 8, by omega, by go_num, by rw [show ((r + m / 8 : Nat) : Int) = (r : Int) + (m : Int) / 8 by omega], ?_, by omega⟩
          rw [HR.out, esum_succ es k (by rw [HL.out]; exact hkn), HM.out]; omega
        case measure => simp [intOf]; omega
      · have i2 : ¬ (r : Int) ≤ (most : Int) := by omega
        go_wp2
        go_ret
        exact ⟨r, rfl, hrm, fun h => absurd h hrl, rfl⟩
    · have i1 : ¬ (k : Int) < (n : Int) := by omega
      have hkk : k = n := by omega
      have HK := Lib.hid hkk
      clear hkk
      go_wp2
      go_ret
      exact ⟨r, rfl, hrm, fun h => by have := HR.out; rw [HK.out] at this; omega, rfl⟩
/-- whether a letter is gone through -/
def LOf (w : World) (n : Nat) (es : List M.Ent) (e : Ending) (w' : World) : Prop := ∃ r : Nat, e = .returned (.int .i64 ((r : Int) + 1)) ∧ r ≤ 2000000000000000000 ∧ (r ≤ 1000 → n + esum es n ≤ 1000) ∧ Since w w'
theorem LetterOf_any (l : M.Let) (A : Option Addr) (n c : Nat) (w : World) (hE : EntsRd w A l.ents) (hl : l.ents.length = n) (hn : n ≤ 1000000000000000) (hD : ∀ e ∈ l.ents, e.data.length ≤ 9223372036854775807) :
    Calls Tryz.prog 41 #[.agg #[B8 l.kind, .int .i64 l.src, .int .i64 l.dst, .int .i64 l.term, .int .i64 l.index, .int .i64 l.was, .bool l.ok, .int .i64 l.commit, .int .i64 l.version, .slice A n c], .int .i64 1000] w (LOf w n l.ents) := by
  have HE := Lib.hid hE; have HL := Lib.hid hl; have HD := Lib.hid hD
  have S0 := Lib.hid (Since.alloc (Below.refl w.heap.size w) (.cells #[B8 l.kind, .int .i64 l.src, .int .i64 l.dst, .int .i64 l.term, .int .i64 l.index, .int .i64 l.was, .bool l.ok, .int .i64 l.commit, .int .i64 l.version, .slice A n c] 28))
  clear hE hl hD
  go_enter Tryz.func41, Tryz.ntmps41
  go_wp2_with fail
  refine (EntriesOf2_any A n c l.ents 1000 _ (HE.out.since S0.out) HL.out hn HD.out (by omega)).mono ?_
  rintro e w2 ⟨r, rfl, hr, hle, rfl⟩
  have HFIN := Lib.hid (show LOf w n l.ents (.returned (.int .i64 ((r : Int) + 1))) _ from ⟨r, rfl, hr, hle, S0.out⟩)
  have r0 : (0 : Int) ≤ (r : Int) := by omega
  have e1 : (1 : Int) + (r : Int) = (r : Int) + 1 := by omega
  have e2 : IntKind.i64.wrap ((r : Int) + 1) = (r : Int) + 1 := IntWalk.i64_in _ (by omega)
  clear hle
  go_wp2
  go_ret
  exact HFIN.out
end Go.Proofs.YtdmpphioflcofaaGreat.K
