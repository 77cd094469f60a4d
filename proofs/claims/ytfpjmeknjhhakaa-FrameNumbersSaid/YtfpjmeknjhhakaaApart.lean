/- The contract of barbicankit's apart at a bag that holds rows of bytes alone. -/
import Derived.Test.YtfpjmeknjhhakaaFlatNil
import Derived.Test.YtfpjmeknjhhakaaFlatBytes
namespace Go.Proofs.Ytfpjmeknjhhakaa.K
open Go Go.RowKit

def nilS : Value := .slice none 0 0
def bagCells (v : Value) : List Value := [.slice none 0 0, .slice none 0 0, .slice none 0 0, .slice none 0 0, .slice none 0 0, v, .slice none 0 0, .slice none 0 0, .slice none 0 0, .slice none 0 0, .slice none 0 0, .slice none 0 0, .slice none 0 0, .slice none 0 0, .slice none 0 0, .slice none 0 0, .slice none 0 0, .slice none 0 0, .slice none 0 0, .slice none 0 0, .slice none 0 0]
theorem bag_at (v : Value) (j : Nat) (hj : j < 21) (h5 : j ≠ 5) : (bagCells v)[j]? = some (.slice none 0 0) := by
  rcases j with _ | _ | _ | _ | _ | _ | _ | _ | _ | _ | _ | _ | _ | _ | _ | _ | _ | _ | _ | _ | _ | j
  all_goals first | rfl | (exact absurd rfl h5) | omega
theorem bag_five (v : Value) : (bagCells v)[5]? = some v := rfl
/-- the block g holds a bag whose lists of bytes are v -/
def IsBag (w : World) (g : Nat) (v : Value) : Prop := ∃ t, w.heap[g]? = some (.cells (bagCells v).toArray t (0, 0))
theorem IsBag.nil {w : World} {g : Nat} {v : Value} (h : IsBag w g v) (j : Nat) (hj : j < 21) (h5 : j ≠ 5) : w.cell? ⟨g, j, none⟩ = some (.slice none 0 0) := by
  obtain ⟨t, h⟩ := h
  exact block_cell h (bag_at v j hj h5)
theorem IsBag.five {w : World} {g : Nat} {v : Value} (h : IsBag w g v) : w.cell? ⟨g, 5, none⟩ = some v := by
  obtain ⟨t, h⟩ := h
  exact block_cell h (bag_five v)
theorem IsBag.lt {w : World} {g : Nat} {v : Value} (h : IsBag w g v) : g < w.heap.size := by
  obtain ⟨t, h⟩ := h
  exact (Array.getElem?_eq_some_iff.1 h).1
theorem IsBag.below {w w' : World} {g : Nat} {v : Value} (h : IsBag w g v) (hb : Below w.heap.size w w') : IsBag w' g v := by
  have hl := h.lt
  obtain ⟨t, h⟩ := h
  exact ⟨t, (hb.block g hl).trans h⟩

set_option maxHeartbeats 4000000 in
set_option maxRecDepth 100000 in
theorem apart_any (g : Nat) (v : Value) (base : Nat) (w : World) (hg : IsBag w g v) (hbase : base ≤ w.heap.size) (hf : ∀ w1, Below w.heap.size w w1 → Calls Try.prog 87 #[v] w1 fun e w' => e = .returned (.bool true) ∧ Below base w1 w' ∧ w'.heap[g]? = w1.heap[g]?) :
    Calls Try.prog 49 #[.pointer (some ⟨g, 0, none⟩)] w fun e w' => e = .returned (.bool true) ∧ Below base w w' := by
  have hb0 : Below w.heap.size w w := Below.refl _ _
  have HF := Lib.hid hf; have HG0 := Lib.hid hg; have HB0 := Lib.hid hb0
  clear hf hg hb0
  go_enter Try.func49, Try.ntmps49
  have c0 : w.cell? ⟨g, 0, none⟩ = some (.slice none 0 0) := HG0.out.nil 0 (by omega) (by omega)
  go_wp2_with fail
  refine (flatLimbs_nil _).mono ?_
  rintro e w1 ⟨rfl, hb⟩
  have HG1 := Lib.hid (HG0.out.below hb)
  have HB1 := Lib.hid (HB0.out.trans (hb.mono HB0.out.size))
  clear c0 hb HG0 HB0
  have c1 : w1.cell? ⟨g, 1, none⟩ = some (.slice none 0 0) := HG1.out.nil 1 (by omega) (by omega)
  go_wp2_with fail
  refine (flatWords_nil _).mono ?_
  rintro e w2 ⟨rfl, hb⟩
  have HG2 := Lib.hid (HG1.out.below hb)
  have HB2 := Lib.hid (HB1.out.trans (hb.mono HB1.out.size))
  clear c1 hb HG1 HB1
  have c2 : w2.cell? ⟨g, 2, none⟩ = some (.slice none 0 0) := HG2.out.nil 2 (by omega) (by omega)
  go_wp2_with fail
  refine (flatInts_nil _).mono ?_
  rintro e w3 ⟨rfl, hb⟩
  have HG3 := Lib.hid (HG2.out.below hb)
  have HB3 := Lib.hid (HB2.out.trans (hb.mono HB2.out.size))
  clear c2 hb HG2 HB2
  have c3 : w3.cell? ⟨g, 3, none⟩ = some (.slice none 0 0) := HG3.out.nil 3 (by omega) (by omega)
  go_wp2_with fail
  refine (flatLongs_nil _).mono ?_
  rintro e w4 ⟨rfl, hb⟩
  have HG4 := Lib.hid (HG3.out.below hb)
  have HB4 := Lib.hid (HB3.out.trans (hb.mono HB3.out.size))
  clear c3 hb HG3 HB3
  have c4 : w4.cell? ⟨g, 4, none⟩ = some (.slice none 0 0) := HG4.out.nil 4 (by omega) (by omega)
  go_wp2_with fail
  refine (flatTexts_nil _).mono ?_
  rintro e w5 ⟨rfl, hb⟩
  have HG5 := Lib.hid (HG4.out.below hb)
  have HB5 := Lib.hid (HB4.out.trans (hb.mono HB4.out.size))
  clear c4 hb HG4 HB4
  have c5 : w5.cell? ⟨g, 5, none⟩ = some v := HG5.out.five
  go_wp2_with fail
  refine (HF.out _ HB5.out).mono ?_
  rintro e w6 ⟨rfl, hb, hbg⟩
  have hg6 : IsBag w6 g v := by
    obtain ⟨t, h⟩ := HG5.out
    exact ⟨t, hbg.trans h⟩
  have HG6 := Lib.hid hg6
  have HB6 := Lib.hid ((HB5.out.mono hbase).trans hb)
  clear c5 hb hbg hg6 HG5 HB5
  have c6 : w6.cell? ⟨g, 6, none⟩ = some (.slice none 0 0) := HG6.out.nil 6 (by omega) (by omega)
  go_wp2_with fail
  refine (flatTruths_nil _).mono ?_
  rintro e w7 ⟨rfl, hb⟩
  have HG7 := Lib.hid (HG6.out.below hb)
  have HB7 := Lib.hid (HB6.out.trans (hb.mono (Nat.le_trans hbase HB6.out.size)))
  clear c6 hb HG6 HB6
  have c7 : w7.cell? ⟨g, 7, none⟩ = some (.slice none 0 0) := HG7.out.nil 7 (by omega) (by omega)
  go_wp2_with fail
  refine (flatIns_nil _).mono ?_
  rintro e w8 ⟨rfl, hb⟩
  have HG8 := Lib.hid (HG7.out.below hb)
  have HB8 := Lib.hid (HB7.out.trans (hb.mono (Nat.le_trans hbase HB7.out.size)))
  clear c7 hb HG7 HB7
  have c8 : w8.cell? ⟨g, 8, none⟩ = some (.slice none 0 0) := HG8.out.nil 8 (by omega) (by omega)
  go_wp2_with fail
  refine (flatSpans_nil _).mono ?_
  rintro e w9 ⟨rfl, hb⟩
  have HG9 := Lib.hid (HG8.out.below hb)
  have HB9 := Lib.hid (HB8.out.trans (hb.mono (Nat.le_trans hbase HB8.out.size)))
  clear c8 hb HG8 HB8
  have c9 : w9.cell? ⟨g, 9, none⟩ = some (.slice none 0 0) := HG9.out.nil 9 (by omega) (by omega)
  go_wp2_with fail
  refine (flatKnowns_nil _).mono ?_
  rintro e w10 ⟨rfl, hb⟩
  have HG10 := Lib.hid (HG9.out.below hb)
  have HB10 := Lib.hid (HB9.out.trans (hb.mono (Nat.le_trans hbase HB9.out.size)))
  clear c9 hb HG9 HB9
  have c10 : w10.cell? ⟨g, 10, none⟩ = some (.slice none 0 0) := HG10.out.nil 10 (by omega) (by omega)
  go_wp2_with fail
  refine (flatPlaces_nil _).mono ?_
  rintro e w11 ⟨rfl, hb⟩
  have HG11 := Lib.hid (HG10.out.below hb)
  have HB11 := Lib.hid (HB10.out.trans (hb.mono (Nat.le_trans hbase HB10.out.size)))
  clear c10 hb HG10 HB10
  have c11 : w11.cell? ⟨g, 11, none⟩ = some (.slice none 0 0) := HG11.out.nil 11 (by omega) (by omega)
  go_wp2_with fail
  refine (flatFaults_nil _).mono ?_
  rintro e w12 ⟨rfl, hb⟩
  have HG12 := Lib.hid (HG11.out.below hb)
  have HB12 := Lib.hid (HB11.out.trans (hb.mono (Nat.le_trans hbase HB11.out.size)))
  clear c11 hb HG11 HB11
  have c12 : w12.cell? ⟨g, 12, none⟩ = some (.slice none 0 0) := HG12.out.nil 12 (by omega) (by omega)
  go_wp2_with fail
  refine (flatOutcomes_nil _).mono ?_
  rintro e w13 ⟨rfl, hb⟩
  have HG13 := Lib.hid (HG12.out.below hb)
  have HB13 := Lib.hid (HB12.out.trans (hb.mono (Nat.le_trans hbase HB12.out.size)))
  clear c12 hb HG12 HB12
  have c13 : w13.cell? ⟨g, 13, none⟩ = some (.slice none 0 0) := HG13.out.nil 13 (by omega) (by omega)
  go_wp2_with fail
  refine (flatFlats_nil _).mono ?_
  rintro e w14 ⟨rfl, hb⟩
  have HG14 := Lib.hid (HG13.out.below hb)
  have HB14 := Lib.hid (HB13.out.trans (hb.mono (Nat.le_trans hbase HB13.out.size)))
  clear c13 hb HG13 HB13
  have c14 : w14.cell? ⟨g, 14, none⟩ = some (.slice none 0 0) := HG14.out.nil 14 (by omega) (by omega)
  go_wp2_with fail
  refine (flatBundles_nil _).mono ?_
  rintro e w15 ⟨rfl, hb⟩
  have HG15 := Lib.hid (HG14.out.below hb)
  have HB15 := Lib.hid (HB14.out.trans (hb.mono (Nat.le_trans hbase HB14.out.size)))
  clear c14 hb HG14 HB14
  have c15 : w15.cell? ⟨g, 15, none⟩ = some (.slice none 0 0) := HG15.out.nil 15 (by omega) (by omega)
  go_wp2_with fail
  refine (flatEntries_nil _).mono ?_
  rintro e w16 ⟨rfl, hb⟩
  have HG16 := Lib.hid (HG15.out.below hb)
  have HB16 := Lib.hid (HB15.out.trans (hb.mono (Nat.le_trans hbase HB15.out.size)))
  clear c15 hb HG15 HB15
  have c16 : w16.cell? ⟨g, 16, none⟩ = some (.slice none 0 0) := HG16.out.nil 16 (by omega) (by omega)
  go_wp2_with fail
  refine (flatHeldRow_nil _).mono ?_
  rintro e w17 ⟨rfl, hb⟩
  have HG17 := Lib.hid (HG16.out.below hb)
  have HB17 := Lib.hid (HB16.out.trans (hb.mono (Nat.le_trans hbase HB16.out.size)))
  clear c16 hb HG16 HB16
  have c17 : w17.cell? ⟨g, 17, none⟩ = some (.slice none 0 0) := HG17.out.nil 17 (by omega) (by omega)
  go_wp2_with fail
  refine (flatRegistries_nil _).mono ?_
  rintro e w18 ⟨rfl, hb⟩
  have HG18 := Lib.hid (HG17.out.below hb)
  have HB18 := Lib.hid (HB17.out.trans (hb.mono (Nat.le_trans hbase HB17.out.size)))
  clear c17 hb HG17 HB17
  have c18 : w18.cell? ⟨g, 18, none⟩ = some (.slice none 0 0) := HG18.out.nil 18 (by omega) (by omega)
  go_wp2_with fail
  refine (flatLetters_nil _).mono ?_
  rintro e w19 ⟨rfl, hb⟩
  have HG19 := Lib.hid (HG18.out.below hb)
  have HB19 := Lib.hid (HB18.out.trans (hb.mono (Nat.le_trans hbase HB18.out.size)))
  clear c18 hb HG18 HB18
  have c19 : w19.cell? ⟨g, 19, none⟩ = some (.slice none 0 0) := HG19.out.nil 19 (by omega) (by omega)
  go_wp2_with fail
  refine (flatSteps_nil _).mono ?_
  rintro e w20 ⟨rfl, hb⟩
  have HG20 := Lib.hid (HG19.out.below hb)
  have HB20 := Lib.hid (HB19.out.trans (hb.mono (Nat.le_trans hbase HB19.out.size)))
  clear c19 hb HG19 HB19
  have c20 : w20.cell? ⟨g, 20, none⟩ = some (.slice none 0 0) := HG20.out.nil 20 (by omega) (by omega)
  go_wp2_with fail
  refine (flatTales_nil _).mono ?_
  rintro e w21 ⟨rfl, hb⟩
  have HG21 := Lib.hid (HG20.out.below hb)
  have HB21 := Lib.hid (HB20.out.trans (hb.mono (Nat.le_trans hbase HB20.out.size)))
  clear c20 hb HG20 HB20
  go_wp2
  go_ret
  exact ⟨rfl, HB21.out⟩
end Go.Proofs.Ytfpjmeknjhhakaa.K
