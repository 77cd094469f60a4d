/- The contract of barbicankit's apart at a bag that holds lists of bytes, of entries and of letters alone. -/
import Derived.Test.YtdmpphioflcofaaGreatLz9
import Derived.Test.YtdmpphioflcofaaGreatLzBagLet
namespace Go.Proofs.YtdmpphioflcofaaGreat.K
open Go Go.RowKit

theorem bag3_at (v u x : Value) (j : Nat) (hj : j < 21) (h5 : j ≠ 5) (h15 : j ≠ 15) (h18 : j ≠ 18) : (bag3 v u x)[j]? = some (.slice none 0 0) := by
  rcases j with _ | _ | _ | _ | _ | _ | _ | _ | _ | _ | _ | _ | _ | _ | _ | _ | _ | _ | _ | _ | _ | j
  all_goals first | rfl | (exact absurd rfl h5) | (exact absurd rfl h15) | (exact absurd rfl h18) | omega
/-- the block g holds a bag whose lists of bytes are v, of entries u, of letters x -/
def IsBag3 (w : World) (g : Nat) (v u x : Value) : Prop := ∃ t, w.heap[g]? = some (.cells (bag3 v u x).toArray t (0, 0))
theorem IsBag3.nil {w : World} {g : Nat} {v u x : Value} (h : IsBag3 w g v u x) (j : Nat) (hj : j < 21) (h5 : j ≠ 5) (h15 : j ≠ 15) (h18 : j ≠ 18) : w.cell? ⟨g, j, none⟩ = some (.slice none 0 0) := by
  obtain ⟨t, h⟩ := h
  exact block_cell h (bag3_at v u x j hj h5 h15 h18)
theorem IsBag3.five {w : World} {g : Nat} {v u x : Value} (h : IsBag3 w g v u x) : w.cell? ⟨g, 5, none⟩ = some v := by
  obtain ⟨t, h⟩ := h
  exact block_cell h rfl
theorem IsBag3.ent {w : World} {g : Nat} {v u x : Value} (h : IsBag3 w g v u x) : w.cell? ⟨g, 15, none⟩ = some u := by
  obtain ⟨t, h⟩ := h
  exact block_cell h rfl
theorem IsBag3.lett {w : World} {g : Nat} {v u x : Value} (h : IsBag3 w g v u x) : w.cell? ⟨g, 18, none⟩ = some x := by
  obtain ⟨t, h⟩ := h
  exact block_cell h rfl
theorem IsBag3.lt {w : World} {g : Nat} {v u x : Value} (h : IsBag3 w g v u x) : g < w.heap.size := by
  obtain ⟨t, h⟩ := h
  exact (Array.getElem?_eq_some_iff.1 h).1
theorem IsBag3.eq {w w' : World} {g : Nat} {v u x : Value} (h : IsBag3 w g v u x) (hb : w'.heap[g]? = w.heap[g]?) : IsBag3 w' g v u x := by
  obtain ⟨t, h⟩ := h
  exact ⟨t, hb.trans h⟩
theorem IsBag3.below {w w' : World} {g : Nat} {v u x : Value} (h : IsBag3 w g v u x) (hb : Below w.heap.size w w') : IsBag3 w' g v u x := h.eq (hb.block g h.lt)

set_option maxHeartbeats 4000000 in
set_option maxRecDepth 100000 in
theorem apart3_any (g : Nat) (v u x : Value) (base : Nat) (K K2 : Nat → Prop) (w : World) (hg : IsBag3 w g v u x) (hbase : base ≤ w.heap.size) (hK : ∀ b, K b → b < w.heap.size) (hK2 : ∀ b, K2 b → K b) (hKg : K2 g)
    (hf : ∀ w1, Below w.heap.size w w1 → Calls Tryz.prog 60 #[v] w1 fun e w' => e = .returned (.bool true) ∧ Below base w1 w' ∧ ∀ b, K b → w'.heap[b]? = w1.heap[b]?)
    (hu : ∀ w1, Below base w w1 → (∀ b, K b → w1.heap[b]? = w.heap[b]?) → Calls Tryz.prog 70 #[u] w1 fun e w' => e = .returned (.bool true) ∧ Below base w1 w' ∧ ∀ b, K2 b → w'.heap[b]? = w1.heap[b]?)
    (hx : ∀ w1, Below base w w1 → (∀ b, K2 b → w1.heap[b]? = w.heap[b]?) → Calls Tryz.prog 73 #[x] w1 fun e w' => e = .returned (.bool true) ∧ Below base w1 w' ∧ w'.heap[g]? = w1.heap[g]?) :
    Calls Tryz.prog 33 #[.pointer (some ⟨g, 0, none⟩)] w fun e w' => e = .returned (.bool true) ∧ Below base w w' := by
  have hb0 : Below w.heap.size w w := Below.refl _ _
  have HF := Lib.hid hf; have HU := Lib.hid hu; have HX := Lib.hid hx; have HG0 := Lib.hid hg; have HB0 := Lib.hid hb0; have HKL := Lib.hid hK; have HKG := Lib.hid hKg; have HK2 := Lib.hid hK2
  clear hf hu hx hg hb0 hK hKg hK2
  go_enter Tryz.func33, Tryz.ntmps33
  have c0 : w.cell? ⟨g, 0, none⟩ = some (.slice none 0 0) := HG0.out.nil 0 (by omega) (by omega) (by omega) (by omega)
  go_wp2_with fail
  refine (flatLimbs_nil _).mono ?_
  rintro e w1 ⟨rfl, hb⟩
  have HG1 := Lib.hid (HG0.out.below hb)
  have HB1 := Lib.hid (HB0.out.trans (hb.mono HB0.out.size))
  clear c0 hb HG0 HB0
  have c1 : w1.cell? ⟨g, 1, none⟩ = some (.slice none 0 0) := HG1.out.nil 1 (by omega) (by omega) (by omega) (by omega)
  go_wp2_with fail
  refine (flatWords_nil _).mono ?_
  rintro e w2 ⟨rfl, hb⟩
  have HG2 := Lib.hid (HG1.out.below hb)
  have HB2 := Lib.hid (HB1.out.trans (hb.mono HB1.out.size))
  clear c1 hb HG1 HB1
  have c2 : w2.cell? ⟨g, 2, none⟩ = some (.slice none 0 0) := HG2.out.nil 2 (by omega) (by omega) (by omega) (by omega)
  go_wp2_with fail
  refine (flatInts_nil _).mono ?_
  rintro e w3 ⟨rfl, hb⟩
  have HG3 := Lib.hid (HG2.out.below hb)
  have HB3 := Lib.hid (HB2.out.trans (hb.mono HB2.out.size))
  clear c2 hb HG2 HB2
  have c3 : w3.cell? ⟨g, 3, none⟩ = some (.slice none 0 0) := HG3.out.nil 3 (by omega) (by omega) (by omega) (by omega)
  go_wp2_with fail
  refine (flatLongs_nil _).mono ?_
  rintro e w4 ⟨rfl, hb⟩
  have HG4 := Lib.hid (HG3.out.below hb)
  have HB4 := Lib.hid (HB3.out.trans (hb.mono HB3.out.size))
  clear c3 hb HG3 HB3
  have c4 : w4.cell? ⟨g, 4, none⟩ = some (.slice none 0 0) := HG4.out.nil 4 (by omega) (by omega) (by omega) (by omega)
  go_wp2_with fail
  refine (flatTexts_nil _).mono ?_
  rintro e w5 ⟨rfl, hb⟩
  have HG5 := Lib.hid (HG4.out.below hb)
  have HB5 := Lib.hid (HB4.out.trans (hb.mono HB4.out.size))
  clear c4 hb HG4 HB4
  have c5 : w5.cell? ⟨g, 5, none⟩ = some v := HG5.out.five
  go_wp2_with fail
  refine (HF.out _ HB5.out).mono ?_
  rintro e w6 ⟨rfl, hb, hbg⟩
  have HG6 := Lib.hid (HG5.out.eq (hbg g (HK2.out g HKG.out)))
  have HK6 := Lib.hid (fun b (h : K b) => (hbg b h).trans (HB5.out.block b (HKL.out b h)))
  have HB6 := Lib.hid ((HB5.out.mono hbase).trans hb)
  clear c5 hb hbg HG5 HB5
  have c6 : w6.cell? ⟨g, 6, none⟩ = some (.slice none 0 0) := HG6.out.nil 6 (by omega) (by omega) (by omega) (by omega)
  go_wp2_with fail
  refine (flatTruths_nil _).mono ?_
  rintro e w7 ⟨rfl, hb⟩
  have HG7 := Lib.hid (HG6.out.below hb)
  have HB7 := Lib.hid (HB6.out.trans (hb.mono (Nat.le_trans hbase HB6.out.size)))
  have HK7 := Lib.hid (fun b (h : K b) => (hb.block b (Nat.lt_of_lt_of_le (HKL.out b h) HB6.out.size)).trans (HK6.out b h))
  clear c6 hb HG6 HB6 HK6
  have c7 : w7.cell? ⟨g, 7, none⟩ = some (.slice none 0 0) := HG7.out.nil 7 (by omega) (by omega) (by omega) (by omega)
  go_wp2_with fail
  refine (flatIns_nil _).mono ?_
  rintro e w8 ⟨rfl, hb⟩
  have HG8 := Lib.hid (HG7.out.below hb)
  have HB8 := Lib.hid (HB7.out.trans (hb.mono (Nat.le_trans hbase HB7.out.size)))
  have HK8 := Lib.hid (fun b (h : K b) => (hb.block b (Nat.lt_of_lt_of_le (HKL.out b h) HB7.out.size)).trans (HK7.out b h))
  clear c7 hb HG7 HB7 HK7
  have c8 : w8.cell? ⟨g, 8, none⟩ = some (.slice none 0 0) := HG8.out.nil 8 (by omega) (by omega) (by omega) (by omega)
  go_wp2_with fail
  refine (flatSpans_nil _).mono ?_
  rintro e w9 ⟨rfl, hb⟩
  have HG9 := Lib.hid (HG8.out.below hb)
  have HB9 := Lib.hid (HB8.out.trans (hb.mono (Nat.le_trans hbase HB8.out.size)))
  have HK9 := Lib.hid (fun b (h : K b) => (hb.block b (Nat.lt_of_lt_of_le (HKL.out b h) HB8.out.size)).trans (HK8.out b h))
  clear c8 hb HG8 HB8 HK8
  have c9 : w9.cell? ⟨g, 9, none⟩ = some (.slice none 0 0) := HG9.out.nil 9 (by omega) (by omega) (by omega) (by omega)
  go_wp2_with fail
  refine (flatKnowns_nil _).mono ?_
  rintro e w10 ⟨rfl, hb⟩
  have HG10 := Lib.hid (HG9.out.below hb)
  have HB10 := Lib.hid (HB9.out.trans (hb.mono (Nat.le_trans hbase HB9.out.size)))
  have HK10 := Lib.hid (fun b (h : K b) => (hb.block b (Nat.lt_of_lt_of_le (HKL.out b h) HB9.out.size)).trans (HK9.out b h))
  clear c9 hb HG9 HB9 HK9
  have c10 : w10.cell? ⟨g, 10, none⟩ = some (.slice none 0 0) := HG10.out.nil 10 (by omega) (by omega) (by omega) (by omega)
  go_wp2_with fail
  refine (flatPlaces_nil _).mono ?_
  rintro e w11 ⟨rfl, hb⟩
  have HG11 := Lib.hid (HG10.out.below hb)
  have HB11 := Lib.hid (HB10.out.trans (hb.mono (Nat.le_trans hbase HB10.out.size)))
  have HK11 := Lib.hid (fun b (h : K b) => (hb.block b (Nat.lt_of_lt_of_le (HKL.out b h) HB10.out.size)).trans (HK10.out b h))
  clear c10 hb HG10 HB10 HK10
  have c11 : w11.cell? ⟨g, 11, none⟩ = some (.slice none 0 0) := HG11.out.nil 11 (by omega) (by omega) (by omega) (by omega)
  go_wp2_with fail
  refine (flatFaults_nil _).mono ?_
  rintro e w12 ⟨rfl, hb⟩
  have HG12 := Lib.hid (HG11.out.below hb)
  have HB12 := Lib.hid (HB11.out.trans (hb.mono (Nat.le_trans hbase HB11.out.size)))
  have HK12 := Lib.hid (fun b (h : K b) => (hb.block b (Nat.lt_of_lt_of_le (HKL.out b h) HB11.out.size)).trans (HK11.out b h))
  clear c11 hb HG11 HB11 HK11
  have c12 : w12.cell? ⟨g, 12, none⟩ = some (.slice none 0 0) := HG12.out.nil 12 (by omega) (by omega) (by omega) (by omega)
  go_wp2_with fail
  refine (flatOutcomes_nil _).mono ?_
  rintro e w13 ⟨rfl, hb⟩
  have HG13 := Lib.hid (HG12.out.below hb)
  have HB13 := Lib.hid (HB12.out.trans (hb.mono (Nat.le_trans hbase HB12.out.size)))
  have HK13 := Lib.hid (fun b (h : K b) => (hb.block b (Nat.lt_of_lt_of_le (HKL.out b h) HB12.out.size)).trans (HK12.out b h))
  clear c12 hb HG12 HB12 HK12
  have c13 : w13.cell? ⟨g, 13, none⟩ = some (.slice none 0 0) := HG13.out.nil 13 (by omega) (by omega) (by omega) (by omega)
  go_wp2_with fail
  refine (flatFlats_nil _).mono ?_
  rintro e w14 ⟨rfl, hb⟩
  have HG14 := Lib.hid (HG13.out.below hb)
  have HB14 := Lib.hid (HB13.out.trans (hb.mono (Nat.le_trans hbase HB13.out.size)))
  have HK14 := Lib.hid (fun b (h : K b) => (hb.block b (Nat.lt_of_lt_of_le (HKL.out b h) HB13.out.size)).trans (HK13.out b h))
  clear c13 hb HG13 HB13 HK13
  have c14 : w14.cell? ⟨g, 14, none⟩ = some (.slice none 0 0) := HG14.out.nil 14 (by omega) (by omega) (by omega) (by omega)
  go_wp2_with fail
  refine (flatBundles_nil _).mono ?_
  rintro e w15 ⟨rfl, hb⟩
  have HG15 := Lib.hid (HG14.out.below hb)
  have HB15 := Lib.hid (HB14.out.trans (hb.mono (Nat.le_trans hbase HB14.out.size)))
  have HK15 := Lib.hid (fun b (h : K b) => (hb.block b (Nat.lt_of_lt_of_le (HKL.out b h) HB14.out.size)).trans (HK14.out b h))
  clear c14 hb HG14 HB14 HK14
  have c15 : w15.cell? ⟨g, 15, none⟩ = some u := HG15.out.ent
  go_wp2_with fail
  refine (HU.out _ HB15.out HK15.out).mono ?_
  rintro e w16 ⟨rfl, hb, hbg⟩
  have HG16 := Lib.hid (HG15.out.eq (hbg g HKG.out))
  have HK16 := Lib.hid (fun b (h : K2 b) => (hbg b h).trans (HK15.out b (HK2.out b h)))
  have HB16 := Lib.hid (HB15.out.trans hb)
  clear c15 hb hbg HG15 HB15 HK15
  have c16 : w16.cell? ⟨g, 16, none⟩ = some (.slice none 0 0) := HG16.out.nil 16 (by omega) (by omega) (by omega) (by omega)
  go_wp2_with fail
  refine (flatHeldRow_nil _).mono ?_
  rintro e w17 ⟨rfl, hb⟩
  have HG17 := Lib.hid (HG16.out.below hb)
  have HB17 := Lib.hid (HB16.out.trans (hb.mono (Nat.le_trans hbase HB16.out.size)))
  have HK17 := Lib.hid (fun b (h : K2 b) => (hb.block b (Nat.lt_of_lt_of_le (HKL.out b (HK2.out b h)) HB16.out.size)).trans (HK16.out b h))
  clear c16 hb HG16 HB16 HK16
  have c17 : w17.cell? ⟨g, 17, none⟩ = some (.slice none 0 0) := HG17.out.nil 17 (by omega) (by omega) (by omega) (by omega)
  go_wp2_with fail
  refine (flatRegistries_nil _).mono ?_
  rintro e w18 ⟨rfl, hb⟩
  have HG18 := Lib.hid (HG17.out.below hb)
  have HB18 := Lib.hid (HB17.out.trans (hb.mono (Nat.le_trans hbase HB17.out.size)))
  have HK18 := Lib.hid (fun b (h : K2 b) => (hb.block b (Nat.lt_of_lt_of_le (HKL.out b (HK2.out b h)) HB17.out.size)).trans (HK17.out b h))
  clear c17 hb HG17 HB17 HK17
  have c18 : w18.cell? ⟨g, 18, none⟩ = some x := HG18.out.lett
  go_wp2_with fail
  refine (HX.out _ HB18.out HK18.out).mono ?_
  rintro e w19 ⟨rfl, hb, hbg⟩
  have HG19 := Lib.hid (HG18.out.eq hbg)
  have HB19 := Lib.hid (HB18.out.trans hb)
  clear c18 hb hbg HG18 HB18 HK18
  have c19 : w19.cell? ⟨g, 19, none⟩ = some (.slice none 0 0) := HG19.out.nil 19 (by omega) (by omega) (by omega) (by omega)
  go_wp2_with fail
  refine (flatSteps_nil _).mono ?_
  rintro e w20 ⟨rfl, hb⟩
  have HG20 := Lib.hid (HG19.out.below hb)
  have HB20 := Lib.hid (HB19.out.trans (hb.mono (Nat.le_trans hbase HB19.out.size)))
  clear c19 hb HG19 HB19
  have c20 : w20.cell? ⟨g, 20, none⟩ = some (.slice none 0 0) := HG20.out.nil 20 (by omega) (by omega) (by omega) (by omega)
  go_wp2_with fail
  refine (flatTales_nil _).mono ?_
  rintro e w21 ⟨rfl, hb⟩
  have HG21 := Lib.hid (HG20.out.below hb)
  have HB21 := Lib.hid (HB20.out.trans (hb.mono (Nat.le_trans hbase HB20.out.size)))
  clear c20 hb HG20 HB20
  go_wp2
  go_ret
  exact ⟨rfl, HB21.out⟩
end Go.Proofs.YtdmpphioflcofaaGreat.K
