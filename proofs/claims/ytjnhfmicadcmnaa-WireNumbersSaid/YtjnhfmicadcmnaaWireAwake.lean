/- The chapter's examples: barbicanlaw02.awake answers true. -/
import Derived.Test.YtjnhfmicadcmnaaWireNew
import Derived.Test.YtjnhfmicadcmnaaWireEntry
import Derived.Test.YtjnhfmicadcmnaaLit
namespace Go.Proofs.Ytjnhfmicadcmnaa.K
open Go Go.RowKit

theorem PrgN.grown {w w' : World} {P : Nat} {s : M.Rdr} {A0 : Option Addr} (h : PrgN w P s A0) {row : Option Nat} (hg : w.grownBy w' row) (hR : row ≠ some P) (hA : ∀ a, A0 = some a → row ≠ some a.block) : PrgN w' P s A0 := by
  obtain ⟨l, A, n, c, h⟩ := h
  refine ⟨l, A, n, c, ?_⟩
  cases s with
  | none =>
    obtain ⟨t, hb⟩ := h
    exact ⟨t, (hg.block P (Array.getElem?_eq_some_iff.1 hb).1 (Ne.symm hR)).trans hb⟩
  | some l' => exact ⟨h.1.grown hg hR (fun a e => by obtain ⟨a0, e0, h0⟩ := h.2.2 a e; rw [h0]; exact hA a0 e0), h.2.1, h.2.2⟩
theorem PrgN.below {w w' : World} {P : Nat} {s : M.Rdr} {A0 : Option Addr} (h : PrgN w P s A0) (hb : Below w.heap.size w w') : PrgN w' P s A0 := h.grown (grown_none_of_below hb) (by simp) (fun _ _ => by simp)
/-- what a contract leaves below -/
theorem below_of_grown {w w' : World} {B : Nat} {row : Option Nat} (h : w.grownBy w' row) (hB : B ≤ w.heap.size) (hr : ∀ b, row = some b → B ≤ b) : Below B w w' := (Below.refl B w).grown h hB hr

set_option maxHeartbeats 2000000 in
set_option maxRecDepth 100000 in
theorem awake_any (w : World) : Calls Try.prog 8 #[] w fun e w' => e = .returned (.bool true) ∧ Below w.heap.size w w' := by
  go_enter Try.func8, Try.ntmps8
  go_wp2_with fail
  have hb0 := (Below.refl w.heap.size w).alloc (Nat.le_refl _) (.cells #[.int .u8 1, .int .u8 2, .int .u8 3, .int .u8 4, .int .u8 5] 5)
  refine (pNew_any (some ⟨w.heap.size, 0, none⟩) 5 5 [1, 2, 3, 4, 5] _ (row_lit w _ _ _ _ _ rfl rfl) (by omega)).mono ?_
  rintro e w1 ⟨P, A, rfl, hP, hN, hA, hb1⟩
  have hP' : w.heap.size ≤ P := Nat.le_trans hb0.size hP
  have HB1 := Lib.hid (hb0.trans (hb1.mono hb0.size)); have HN1 := Lib.hid hN; have HA := Lib.hid hA
  clear hb0 hP hN hA hb1
  go_wp2_with fail
  refine (pNumber_any P (some [1, 2, 3, 4, 5]) A w1 HN1.out (fun a e => (HA.out a e).2.1)).mono ?_
  rintro e w2 ⟨rfl, hN, hg⟩
  rw [show M.rdNumber (some [1, 2, 3, 4, 5]) = (0, none) from rfl] at *
  have HB2 := Lib.hid (HB1.out.trans (below_of_grown hg HB1.out.size (by rintro b ⟨⟩; exact hP'))); have HN2 := Lib.hid hN
  clear hN hg HN1 HB1
  go_wp2_with fail
  refine (wnum_any 258 w2).mono ?_
  rintro e w3 ⟨g, rfl, ho, hb⟩
  have HB3 := Lib.hid (HB2.out.trans (hb.mono HB2.out.size)); have HN3 := Lib.hid (HN2.out.below hb); have HO := Lib.hid (RowRd.of_row ho)
  clear ho hb HB2 HN2
  go_wp2_with fail
  have hb0 := (Below.refl w3.heap.size w3).alloc (Nat.le_refl _) (.cells #[.int .u8 0, .int .u8 0, .int .u8 0, .int .u8 0, .int .u8 0, .int .u8 0, .int .u8 1, .int .u8 2] 5)
  refine (SameBytes_eq _ _ 8 8 8 8 (M.num 258) _ (HO.out.below hb0) (row_lit w3 _ _ _ _ _ rfl rfl) (by omega)).mono ?_
  rintro e w4 ⟨rfl, hb⟩
  have hb' := hb0.trans (hb.mono hb0.size)
  have HB4 := Lib.hid (HB3.out.trans (hb'.mono HB3.out.size)); have HN4 := Lib.hid (HN3.out.below hb')
  clear hb0 hb hb' HB3 HN3 HO
  go_wp2_with fail
  refine (wnum_any (-1) w4).mono ?_
  rintro e w5 ⟨g, rfl, ho, hb⟩
  have HB5 := Lib.hid (HB4.out.trans (hb.mono HB4.out.size)); have HN5 := Lib.hid (HN4.out.below hb); have HO := Lib.hid (RowRd.of_row ho)
  clear ho hb HB4 HN4
  go_wp2_with fail
  have hb0 := (Below.refl w5.heap.size w5).alloc (Nat.le_refl _) (.cells #[.int .u8 255, .int .u8 255, .int .u8 255, .int .u8 255, .int .u8 255, .int .u8 255, .int .u8 255, .int .u8 255] 5)
  refine (SameBytes_eq _ _ 8 8 8 8 (M.num (-1)) _ (HO.out.below hb0) (row_lit w5 _ _ _ _ _ rfl rfl) (by omega)).mono ?_
  rintro e w6 ⟨rfl, hb⟩
  have hb' := hb0.trans (hb.mono hb0.size)
  have HB6 := Lib.hid (HB5.out.trans (hb'.mono HB5.out.size)); have HN6 := Lib.hid (HN5.out.below hb')
  clear hb0 hb hb' HB5 HN5 HO
  go_wp2_with fail
  have hb0 := (Below.refl w6.heap.size w6).alloc (Nat.le_refl _) (.cells #[.int .u8 7] 5)
  refine (wbytes_any _ 1 1 [7] _ (row_lit w6 _ _ _ _ _ rfl rfl) (by omega)).mono ?_
  rintro e w7 ⟨g, N, c', rfl, hN, ho, hb⟩
  obtain rfl : N = 9 := hN
  have hb' := hb0.trans (hb.mono hb0.size)
  have HB7 := Lib.hid (HB6.out.trans (hb'.mono HB6.out.size)); have HN7 := Lib.hid (HN6.out.below hb'); have HO := Lib.hid (RowRd.of_row ho)
  clear ho hb hb0 hb' HB6 HN6
  go_wp2_with fail
  have hb0 := (Below.refl w7.heap.size w7).alloc (Nat.le_refl _) (.cells #[.int .u8 0, .int .u8 0, .int .u8 0, .int .u8 0, .int .u8 0, .int .u8 0, .int .u8 0, .int .u8 1, .int .u8 7] 5)
  refine (SameBytes_eq _ _ 9 9 c' 9 (M.blob [7]) _ (HO.out.below hb0) (row_lit w7 _ _ _ _ _ rfl rfl) (by omega)).mono ?_
  rintro e w8 ⟨rfl, hb⟩
  have hb' := hb0.trans (hb.mono hb0.size)
  have HB8 := Lib.hid (HB7.out.trans (hb'.mono HB7.out.size)); have HN8 := Lib.hid (HN7.out.below hb')
  clear hb0 hb hb' HB7 HN7 HO
  go_wp2_with (first
    | (go_at_call 33; refine (pBadN P _ A _ HN8.out).mono ?_; rintro e w9 ⟨rfl, rfl⟩)
    | (go_at_call 35; refine (pDoneN P _ A _ HN8.out).mono ?_; rintro e w9 ⟨rfl, rfl⟩))
  go_ret
  exact ⟨rfl, HB8.out⟩
end Go.Proofs.Ytjnhfmicadcmnaa.K
