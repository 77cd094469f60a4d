/- The law WireNil as a function: it answers true. -/
import Derived.Test.YtjnhfmicadcmnaaWireAwake
import Derived.Test.YtjnhfmicadcmnaaKitEntry
namespace Go.Proofs.Ytjnhfmicadcmnaa.K
open Go Go.RowKit

/-- a pointer that is no reader, in this world and in every one grown of it -/
def NoRd (w : World) (p : Option Addr) : Prop := ∀ w1, w.grownBy w1 none → Calls Try.prog 33 #[.pointer p] w1 fun e w' => e = .returned (.bool true) ∧ w1 = w'
theorem NoRd.below {w w1 : World} {p : Option Addr} (h : NoRd w p) (hb : Below w.heap.size w w1) : NoRd w1 p := fun _ h2 => h _ (grown_trans' (grown_none_of_below hb) h2)
theorem NoRd.nil (w : World) : NoRd w none := fun w1 _ => pBad_nil w1
theorem NoRd.unmade {w : World} {P : Nat} {t : TypeId} (h : w.heap[P]? = some (.cells (readP none 0 0 false false).toArray t (0, 0))) : NoRd w (some ⟨P, 0, none⟩) := fun w1 hg =>
  pBad_unmade P [] none 0 0 false w1 ⟨⟨t, (hg.block P (Array.getElem?_eq_some_iff.1 h).1 (by simp)).trans h⟩, Rd.of_nil _ _, rfl, fun _ => rfl, by omega, ⟨by omega, by omega⟩, (fun _ h => by cases h), (fun _ h => by cases h)⟩
theorem NoRd.self {w : World} {p : Option Addr} (h : NoRd w p) : Calls Try.prog 33 #[.pointer p] w fun e w' => e = .returned (.bool true) ∧ w = w' := h w (grown_refl _ _)

set_option maxHeartbeats 2000000 in
set_option maxRecDepth 100000 in
theorem wnil_any (n : Int) (w : World) : Calls Try.prog 5 #[.int .i64 n] w fun e w' => e = .returned (.bool true) ∧ Below w.heap.size w w' := by
  go_enter Try.func5, Try.ntmps5
  go_wp2
  have h1 := heap_alloc2_old w (.cells (readP none 0 0 false false).toArray 51) (.cells #[.pointer none, .pointer (some ⟨w.heap.size, 0, none⟩)] 38)
  have h2 := heap_alloc2_new w (.cells (readP none 0 0 false false).toArray 51) (.cells #[.pointer none, .pointer (some ⟨w.heap.size, 0, none⟩)] 38)
  have hb0 := ((Below.refl w.heap.size w).alloc (Nat.le_refl _) (.cells (readP none 0 0 false false).toArray 51)).alloc (by simp) (.cells #[.pointer none, .pointer (some ⟨w.heap.size, 0, none⟩)] 38)
  have H1 := Lib.hid h1; have H2 := Lib.hid h2; have HB0 := Lib.hid hb0
  clear h1 h2 hb0
  go_loopw [4] (fun i wr => ∃ k : Nat, k ≤ 2 ∧ i = .int .i64 (k : Int) ∧ wr.heap[w.heap.size]? = some (.cells (readP none 0 0 false false).toArray 51 (0, 0)) ∧ wr.heap[w.heap.size + 1]? = some (.cells #[.pointer none, .pointer (some ⟨w.heap.size, 0, none⟩)] 38 (0, 0)) ∧ Below w.heap.size w wr) (fun i _ => 2 - (intOf i).toNat)
  case atStart => exact ⟨0, by omega, rfl, H1.out, H2.out, HB0.out⟩
  case round =>
    clear H1 H2 HB0
    obtain ⟨k, hk, rfl, h1, h2, hb⟩ := hrel
    have k0 : (0 : Int) ≤ (k : Int) := by omega
    rcases Nat.lt_or_ge k 2 with hlt | hge
    · obtain ⟨p, hc, hp⟩ : ∃ p, wr.cell? ⟨w.heap.size + 1, k, none⟩ = some (.pointer p) ∧ NoRd wr p := by
        rcases (by omega : k = 0 ∨ k = 1) with rfl | rfl
        · exact ⟨none, block_cell (xs := [.pointer none, .pointer (some ⟨w.heap.size, 0, none⟩)]) h2 rfl, NoRd.nil _⟩
        · exact ⟨some ⟨w.heap.size, 0, none⟩, block_cell (xs := [.pointer none, .pointer (some ⟨w.heap.size, 0, none⟩)]) h2 rfl, NoRd.unmade h1⟩
      have hz : w.heap.size + 1 < wr.heap.size := lt_of_row h2
      have k1 : (k : Int) < 2 := by omega
      have H1 := Lib.hid h1; have H2 := Lib.hid h2; have HB := Lib.hid hb; have HP := Lib.hid hp
      clear h1 h2 hb hp
      go_wp2_with fail
      refine (pNumber_early p wr HP.out).mono ?_
      rintro e w1 ⟨rfl, hb⟩
      have hc1 := (hb.cell (p := ⟨w.heap.size + 1, k, none⟩) hz).trans hc
      have HB1 := Lib.hid hb
      clear hb
      go_wp2_with fail
      refine (pBytes_early p w1 (HP.out.below HB1.out)).mono ?_
      rintro e w2 ⟨rfl, hb⟩
      have hc2 := (hb.cell (p := ⟨w.heap.size + 1, k, none⟩) (block_lt_of_cell hc1)).trans hc1
      have HB2 := Lib.hid (HB1.out.trans (hb.mono HB1.out.size))
      clear hb hc1 HB1
      go_wp2_with fail
      refine (pEntry_early p w2 (HP.out.below HB2.out)).mono ?_
      rintro e w3 ⟨rfl, hb⟩
      have hc3 := (hb.cell (p := ⟨w.heap.size + 1, k, none⟩) (block_lt_of_cell hc2)).trans hc2
      have HB3 := Lib.hid (HB2.out.trans (hb.mono HB2.out.size))
      clear hb hc2 HB2
      go_wp2_with fail
      refine (SameEntry_eq 0 0 0 0#8 false none none 0 0 0 0 [] w3 ⟨Rd.of_nil _ _, rfl, fun _ => rfl⟩ ⟨Rd.of_nil _ _, rfl, fun _ => rfl⟩ (by omega)).mono ?_
      rintro e w4 ⟨rfl, hb⟩
      have hc4 := (hb.cell (p := ⟨w.heap.size + 1, k, none⟩) (block_lt_of_cell hc3)).trans hc3
      have HB4 := Lib.hid (HB3.out.trans (hb.mono HB3.out.size))
      clear hb hc3 HB3
      go_wp2_with (first
        | (go_at_call 33; refine (HP.out.below HB4.out).self.mono ?_; rintro e w9 ⟨rfl, rfl⟩)
        | (go_at_call 35; refine (pDone_bad p _ (HP.out.below HB4.out).self).mono ?_; rintro e w9 ⟨rfl, rfl⟩))
      go_roundw
      case rel => exact ⟨k + 1, by omega, by go_num, (HB4.out.block _ (lt_of_row H1.out)).trans H1.out, (HB4.out.block _ (lt_of_row H2.out)).trans H2.out, HB.out.trans (HB4.out.mono HB.out.size)⟩
      case measure => simp [intOf]; omega
    · have k1 : ¬ (k : Int) < 2 := by omega
      have HB := Lib.hid hb
      clear h1 h2 hb
      go_wp2_with fail
      refine (wnum_any n wr).mono ?_
      rintro e w1 ⟨g, rfl, ho, hb⟩
      have HO := Lib.hid (RowRd.of_row ho); have HB1 := Lib.hid (HB.out.trans (hb.mono HB.out.size))
      clear ho hb HB
      go_wp2_with fail
      refine (rnum_any n w1).mono ?_
      rintro e w2 ⟨g2, c2, rfl, ho, hb⟩
      have HO1 := Lib.hid (HO.out.below hb); have HO2 := Lib.hid (RowRd.of_row ho); have HB2 := Lib.hid (HB1.out.trans (hb.mono HB1.out.size))
      clear ho hb HB1 HO
      go_wp2_with fail
      refine (SameBytes_eq _ _ 8 8 8 c2 (M.num n) w2 HO1.out HO2.out (by omega)).mono ?_
      rintro e w3 ⟨rfl, hb⟩
      have HB3 := Lib.hid (HB2.out.trans (hb.mono HB2.out.size))
      clear hb HB2 HO1 HO2
      go_wp2_with fail
      refine (awake_any w3).mono ?_
      rintro e w4 ⟨rfl, hb⟩
      have HB4 := Lib.hid (HB3.out.trans (hb.mono HB3.out.size))
      clear hb HB3
      go_wp2
      go_ret
      exact ⟨rfl, HB4.out⟩
end Go.Proofs.Ytjnhfmicadcmnaa.K
