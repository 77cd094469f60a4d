/- The contract of barbicanlaw04.ShaApart: it tells true of any two slices of bytes. -/
import Derived.Test.YtjnhfmicadcmnaaDoorShaAwake
import Derived.Test.YtjnhfmicadcmnaaDoorRefMsg
import Derived.Test.YtjnhfmicadcmnaaDoorApartBytes
import Derived.Test.YtjnhfmicadcmnaaDoorRowMore
import Derived.Deep.RegionHeld3
namespace Go.Proofs.YtjnhfmicadcmnaaDoor.K
open Go Go.RowKit

set_option maxHeartbeats 1000000 in
set_option maxRecDepth 100000 in
theorem sapart_any (A : Option Addr) (n c : Nat) (bs : List (BitVec 8)) (A2 : Option Addr) (n2 c2 : Nat) (ms : List (BitVec 8)) (w : World)
    (hr : Rd w A bs) (hn : bs.length = n) (hnone : A = none → c = 0) (hb : n ≤ 140737488351232) (hr2 : Rd w A2 ms) (hn2 : ms.length = n2) (hnone2 : A2 = none → c2 = 0) (hb2 : n2 ≤ 140737488351232) (hK : HasK w) (hF : HasF w) :
    Calls Tryd.prog 5 #[.slice A n c, .slice A2 n2 c2] w fun e w' => e = .returned (.bool true) ∧ Below w.heap.size w w' := by
  obtain ⟨i0, hi, hz0, hz1, hz2⟩ := info_parts infoByte
  have hnn : A = none → n = 0 ∧ c = 0 := fun h => ⟨by subst h; rw [← hn, hr.empty]; rfl, hnone h⟩
  have hnn2 : A2 = none → n2 = 0 ∧ c2 = 0 := fun h => ⟨by subst h; rw [← hn2, hr2.empty]; rfl, hnone2 h⟩
  have hl1 : (bv bs).length = n * 1 := by rw [bv_length]; omega
  have hl2 : (bv ms).length = n2 * 1 := by rw [bv_length]; omega
  have HK := Lib.hid hK; have HF := Lib.hid hF; have HR := Lib.hid hr; have HN := Lib.hid hn; have HR2 := Lib.hid hr2; have HN2 := Lib.hid hn2; have HNN := Lib.hid hnn; have HNN2 := Lib.hid hnn2; have HL1 := Lib.hid hl1; have HL2 := Lib.hid hl2
  clear hK hF hr hn hr2 hn2 hnone hnone2 hnn hnn2 hl1 hl2
  by_cases h3 : 20000 < n + n2
  · have p : (20000 : Int) < (n : Int) + (n2 : Int) := by omega
    go_enter Tryd.func5, Tryd.ntmps5
    go_wp2_with fail
    refine (awake4_any _ HK.out HF.out).mono ?_
    rintro e w1 ⟨rfl, hb1⟩
    have HB := Lib.hid hb1; clear hb1
    go_wp2
    go_ret
    exact ⟨rfl, HB.out⟩
  · have p : ¬ (20000 : Int) < (n : Int) + (n2 : Int) := by omega
    go_enter Tryd.func5, Tryd.ntmps5
    go_wp2_with fail
    refine (awake4_any _ HK.out HF.out).mono ?_
    rintro e w1 ⟨rfl, hb1⟩
    have HB1 := Lib.hid hb1; clear hb1
    have hc1 := (HR.out.below HB1.out).cells
    have hc2 := (HR2.out.below HB1.out).cells
    have HC1 := Lib.hid hc1; have HC2 := Lib.hid hc2
    clear hc1 hc2
    have hs0 := HB1.out.size
    go_wp2_with (first
      | (at_builtin; refine wpList_append_own_any _ rfl _ _ 22 rfl w1.heap.size 5 i0 (.int .u8 0) 1 1 Tryd.underlying22 hi hz0 hz1 hz2 rfl (by decide) _ 0 [] rfl (own_of_lit (Nat.le_refl _)) A n c (bv bs) rfl HNN.out HL1.out (fun ad had j u hu => cell_alloc_old _ (HC1.out ad had j u hu)) (bv_one bs) (by unfold maxLen; omega) (by omega) (by simp) ?_; intro v2 w2 hown2 hgrow2; rw [Nat.zero_add, List.nil_append] at hown2; obtain ⟨B2, d2, rfl⟩ := own_slice hown2; have hb12 : Below w1.heap.size w1 w2 := ((Below.refl w1.heap.size w1).alloc (Nat.le_refl _) _).grown hgrow2 (by simp) (fun k hk => ((own_of_lit (e := 5) (Nat.le_refl w1.heap.size)).lt k hk).1); have hs12 := hb12.size; have HB12 := Lib.hid hb12; have HO2 := Lib.hid hown2; clear hb12 hown2 hgrow2)
      | (at_builtin; refine wpList_append_own_any _ rfl _ _ 22 rfl w1.heap.size 5 i0 (.int .u8 0) 1 1 Tryd.underlying22 hi hz0 hz1 hz2 rfl (by decide) _ n (bv bs) rfl HO2.out A2 n2 c2 (bv ms) rfl HNN2.out HL2.out (fun ad had j u hu => (HB12.out.cell (block_lt_of_cell (HC2.out ad had j u hu))).trans (HC2.out ad had j u hu)) (bv_one ms) (by unfold maxLen; omega) (by omega) hs12 ?_; intro v3 w3 hown3 hgrow3; rw [← bv_append] at hown3; obtain ⟨B3, d3, rfl⟩ := own_slice hown3; have hb13 : Below w1.heap.size w1 w3 := HB12.out.grown hgrow3 hs12 (fun k hk => (HO2.out.lt k hk).1); have HB13 := Lib.hid hb13; have HO3 := Lib.hid hown3; clear hb13 hown3 hgrow3))
    clear HC1 HC2 HB12 HO2
    have hb03 : Below w.heap.size w w3 := HB1.out.trans (HB13.out.mono HB1.out.size)
    have HB3 := Lib.hid hb03
    have hs3 := HB13.out.size
    have hrd := (Rd.of_own HO3.out).pre
    have HRD := Lib.hid hrd
    obtain ⟨hd1, hd2, hd3, hd4⟩ := row_room HO3.out
    have hd5 : (n : Int) ≤ (d3 : Int) := by omega
    have hd6 : n ≤ d3 := by omega
    have HD3 := Lib.hid hd3; have HD4 := Lib.hid hd4
    clear hb03 hrd hd3 hd4
    have hrA : Rd w3 A bs := HR.out.below HB3.out
    have hK3 : HasK w3 := HK.out.below HB3.out
    have hF3 : HasF w3 := HF.out.below HB3.out
    have HRA := Lib.hid hrA; have HK3 := Lib.hid hK3; have HF3 := Lib.hid hF3
    clear hrA hK3 hF3
    go_wp2_with fail
    go_region_held3 (fun w' => w3.heap.size ≤ w'.heap.size) (first | (have := hb4.size; simp at this ⊢; omega) | (have := hb5.size; simp at this ⊢; omega) | go_keep)
      (first
        | (go_at_call 13; ((with_reducible refine (Sum_any A n c bs _ ?_ HN.out ?_ ?_ ?_).mono ?_); (exact HRA.out); (omega); (exact HK3.out); (exact HF3.out); rintro e w4 ⟨g4, c4, rfl, hown4, hb4'⟩; have hb4 := below_of_drew hb4'; clear hb4'))
        | (go_at_call 13; ((with_reducible refine (Sum_any B3 n d3 bs _ ?_ HN.out ?_ ?_ ?_).mono ?_); (exact HRD.out.below hb4); (omega); (exact HK3.out.below hb4); (exact HF3.out.below hb4); rintro e w5 ⟨g5, c5, rfl, hown5, hb5⟩)))
    have hb04 : Below w.heap.size w w4 := HB3.out.trans (hb4.mono HB3.out.size)
    have hb05 : Below w.heap.size w w5 := hb04.trans (hb5.mono hb04.size)
    have hs4 := hb4.size
    have hs5 := hb5.size
    have hl4 : w3.heap.size ≤ g4 ∧ g4 < w4.heap.size := row_lt hown4
    have hl5 := row_lt hown5
    have ho4 := row_kept hown4 hb5
    have HO4 := Lib.hid ho4; have HO5 := Lib.hid hown5; have HB5 := Lib.hid hb05
    have HO3' := Lib.hid (World.ownsRow.kept (World.ownsRow.kept HO3.out (row := none) ⟨hb4.os, hb4.tape, hb4.output, hb4.size, fun k hk _ => hb4.block k hk⟩ (by cases h : (Value.slice B3 (n + n2) d3).ownBlock <;> simp)) (row := none) ⟨hb5.os, hb5.tape, hb5.output, hb5.size, fun k hk _ => hb5.block k hk⟩ (by cases h : (Value.slice B3 (n + n2) d3).ownBlock <;> simp))
    have hlt3 := HO3.out.lt
    have HLT3 := Lib.hid hlt3
    clear hb04 hb05 hown4 hown5 ho4 hb4 hb5 HO3 HRA HK3 HF3 HRD hlt3
    go_wp2_with fail
    refine (SameBytes_any (some ⟨g4, 0, none⟩) (some ⟨g5, 0, none⟩) 32 32 c4 c5 (M.sum bs) (M.sum bs) _ (Rd.of_own HO4.out) (Rd.of_own HO5.out) (M.sum_length _) (M.sum_length _) (by omega) (by omega)).mono ?_
    rintro e w6 ⟨rfl, q, rfl⟩
    rw [decide_eq_true rfl]
    have hb6 := below_drewN HB5.out q
    have hw6 : (w5.drewN q).heap.size = w5.heap.size := rfl
    have hs01 : w.heap.size ≤ w1.heap.size := HB1.out.size
    have p4 := row_weaken (e := 5) (w := w5.drewN q) HO4.out (base' := w.heap.size) (by show w.heap.size ≤ w3.heap.size; omega)
    have p5 := row_weaken (e := 5) (w := w5.drewN q) HO5.out (base' := w.heap.size) (by omega)
    have p3 := row_weaken (e := 5) (w := w5.drewN q) HO3'.out (base' := w.heap.size) hs01
    have P4 := Lib.hid p4; have P5 := Lib.hid p5; have P3 := Lib.hid p3; have HB6 := Lib.hid hb6; have HW6 := Lib.hid hw6
    have hs6 : w.heap.size ≤ (w5.drewN q).heap.size := by omega
    clear p3 p4 p5 hb6 hw6 HO4 HO5 HO3'
    generalize w5.drewN q = w6 at *
    have hsz6 : w6.heap.size = w5.heap.size := HW6.out
    have HSZ6 := Lib.hid hsz6
    clear hsz6 HW6
    go_wp2_with fail
    refine (ApartBytes_any (some ⟨w6.heap.size, 0, none⟩) 3 3 (three ⟨some ⟨g4, 0, none⟩, 32, c4⟩ ⟨some ⟨g5, 0, none⟩, 32, c5⟩ ⟨B3, n + n2, d3⟩) (threeB (M.sum bs) (M.sum bs) (bs ++ ms)) w.heap.size _ ?_ ?_ ?_ (by omega) ?_ (by simp; omega)).mono ?_
    · exact three_le ⟨_, 0, rfl, cells3 _ _ _ _ _ _ _ rfl⟩ ⟨_, 0, rfl, cells3 _ _ _ _ _ _ _ rfl⟩ ⟨_, 0, rfl, cells3 _ _ _ _ _ _ _ rfl⟩
    · exact three_le (P4.out.alloc _) (P5.out.alloc _) (P3.out.alloc _)
    · have h34 : ∀ b, (⟨B3, n + n2, d3⟩ : Rw).blk = some b → b < w3.heap.size := fun b h => (HLT3.out b h).2
      have e4 : ∀ b, (⟨some ⟨g4, 0, none⟩, 32, c4⟩ : Rw).blk = some b → b = g4 := fun b h => by simpa [Rw.blk, Rw.v, Value.ownBlock] using h.symm
      have e5 : ∀ b, (⟨some ⟨g5, 0, none⟩, 32, c5⟩ : Rw).blk = some b → b = g5 := fun b h => by simpa [Rw.blk, Rw.v, Value.ownBlock] using h.symm
      refine three_sep ?_ ?_ ?_ ?_ ?_ ?_
      · intro b h h'; have := e4 b h; have := e5 b h'; omega
      · intro b h h'; have := e4 b h; have := h34 b h'; omega
      · intro b h h'; have := e5 b h; have := e4 b h'; omega
      · intro b h h'; have := e5 b h; have := h34 b h'; omega
      · intro b h h'; have := h34 b h; have := e4 b h'; omega
      · intro b h h'; have := h34 b h; have := e5 b h'; omega
    · exact three_le (by show 32 ≤ _; omega) (by show 32 ≤ _; omega) (by show n + n2 ≤ _; omega)
    · rintro e w7 ⟨rfl, hb7⟩
      have HB7 := Lib.hid ((HB6.out.alloc hs6 (.cells #[.slice (some ⟨g4, 0, none⟩) 32 c4, .slice (some ⟨g5, 0, none⟩) 32 c5, .slice B3 (n + n2) d3] 22)).trans hb7)
      clear hb7
      go_wp2
      go_ret
      exact ⟨rfl, HB7.out⟩
end Go.Proofs.YtjnhfmicadcmnaaDoor.K
