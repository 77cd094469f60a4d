/- The contracts of mac.Fits, and of the reference's Tag and Fits. -/
import Derived.Test.YtjnhfmicadcmnaaDoorMacTag
import Derived.Deep.RegionHeld3
import Derived.Deep.MidRow
import Derived.Stop.BytesEq
namespace Go.Proofs.YtjnhfmicadcmnaaDoor.K
open Go Go.RowKit

set_option maxHeartbeats 2000000 in
set_option maxRecDepth 100000 in
theorem rtag_any (A B : Option Addr) (n c m d : Nat) (key bs : List (BitVec 8)) (w : World) (hk : RowRd w ⟨A, n, c⟩ key) (hr : RowRd w ⟨B, m, d⟩ bs) (hn2 : n ≤ 100000000000) (hm2 : m ≤ 100000000000) :
    Calls Tryd.prog 20 #[.slice A n c, .slice B m d] w (Made w (M.tag key bs)) := by
  have HK := Lib.hid hk; have HR := Lib.hid hr
  clear hk hr
  go_enter Tryd.func20, Tryd.ntmps20
  go_wp2_with fail
  refine (runder_any A n c key 0x36#8 w HK.out (by omega)).mono ?_
  rintro e w1 ⟨g1, N1, c1, rfl, hN1, ho1, hb1⟩
  have hn1 : N1 ≤ 64 := by rw [hN1, M.macUnder_length]; omega
  have BK1 := Lib.hid ((Bank.nil (Below.refl w.heap.size w)).madeB hb1 ho1)
  clear hN1 ho1 hb1
  go_wp2_with (at_builtin; refine wpList_append_bytes BK1.out rfl _ _ 22 rfl 5 infoByte Tryd.underlying22 0 _ _ _ _ rfl rfl _ _ _ _ rfl (Since.row BK1.out.since HR.out) (by omega) ?_; intro A2 n2 c2 w2 hn2' hB2; dsimp only [List.set] at hB2; have BK2 := Lib.hid hB2; have hn2'' := Nat.le_of_eq hn2'; clear hB2 hn2')
  refine (refSum_made (BK2.out.row 0 rfl) (by omega)).mono ?_
  rintro e w3 ⟨g3, N3, c3, rfl, hN3, ho3, hb3⟩
  have S3 := Lib.hid (BK2.out.since.add hb3); have R3 := Lib.hid (RowRd.of_row ho3)
  have hn3 : N3 ≤ 32 := by rw [hN3, M.sum_length]; omega
  clear hN3 ho3 hb3
  go_wp2_with fail
  refine (runder_any A n c key 0x5c#8 w3 (Since.row S3.out HK.out) (by omega)).mono ?_
  rintro e w4 ⟨g4, N4, c4, rfl, hN4, ho4, hb4⟩
  have hn4 : N4 ≤ 64 := by rw [hN4, M.macUnder_length]; omega
  have BK4 := Lib.hid ((Bank.nil (Below.refl w3.heap.size w3)).madeB hb4 ho4)
  clear hN4 ho4 hb4
  go_wp2_with (at_builtin; refine wpList_append_bytes BK4.out rfl _ _ 22 rfl 5 infoByte Tryd.underlying22 0 _ _ _ _ rfl rfl _ _ _ _ rfl (Since.row BK4.out.since R3.out) (by omega) ?_; intro A5 n5 c5 w5 hn5 hB5; dsimp only [List.set] at hB5; have BK5 := Lib.hid hB5; have hn5' := Nat.le_of_eq hn5; clear hB5 hn5)
  refine (refSum_made (BK5.out.row 0 rfl) (by omega)).mono ?_
  rintro e w6 ⟨g6, N6, c6, rfl, hN6, ho6, hb6⟩
  have S5 : Since w w5 := S3.out.trans (BK5.out.since.mono S3.out.size)
  have HFIN := Lib.hid (show Made w (M.tag key bs) (.returned (.slice (some ⟨g6, 0, none⟩) N6 c6)) w6 from ⟨g6, N6, c6, rfl, hN6, row_base ho6 S5.size, S5.add hb6⟩)
  clear hN6 ho6 hb6 S5
  go_wp2
  go_ret
  exact HFIN.out
/-- whether a tag is the one -/
def FitsPost (w : World) (key bs tg : List (BitVec 8)) (e : Ending) (w' : World) : Prop := e = .returned (.bool (decide (M.tag key bs = tg))) ∧ Since w w'
set_option maxHeartbeats 1000000 in
theorem rfits_any (A B C : Option Addr) (n c m d k l : Nat) (key bs tg : List (BitVec 8)) (w : World) (hk : RowRd w ⟨A, n, c⟩ key) (hr : RowRd w ⟨B, m, d⟩ bs) (ht : RowRd w ⟨C, k, l⟩ tg) (hn2 : n ≤ 100000000000) (hm2 : m ≤ 100000000000) (hk2 : k ≤ 100000000000) :
    Calls Tryd.prog 22 #[.slice A n c, .slice B m d, .slice C k l] w (FitsPost w key bs tg) := by
  have HK := Lib.hid hk; have HR := Lib.hid hr; have HT := Lib.hid ht
  clear hk hr ht
  go_enter Tryd.func22, Tryd.ntmps22
  go_wp2_with fail
  refine (rtag_any A B n c m d key bs w HK.out HR.out hn2 hm2).mono ?_
  rintro e w1 ⟨g1, N1, c1, rfl, hN1, ho1, hb1⟩
  have hn1 : N1 ≤ 32 := by rw [hN1, M.tag_length]; omega
  have S1 := Lib.hid hb1; have R1 := Lib.hid (RowRd.of_row ho1)
  clear hN1 ho1 hb1
  go_wp2_with fail
  refine (SameBytes_any _ _ N1 k c1 l (M.tag key bs) tg w1 R1.out.rd (Since.row S1.out HT.out).rd R1.out.len HT.out.len (by omega) (by omega)).mono ?_
  rintro e w2 ⟨rfl, q, rfl⟩
  have HFIN := Lib.hid (show FitsPost w key bs tg (.returned (.bool (decide (M.tag key bs = tg)))) (w1.drewN q) from ⟨rfl, Since.drewN S1.out q⟩)
  go_wp2
  go_ret
  exact HFIN.out

/-! ### the program's -/
theorem bv_cell (l : List (BitVec 8)) : bv l = (l.map UInt8.ofBitVec).map Extern.Stop.cell := by
  simp only [bv, List.map_map]; rfl
theorem run_arrayAt {P : Program} (t e : TypeId) (n : Nat) (ht : P.underlying t = some (.array n e)) (a : Option Addr) (c : Nat) (w : World) : (Instr.arrayAt t (.slice a n c)).run P w = .ok (.pointer a) w := by
  simp [Instr.arrayAt, run_underlying ht]
theorem run_eql_bv {P : Program} (t e : TypeId) (n : Nat) (ht : P.underlying t = some (.array n e)) (he : P.underlying e = some (.int .u8)) (hsz : ∀ w, (sizeOf e).run P w = .ok 1 w) (xs ys : List (BitVec 8)) (hx : xs.length = n) (hy : ys.length = n) (w : World) :
    (binOp .eql t (.agg (bv xs).toArray) (.agg (bv ys).toArray)).run P w = .ok (.bool (decide (ys = xs))) w := by
  rw [bv_cell, bv_cell, run_eql_bytes w t e n ht he hsz _ _ (by simpa using hx) (by simpa using hy)]
  congr 2
  rw [Bool.eq_iff_iff, beq_iff_eq, decide_eq_true_iff]
  constructor
  · intro h
    have h2 := (List.map_inj_right (f := UInt8.ofBitVec) (fun a b h => by cases h; rfl)).1 h
    exact h2.symm
  · rintro rfl; rfl
theorem sizeByte (w : World) : (sizeOf 5).run Tryd.prog w = .ok 1 w := by
  obtain ⟨i0, hi, _, hz1, _⟩ := info_parts infoByte
  simp [sizeOf, typeInfo, hi, hz1]
theorem info32 (l : List (BitVec 8)) (h : l.length = 32) : (Tryd.prog.info? 76).map (·.size) = some (bv l).length := by
  rw [bv_length, h]; kernel_rfl
theorem range_of {w : World} {b o : Nat} {n c : Nat} {bs : List (BitVec 8)} (h : RowRd w ⟨some ⟨b, o, none⟩, n, c⟩ bs) : w.rangeAt b o (bv bs) := fun j v hv => by
  have h1 := h.rd.cells ⟨b, o, none⟩ rfl j v hv
  rw [Addr.add_lit] at h1
  exact h1
theorem range_since {w0 w : World} {b o : Nat} {cs : List Value} (h : w0.rangeAt b o cs) (hs : Since w0 w) : w.rangeAt b o cs := fun j v hv => (hs.cell (p := ⟨b, o + j, none⟩) (block_lt_of_cell (h j v hv))).trans (h j v hv)

set_option maxHeartbeats 4000000 in
set_option maxRecDepth 100000 in
theorem fits_any (A B C : Option Addr) (n c m d k l : Nat) (key bs tg : List (BitVec 8)) (w : World) (hk : RowRd w ⟨A, n, c⟩ key) (hr : RowRd w ⟨B, m, d⟩ bs) (ht : RowRd w ⟨C, k, l⟩ tg) (hn2 : n ≤ 100000000000) (hm2 : m ≤ 100000000000) (hk2 : k ≤ 100000000000) (hK : HasK w) (hF : HasF w) :
    Calls Tryd.prog 21 #[.slice A n c, .slice B m d, .slice C k l] w (FitsPost w key bs tg) := by
  have HKY := Lib.hid hk; have HR := Lib.hid hr; have HT := Lib.hid ht; have HK := Lib.hid hK; have HF := Lib.hid hF; have HL := Lib.hid ht.len
  clear hk hr ht hK hF
  by_cases h32 : k = 32
  · subst h32
    have htl : tg.length = 32 := HL.out
    obtain ⟨b, o, hC, _, _⟩ := HT.out.rd.lay (by omega)
    obtain rfl : C = some ⟨b, o, none⟩ := hC
    have hrg := range_of HT.out
    have HRG := Lib.hid hrg
    have hi1 := info32 tg htl
    have hi2 := info32 (M.tag key bs) (M.tag_length key bs)
    have hu := Tryd.underlying76
    have harr := fun (a : Option Addr) (c : Nat) (w : World) => run_arrayAt (P := Tryd.prog) 76 5 32 Tryd.underlying76 a c w
    have heq := fun (w : World) => run_eql_bv (P := Tryd.prog) 76 5 32 Tryd.underlying76 Tryd.underlying5 sizeByte tg (M.tag key bs) htl (M.tag_length key bs) w
    clear hrg
    have HTL := Lib.hid htl
    clear htl
    go_enter Tryd.func21, Tryd.ntmps21
    go_wp2_with fail
    have hsd : Since w w.drew := Since.drew (Below.refl _ _)
    have hrd := range_since HRG.out hsd
    refine wp_region_noPanic ?_
    refine wp_region_held_drew (S := fun w' => w'.rangeAt b o (bv tg)) (by kernel_rfl) hrd (fun hHeld => ?_)
    refine wpAnyH_take (i := 0) (v := ?_) rfl (by kernel_rfl) (by kernel_rfl) (by kernel_rfl) (fun _ _ _ h => h) (Or.inl ⟨by rfl, ?_⟩) hHeld ?_
    rotate_left
    · intro w hSw; clear hSw; go_simp <;> rfl
    try simp only [Act.put, List.setIfInBounds_toArray, List.set_cons_zero, List.set_cons_succ]
    refine wpAnyH_take (i := 1) (v := ?_) rfl (by kernel_rfl) (by kernel_rfl) (by kernel_rfl) (fun _ _ _ h => h) (Or.inl ⟨by rfl, ?_⟩) hHeld ?_
    rotate_left
    · intro w hSw; clear hSw; go_simp <;> rfl
    try simp only [Act.put, List.setIfInBounds_toArray, List.set_cons_zero, List.set_cons_succ]
    refine wpAnyH_take (i := 2) (v := ?_) rfl (by kernel_rfl) (by kernel_rfl) (by kernel_rfl) (fun _ _ _ h => h) (Or.inl ⟨by rfl, ?_⟩) hHeld ?_
    rotate_left
    · intro w hSw; clear hSw; go_simp <;> rfl
    try simp only [Act.put, List.setIfInBounds_toArray, List.set_cons_zero, List.set_cons_succ]
    refine wpAnyH_take (i := 3) (v := ?_) rfl (by kernel_rfl) (by kernel_rfl) (by kernel_rfl) (fun _ _ _ h => h) (Or.inl ⟨by rfl, ?_⟩) hHeld ?_
    rotate_left
    · intro w hSw; clear hSw; go_simp <;> rfl
    try simp only [Act.put, List.setIfInBounds_toArray, List.set_cons_zero, List.set_cons_succ]
    refine wpAnyH_take (i := 4) (v := ?_) rfl (by kernel_rfl) (by kernel_rfl) (by kernel_rfl) (fun _ _ _ h => h) (Or.inl ⟨by rfl, ?_⟩) hHeld ?_
    rotate_left
    · intro w hSw; clear hSw; go_simp <;> rfl
    try simp only [Act.put, List.setIfInBounds_toArray, List.set_cons_zero, List.set_cons_succ]
    refine wpAnyH_take (i := 7) (v := ?_) rfl (by kernel_rfl) (by kernel_rfl) (by kernel_rfl) (fun _ _ _ h => h) (Or.inl ⟨by rfl, ?_⟩) hHeld ?_
    rotate_left
    · intro w hSw; clear hSw; go_simp <;> rfl
    try simp only [Act.put, List.setIfInBounds_toArray, List.set_cons_zero, List.set_cons_succ]
    refine wpAnyH_take (i := 8) (v := ?_) rfl (by kernel_rfl) (by kernel_rfl) (by kernel_rfl) (fun _ _ _ h => h) (Or.inl ⟨by rfl, ?_⟩) hHeld ?_
    rotate_left
    · intro w hSw; clear hSw; go_simp <;> rfl
    try simp only [Act.put, List.setIfInBounds_toArray, List.set_cons_zero, List.set_cons_succ]
    refine wpAnyH_take (i := 5) (v := ?_) rfl (by kernel_rfl) (by kernel_rfl) (by kernel_rfl) (fun _ _ _ h => h) (Or.inl ⟨by rfl, ?_⟩) hHeld ?_
    rotate_left
    · intro w hSw; clear hSw; go_simp <;> rfl
    try simp only [Act.put, List.setIfInBounds_toArray, List.set_cons_zero, List.set_cons_succ]
    refine wpAnyH_take (i := 6) (v := _) rfl (by kernel_rfl) (by kernel_rfl) (by kernel_rfl) (fun _ _ _ h => h) (yieldsIf_load_mid (by rfl) _ _ rfl _ _ rfl _ _ (fun w h => h) hu rfl hi1) hHeld ?_
    try simp only [Act.put, List.setIfInBounds_toArray, List.set_cons_zero, List.set_cons_succ]
    refine wpAnyH_ready (rs := [9]) (by kernel_rfl) (by simp) ?_
    refine AllReadyH.cons rfl (fun K hK => ?_) AllReadyH.nil
    go_simp
    refine (tag_any A B n c m d key bs _ (Since.row hsd HKY.out) (Since.row hsd HR.out) hn2 hm2 (HK.out.below hsd) (HF.out.below hsd)).mono ?_
    rintro e w1 ⟨g1, N1, c1, rfl, hN1, ho1, hb1⟩
    obtain rfl : N1 = 32 := hN1
    have hse := Since.add hsd hb1
    have hrg1 := range_of (RowRd.of_row ho1)
    have HSE := Lib.hid hse; have HRG1 := Lib.hid hrg1
    have hre := range_since HRG.out hse
    clear ho1 hb1 hse hrg1 hHeld
    refine hK.out _ _ hre (fun hHeld => ?_)
    clear hK K hre
    try simp only [Act.put, List.setIfInBounds_toArray, List.set_cons_zero, List.set_cons_succ]
    refine wpAnyH_take (i := 10) (v := ?_) rfl (by kernel_rfl) (by kernel_rfl) (by kernel_rfl) (fun _ _ _ h => h) (Or.inl ⟨by rfl, ?_⟩) hHeld ?_
    rotate_left
    · intro w hSw; clear hSw; go_simp <;> rfl
    try simp only [Act.put, List.setIfInBounds_toArray, List.set_cons_zero, List.set_cons_succ]
    refine wpAnyH_ready (rs := [11]) (by kernel_rfl) (by simp) ?_
    refine AllReadyH.cons rfl (fun K hK => ?_) AllReadyH.nil
    rw [if_pos (by rfl)]
    refine wp_load_mid _ _ rfl _ _ rfl _ _ HRG1.out hu rfl hi2 ?_
    refine hK.out _ _ hHeld (fun hHeld2 => ?_)
    clear hK K hHeld
    have hHeld := hHeld2
    try simp only [Act.put, List.setIfInBounds_toArray, List.set_cons_zero, List.set_cons_succ]
    refine wpAnyH_take (i := 12) (v := ?_) rfl (by kernel_rfl) (by kernel_rfl) (by kernel_rfl) (fun _ _ _ h => h) (Or.inl ⟨by rfl, ?_⟩) hHeld ?_
    rotate_left
    · intro w hSw; clear hSw; go_simp <;> rfl
    try simp only [Act.put, List.setIfInBounds_toArray, List.set_cons_zero, List.set_cons_succ]
    refine wpAnyH_take (i := 13) (v := ?_) rfl (by kernel_rfl) (by kernel_rfl) (by kernel_rfl) (fun _ _ _ h => h) (Or.inl ⟨by rfl, ?_⟩) hHeld ?_
    rotate_left
    · intro w hSw; clear hSw; go_simp <;> rfl
    try simp only [Act.put, List.setIfInBounds_toArray, List.set_cons_zero, List.set_cons_succ]
    refine wpAnyH_take (i := 14) (v := ?_) rfl (by kernel_rfl) (by kernel_rfl) (by kernel_rfl) (fun _ _ _ h => h) (Or.inl ⟨by rfl, ?_⟩) hHeld ?_
    rotate_left
    · intro w hSw; clear hSw; go_simp <;> rfl
    try simp only [Act.put, List.setIfInBounds_toArray, List.set_cons_zero, List.set_cons_succ]
    refine wpAnyH_done (by kernel_rfl) ?_ _
    have HFIN := Lib.hid (show FitsPost w key bs tg (.returned (.bool (decide (M.tag key bs = tg)))) w1 from ⟨rfl, HSE.out⟩)
    clear hHeld hHeld2 hrd harr heq hu hi1 hi2
    show NoPanic _ Exit.normal { tmps := #[.slice A n c, .slice B m d, .slice (some ⟨b, o, none⟩) 32 l, _, _, _, .bool (decide (M.tag key bs = tg)), .slice (some ⟨b, o, none⟩) 32 l, .int .i64 32, .bool true, .bool true, .slice (some ⟨b, o, none⟩) 32 l, .pointer (some ⟨b, o, none⟩), .agg (bv tg).toArray, .slice A n c, .slice B m d, .slice (some ⟨g1, 0, none⟩) 32 c1, .pointer (some ⟨g1, 0, none⟩), .agg (bv (M.tag key bs)).toArray, .bool (decide (M.tag key bs = tg)), .bool (decide (M.tag key bs = tg))], defers := [] } w1
    refine NoPanic.normal ?_
    simp only [Exit.then]
    go_wp2_with fail
    go_ret
    exact HFIN.out
  · have h9 : ((k : Int) == 32) = false := by simp; omega
    have hne : M.tag key bs ≠ tg := fun e => h32 (by have h : tg.length = k := HL.out; rw [← h, ← e, M.tag_length])
    have HNE := Lib.hid hne
    clear hne
    go_enter Tryd.func21, Tryd.ntmps21
    go_wp2_with fail
    go_quiet (fail)
    go_wp2
    go_ret
    exact ⟨by rw [decide_eq_false HNE.out]; rfl, Since.drewN (Below.refl _ _) _⟩
end Go.Proofs.YtjnhfmicadcmnaaDoor.K
