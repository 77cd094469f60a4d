/- The contract of the reference's Entry. -/
import Derived.Test.YtdmpphioflcofaaGreatLz9
namespace Go.Proofs.YtdmpphioflcofaaGreat.K
open Go Go.RowKit

theorem cells_row {w : World} {base : Nat} {e : TypeId} {g n c : Nat} {bs : List (BitVec 8)} (h : w.ownsRow base e 1 (.slice (some ⟨g, 0, none⟩) n c) n (bv bs)) : ∀ ad, some (⟨g, 0, none⟩ : Addr) = some ad → ∀ j u, (bv bs)[j]? = some u → w.cell? (ad.add j) = some u := (Rd.of_own h).cells

theorem fl_row {w : World} {base : Nat} {e : TypeId} {v : Value} {fl : Int} {G : Bool} {x : Int} (h : fl = M.flag G) (ho : w.ownsRow base e 1 v 8 (bv (M.num x))) (hx : x = M.flag G := by rfl) : w.ownsRow base e 1 v 8 (bv (M.num fl)) := by
  rw [h, ← hx]; exact ho
set_option maxHeartbeats 2000000 in
set_option maxRecDepth 100000 in
theorem rentry_any (t k v s : Int) (K : BitVec 8) (G : Bool) (A : Option Addr) (n c : Nat) (bs : List (BitVec 8)) (w : World) (hr : RowRd w ⟨A, n, c⟩ bs) (hn2 : n ≤ 1000000000000) (hk : k = (K.toNat : Int)) :
    Calls Tryz.prog 37 #[.agg #[.int .i64 t, B8 K, .int .i64 v, .int .i64 s, .bool G, .slice A n c]] w fun e w' => ∃ g N c', e = .returned (.slice (some ⟨g, 0, none⟩) N c') ∧ N = (M.ent ⟨t, K, v, s, G, bs⟩).length ∧ w'.ownsRow w.heap.size 5 1 (.slice (some ⟨g, 0, none⟩) N c') N (bv (M.ent ⟨t, K, v, s, G, bs⟩)) ∧ Below w.heap.size w w' := by
  obtain ⟨i0, hi, hz0, hz1, hz2⟩ := info_parts infoByte
  have hcv := fun w => conv_B8_int (P := Tryz.prog) w 40 3 K Tryz.underlying40 Tryz.underlying3
  rw [← hk] at hcv
  have hr0 : RowRd (w.alloc (.cells #[.int .i64 t, B8 K, .int .i64 v, .int .i64 s, .bool G, .slice A n c] 42)) ⟨A, n, c⟩ bs := hr.below ((Below.refl _ _).alloc (Nat.le_refl _) _)
  have hlen : bs.length = n := hr.len
  have HR := Lib.hid hr0; have HK := Lib.hid hk; have HLEN := Lib.hid hlen
  clear hr hk hr0 hlen
  have x0 : (w.alloc (.cells #[.int .i64 t, B8 K, .int .i64 v, .int .i64 s, .bool G, .slice A n c] 42)).cell? ⟨w.heap.size, 0, none⟩ = some (.int .i64 t) := by rw [World.cell?_alloc_new]; rfl
  have x1 : (w.alloc (.cells #[.int .i64 t, B8 K, .int .i64 v, .int .i64 s, .bool G, .slice A n c] 42)).cell? ⟨w.heap.size, 1, none⟩ = some (B8 K) := by rw [World.cell?_alloc_new]; rfl
  have x2 : (w.alloc (.cells #[.int .i64 t, B8 K, .int .i64 v, .int .i64 s, .bool G, .slice A n c] 42)).cell? ⟨w.heap.size, 2, none⟩ = some (.int .i64 v) := by rw [World.cell?_alloc_new]; rfl
  have x3 : (w.alloc (.cells #[.int .i64 t, B8 K, .int .i64 v, .int .i64 s, .bool G, .slice A n c] 42)).cell? ⟨w.heap.size, 3, none⟩ = some (.int .i64 s) := by rw [World.cell?_alloc_new]; rfl
  have x4 : (w.alloc (.cells #[.int .i64 t, B8 K, .int .i64 v, .int .i64 s, .bool G, .slice A n c] 42)).cell? ⟨w.heap.size, 4, none⟩ = some (.bool G) := by rw [World.cell?_alloc_new]; rfl
  have x5 : (w.alloc (.cells #[.int .i64 t, B8 K, .int .i64 v, .int .i64 s, .bool G, .slice A n c] 42)).cell? ⟨w.heap.size, 5, none⟩ = some (.slice A n c) := by rw [World.cell?_alloc_new]; rfl
  have hb0 : Below w.heap.size w (w.alloc (.cells #[.int .i64 t, B8 K, .int .i64 v, .int .i64 s, .bool G, .slice A n c] 42)) := (Below.refl _ _).alloc (Nat.le_refl _) _
  have hs0 : w.heap.size < (w.alloc (.cells #[.int .i64 t, B8 K, .int .i64 v, .int .i64 s, .bool G, .slice A n c] 42)).heap.size := by simp
  have X0 := Lib.hid x0; have X1 := Lib.hid x1; have X2 := Lib.hid x2; have X3 := Lib.hid x3; have X4 := Lib.hid x4; have X5 := Lib.hid x5; have HB0 := Lib.hid hb0
  clear x0 x1 x2 x3 x4 x5 hb0
  obtain ⟨fl, hfl⟩ : ∃ fl, fl = M.flag G := ⟨_, rfl⟩
  have HFL := Lib.hid hfl
  have hent : M.ent ⟨t, K, v, s, G, bs⟩ = M.num t ++ M.num k ++ M.num v ++ M.num s ++ M.num fl ++ M.blob bs := by rw [HK.out, HFL.out]; rfl
  have HENT := Lib.hid hent
  clear hfl hent
  cases G
  all_goals
    have y0 := X0.out
    have y4 := X4.out
    go_enter Tryz.func37, Tryz.ntmps37
    go_wp2_with fail
    clear y0 y4
    generalize World.alloc w _ = w0 at *
    have HFE := HFL
    refine (rnum_any t _).mono ?_
    rintro e w1 ⟨g1, c1, rfl, ho1, hb1⟩
    have HO1 := Lib.hid ho1; have HB1 := Lib.hid hb1
    have hs1 := hb1.size
    clear ho1 hb1
    have y : w1.cell? ⟨w.heap.size, 1, none⟩ = some (B8 K) := (HB1.out.cell (p := ⟨w.heap.size, 1, none⟩) hs0).trans X1.out
    go_wp2_with fail
    refine (rnum_any k _).mono ?_
    rintro e w2 ⟨g2, c2, rfl, ho2, hb2⟩
    have HO2 := Lib.hid (row_kept HO1.out hb2); have HB2 := Lib.hid (HB1.out.trans (hb2.mono HB1.out.size)); have HC2 := Lib.hid (cells_row ho2)
    have hs2 := HB2.out.size
    clear ho2 hb2 HO1 HB1 y
    go_wp2_with (at_builtin; refine wpList_append_any _ rfl _ _ 22 rfl w0.heap.size 5 i0 (.int .u8 0) 1 1 Tryz.underlying22 hi hz0 hz1 hz2 rfl (by decide) _ 8 (bv (M.num t)) rfl HO2.out (some ⟨g2, 0, none⟩) 8 c2 (bv (M.num k)) rfl (fun h => by cases h) rfl HC2.out (bv_one _) (by unfold maxLen; omega) (by omega) hs2 ?_; intro v3 w3 hown hgrow; rw [← bv_append] at hown; obtain ⟨g3, c3, rfl, _, _⟩ := hown.form (by omega); have hb3 := HB2.out.grown hgrow hs2 (fun k hk => (HO2.out.lt k hk).1); have HO3 := Lib.hid hown; have HB3 := Lib.hid hb3; have hs3 := hb3.size; clear hown hgrow hb3 HO2 HB2 HC2; have y : w3.cell? ⟨w.heap.size, 2, none⟩ = some (.int .i64 v) := (HB3.out.cell (p := ⟨w.heap.size, 2, none⟩) hs0).trans X2.out)
    go_wp2_with fail
    refine (rnum_any v _).mono ?_
    rintro e w4 ⟨g4, c4, rfl, ho4, hb4⟩
    have HO4 := Lib.hid (row_kept HO3.out hb4); have HB4 := Lib.hid (HB3.out.trans (hb4.mono HB3.out.size)); have HC4 := Lib.hid (cells_row ho4)
    have hs4 := HB4.out.size
    clear ho4 hb4 HO3 HB3 y
    go_wp2_with (at_builtin; refine wpList_append_any _ rfl _ _ 22 rfl w0.heap.size 5 i0 (.int .u8 0) 1 1 Tryz.underlying22 hi hz0 hz1 hz2 rfl (by decide) _ 16 (bv (M.num t ++ M.num k)) rfl HO4.out (some ⟨g4, 0, none⟩) 8 c4 (bv (M.num v)) rfl (fun h => by cases h) rfl HC4.out (bv_one _) (by unfold maxLen; omega) (by omega) hs4 ?_; intro v5 w5 hown hgrow; rw [← bv_append] at hown; obtain ⟨g5, c5, rfl, _, _⟩ := hown.form (by omega); have hb5 := HB4.out.grown hgrow hs4 (fun k hk => (HO4.out.lt k hk).1); have HO5 := Lib.hid hown; have HB5 := Lib.hid hb5; have hs5 := hb5.size; clear hown hgrow hb5 HO4 HB4 HC4; have y : w5.cell? ⟨w.heap.size, 3, none⟩ = some (.int .i64 s) := (HB5.out.cell (p := ⟨w.heap.size, 3, none⟩) hs0).trans X3.out)
    go_wp2_with fail
    refine (rnum_any s _).mono ?_
    rintro e w6 ⟨g6, c6, rfl, ho6, hb6⟩
    have HO6 := Lib.hid (row_kept HO5.out hb6); have HB6 := Lib.hid (HB5.out.trans (hb6.mono HB5.out.size)); have HC6 := Lib.hid (cells_row ho6)
    have hs6 := HB6.out.size
    clear ho6 hb6 HO5 HB5 y
    go_wp2_with (at_builtin; refine wpList_append_any _ rfl _ _ 22 rfl w0.heap.size 5 i0 (.int .u8 0) 1 1 Tryz.underlying22 hi hz0 hz1 hz2 rfl (by decide) _ 24 (bv (M.num t ++ M.num k ++ M.num v)) rfl HO6.out (some ⟨g6, 0, none⟩) 8 c6 (bv (M.num s)) rfl (fun h => by cases h) rfl HC6.out (bv_one _) (by unfold maxLen; omega) (by omega) hs6 ?_; intro v7 w7 hown hgrow; rw [← bv_append] at hown; obtain ⟨g7, c7, rfl, _, _⟩ := hown.form (by omega); have hb7 := HB6.out.grown hgrow hs6 (fun k hk => (HO6.out.lt k hk).1); have HO7 := Lib.hid hown; have HB7 := Lib.hid hb7; have hs7 := hb7.size; clear hown hgrow hb7 HO6 HB6 HC6)
    go_wp2_with fail
    refine (rnum_any _ _).mono ?_
    rintro e w8 ⟨g8, c8, rfl, ho8, hb8⟩
    replace ho8 := fl_row HFE.out ho8
    have HO8 := Lib.hid (row_kept HO7.out hb8); have HB8 := Lib.hid (HB7.out.trans (hb8.mono HB7.out.size)); have HC8 := Lib.hid (cells_row ho8)
    have hs8 := HB8.out.size
    clear ho8 hb8 HO7 HB7
    go_wp2_with (at_builtin; refine wpList_append_any _ rfl _ _ 22 rfl w0.heap.size 5 i0 (.int .u8 0) 1 1 Tryz.underlying22 hi hz0 hz1 hz2 rfl (by decide) _ 32 (bv (M.num t ++ M.num k ++ M.num v ++ M.num s)) rfl HO8.out (some ⟨g8, 0, none⟩) 8 c8 (bv (M.num fl)) rfl (fun h => by cases h) rfl HC8.out (bv_one _) (by unfold maxLen; omega) (by omega) hs8 ?_; intro v9 w9 hown hgrow; rw [← bv_append] at hown; obtain ⟨g9, c9, rfl, _, _⟩ := hown.form (by omega); have hb9 := HB8.out.grown hgrow hs8 (fun k hk => (HO8.out.lt k hk).1); have HO9 := Lib.hid hown; have HB9 := Lib.hid hb9; have hs9 := hb9.size; clear hown hgrow hb9 HO8 HB8 HC8; have y : w9.cell? ⟨w.heap.size, 5, none⟩ = some (.slice A n c) := (HB9.out.cell (p := ⟨w.heap.size, 5, none⟩) hs0).trans X5.out)
    go_wp2_with fail
    refine (rbytes_any A n c bs _ (HR.out.below HB9.out) (by omega)).mono ?_
    rintro e w10 ⟨g10, N10, c10, rfl, hN10, ho10, hb10⟩
    have HN10 := Lib.hid hN10
    have hNb : N10 ≤ 2000000000000 := by omega
    have HO10 := Lib.hid (row_kept HO9.out hb10); have HB10 := Lib.hid (HB9.out.trans (hb10.mono HB9.out.size)); have HC10 := Lib.hid (cells_row ho10)
    have hl10 : (bv (M.blob bs)).length = N10 * 1 := ho10.1
    have HL10 := Lib.hid hl10
    have hs10 := HB10.out.size
    clear ho10 hb10 hN10 hl10 y HO9 HB9
    go_wp2_with (at_builtin; refine wpList_append_any _ rfl _ _ 22 rfl w0.heap.size 5 i0 (.int .u8 0) 1 1 Tryz.underlying22 hi hz0 hz1 hz2 rfl (by decide) _ 40 (bv (M.num t ++ M.num k ++ M.num v ++ M.num s ++ M.num fl)) rfl HO10.out (some ⟨g10, 0, none⟩) N10 c10 (bv (M.blob bs)) rfl (fun h => by cases h) HL10.out HC10.out (bv_one _) (by unfold maxLen; omega) (by omega) hs10 ?_; intro v11 w11 hown hgrow; rw [← bv_append] at hown; obtain ⟨g11, c11, rfl, _, _⟩ := hown.form (by omega); have hb11 := HB10.out.grown hgrow hs10 (fun k hk => (HO10.out.lt k hk).1); have HO11 := Lib.hid hown; have HB11 := Lib.hid hb11; clear hown hgrow hb11 HO10 HB10 HC10)
    go_ret
    refine ⟨g11, 40 + N10, c11, rfl, ?_, ?_, HB0.out.trans (HB11.out.mono (Nat.le_of_lt hs0))⟩
    · rw [HENT.out]
      have := HN10.out; have := HLEN.out
      simp [M.num_length, M.blob_length]; omega
    · rw [HENT.out]
      exact row_weaken HO11.out (Nat.le_of_lt hs0)
end Go.Proofs.YtdmpphioflcofaaGreat.K
