/- The contract of the law FrameNumbers. -/
import Derived.Test.YtfpjmeknjhhakaaFrPutsF
import Derived.Test.YtfpjmeknjhhakaaFrSame
import Derived.Test.YtfpjmeknjhhakaaKitCopyD
namespace Go.Proofs.Ytfpjmeknjhhakaa.K
open Go Go.RowKit

def zer (n : Nat) : List (BitVec 8) := List.replicate n 0#8
theorem zer_length (n : Nat) : (zer n).length = n := by simp [zer]
theorem made_zer {w : World} {base : Nat} {e : TypeId} {v : Value} {n : Nat} (h : w.ownsRow base e 1 v n (madeCells (Value.int .u8 0).cells (n * 1)).toList) : w.ownsRow base e 1 v n (bv (zer n)) := by
  have e1 : (madeCells (Value.int .u8 0).cells (n * 1)).toList = bv (zer n) := by
    rw [show (Value.int IntKind.u8 0).cells = #[Value.int .u8 0] from rfl, Nat.mul_one, toList_madeCells_one]
    simp [bv, B8, zer]
  rw [e1] at h; exact h
theorem below_none {w w' : World} (h : w.grownBy w' none) : Below w.heap.size w w' := ⟨h.os, h.tape, h.output, h.size, fun k hk => h.block k hk (by simp)⟩
/-- frames in a block of their own -/
theorem onesP_block {w : World} {g : Nat} {t : TypeId} {ps : List FR} (hg : w.heap[g]? = some (.cells (ps.flatMap FR.cells).toArray t (0, 0))) (h : ∀ p ∈ ps, M.inI64 p.k ∧ RowRd w p.x p.bs ∧ p.x.n ≤ p.x.c ∧ p.x.c ≤ 9223372036854775807) : OnesP w (some ⟨g, 0, none⟩) ps := fun i hi => by
  obtain ⟨c0, c1⟩ := cells_at ps i hi
  refine ⟨g, 0, rfl, ?_, ?_, h _ (List.getElem_mem hi)⟩
  · rw [Nat.zero_add]; exact block_cell hg c0
  · rw [Nat.zero_add]; exact block_cell hg c1
theorem row_nil (w : World) : RowRd w ⟨none, 0, 0⟩ [] := ⟨Rd.of_nil _ _, rfl, fun _ => rfl⟩
def One5 (z : Int) (g : Nat) : List FR := [⟨1, ⟨none, 0, 0⟩, []⟩, ⟨z, ⟨some ⟨g, 0, none⟩, 1, 1⟩, [5#8]⟩]
def One6 (z : Int) (g : Nat) : List FR := [⟨z, ⟨some ⟨g, 0, none⟩, 1, 1⟩, [6#8]⟩, ⟨-1, ⟨none, 0, 0⟩, []⟩]
theorem puts5 (wr : World) (z : Int) (hz : M.inI64 z) (t : TypeId) : Calls Try.prog 3 #[.slice (some ⟨wr.heap.size + 1, 0, none⟩) 2 2] ((wr.alloc (.cells #[.int .u8 5] t)).alloc (.cells #[.int .i64 1, .slice none 0 0, .int .i64 z, .slice (some ⟨wr.heap.size, 0, none⟩) 1 1] 37)) fun e w' => e = .returned (.bool true) ∧ Since wr w' := by
  have hS : Since wr ((wr.alloc (.cells #[.int .u8 5] t)).alloc (.cells #[.int .i64 1, .slice none 0 0, .int .i64 z, .slice (some ⟨wr.heap.size, 0, none⟩) 1 1] 37)) := Since.alloc (Since.alloc (Below.refl _ _) _) _
  have hg := heap_alloc_new (wr.alloc (.cells #[.int .u8 5] t)) (.cells #[.int .i64 1, .slice none 0 0, .int .i64 z, .slice (some ⟨wr.heap.size, 0, none⟩) 1 1] 37)
  rw [World.size_alloc] at hg
  have hr : RowRd ((wr.alloc (.cells #[.int .u8 5] t)).alloc (.cells #[.int .i64 1, .slice none 0 0, .int .i64 z, .slice (some ⟨wr.heap.size, 0, none⟩) 1 1] 37)) ⟨some ⟨wr.heap.size, 0, none⟩, 1, 1⟩ [5#8] := (row_lit wr #[.int .u8 5] t [5#8] 1 1 rfl rfl).below ((Below.refl _ _).alloc (Nat.le_refl _) _)
  have hP : OnesP _ (some ⟨wr.heap.size + 1, 0, none⟩) (One5 z wr.heap.size) := onesP_block hg (by
    intro p hp
    simp only [One5, List.mem_cons, List.mem_nil_iff, or_false] at hp
    rcases hp with rfl | rfl
    · exact ⟨⟨by decide, by decide⟩, row_nil _, Nat.le_refl _, by decide⟩
    · exact ⟨hz, hr, Nat.le_refl _, show 1 ≤ 9223372036854775807 by decide⟩)
  exact (fputs_any _ 2 2 _ _ (ones_of hP) rfl (Nat.le_refl _) (by decide) (by intro f hf; simp [One5, FR.fr] at hf; rcases hf with rfl | rfl <;> first | (show 0 ≤ 140737488351232; decide) | (show 1 ≤ 140737488351232; decide))).mono fun e w' ⟨he, hb⟩ => ⟨he, hS.add hb⟩
theorem puts6 (wr : World) (z : Int) (hz : M.inI64 z) (t : TypeId) : Calls Try.prog 3 #[.slice (some ⟨wr.heap.size + 1, 0, none⟩) 2 2] ((wr.alloc (.cells #[.int .u8 6] t)).alloc (.cells #[.int .i64 z, .slice (some ⟨wr.heap.size, 0, none⟩) 1 1, .int .i64 (-1), .slice none 0 0] 37)) fun e w' => e = .returned (.bool true) ∧ Since wr w' := by
  have hS : Since wr ((wr.alloc (.cells #[.int .u8 6] t)).alloc (.cells #[.int .i64 z, .slice (some ⟨wr.heap.size, 0, none⟩) 1 1, .int .i64 (-1), .slice none 0 0] 37)) := Since.alloc (Since.alloc (Below.refl _ _) _) _
  have hg := heap_alloc_new (wr.alloc (.cells #[.int .u8 6] t)) (.cells #[.int .i64 z, .slice (some ⟨wr.heap.size, 0, none⟩) 1 1, .int .i64 (-1), .slice none 0 0] 37)
  rw [World.size_alloc] at hg
  have hr : RowRd ((wr.alloc (.cells #[.int .u8 6] t)).alloc (.cells #[.int .i64 z, .slice (some ⟨wr.heap.size, 0, none⟩) 1 1, .int .i64 (-1), .slice none 0 0] 37)) ⟨some ⟨wr.heap.size, 0, none⟩, 1, 1⟩ [6#8] := (row_lit wr #[.int .u8 6] t [6#8] 1 1 rfl rfl).below ((Below.refl _ _).alloc (Nat.le_refl _) _)
  have hP : OnesP _ (some ⟨wr.heap.size + 1, 0, none⟩) (One6 z wr.heap.size) := onesP_block hg (by
    intro p hp
    simp only [One6, List.mem_cons, List.mem_nil_iff, or_false] at hp
    rcases hp with rfl | rfl
    · exact ⟨hz, hr, Nat.le_refl _, show 1 ≤ 9223372036854775807 by decide⟩
    · exact ⟨⟨by decide, by decide⟩, row_nil _, Nat.le_refl _, by decide⟩)
  exact (fputs_any _ 2 2 _ _ (ones_of hP) rfl (Nat.le_refl _) (by decide) (by intro f hf; simp [One6, FR.fr] at hf; rcases hf with rfl | rfl <;> first | (show 0 ≤ 140737488351232; decide) | (show 1 ≤ 140737488351232; decide))).mono fun e w' ⟨he, hb⟩ => ⟨he, hS.add hb⟩
def kindsL : List Int := [-9223372036854775808, -256, -1, 0, 1, 255, 256, 257, 512, 9223372036854775807]
theorem kinds_at (k : Nat) (hk : k < 10) : ∃ z, (#[Value.int .i64 (-9223372036854775808), .int .i64 (-256), .int .i64 (-1), .int .i64 0, .int .i64 1, .int .i64 255, .int .i64 256, .int .i64 257, .int .i64 512, .int .i64 9223372036854775807] : Array Value)[k]? = some (.int .i64 z) ∧ M.inI64 z := by
  have h : k = 0 ∨ k = 1 ∨ k = 2 ∨ k = 3 ∨ k = 4 ∨ k = 5 ∨ k = 6 ∨ k = 7 ∨ k = 8 ∨ k = 9 := by omega
  rcases h with rfl | rfl | rfl | rfl | rfl | rfl | rfl | rfl | rfl | rfl <;> exact ⟨_, rfl, by decide, by decide⟩
theorem scans_lit (w : World) (cs : Array Value) (t : TypeId) (bs : List (BitVec 8)) (n : Nat) (h : cs.toList = bv bs) (hn : bs.length = n) (hn2 : n ≤ 1000000) : Calls Try.prog 22 #[.slice (some ⟨w.heap.size, 0, none⟩) n n] (w.alloc (.cells cs t)) fun e w' => e = .returned (.bool true) ∧ Since w w' :=
  (scans_any _ n n bs _ (row_lit w cs t bs n n h hn) (Nat.le_refl _) (by omega) hn2 (fun a e => by cases e; simp)).mono fun e w' ⟨he, hb⟩ => ⟨he, (Since.alloc (Below.refl _ _) _).add hb⟩
theorem scans_row {w0 : World} {g o n c : Nat} {bs : List (BitVec 8)} (hr : RowRd w0 ⟨some ⟨g, o, none⟩, n, c⟩ bs) (hg : g < w0.heap.size) (hn : n ≤ c) (hc : c ≤ 9223372036854775807) (hn2 : n ≤ 1000000) {w : World} (h : Since w0 w) : Calls Try.prog 22 #[.slice (some ⟨g, o, none⟩) n c] w fun e w' => e = .returned (.bool true) ∧ Since w w' :=
  scans_any _ n c bs w (h.row hr) hn hc hn2 (fun a e => by cases e; exact Nat.lt_of_lt_of_le hg h.size)
def fsB : List F.Fr := [⟨9, [1#8, 2#8, 3#8]⟩, ⟨255, []⟩, ⟨0, [0#8, 0#8, 0#8, 0#8, 0#8]⟩]
theorem fsB_err : F.perr fsB = 0 := by decide +kernel
theorem fsB_len : (F.pbytes fsB).length = 35 := by rw [pbytes_len]; decide +kernel
theorem long_ok (Z : List (BitVec 8)) (h : Z.length = 262144) : F.perr [⟨0, Z⟩] = 0 := by
  rw [F.perr_zero]
  intro f hf
  rw [List.mem_singleton] at hf
  subst hf
  exact (F.errOf_ok _).2 ⟨show (0 : Int) ≤ 0 by decide, show (0 : Int) ≤ 255 by decide, by show Z.length ≤ 262144; omega⟩
theorem long_bad (Z : List (BitVec 8)) (h : Z.length = 262145) : F.perr [⟨3, []⟩, ⟨0, Z⟩] = 3 := by
  have h1 : F.errOf ⟨3, []⟩ = 0 := by decide
  have h2 : F.errOf ⟨0, Z⟩ = 3 := by
    unfold F.errOf
    rw [if_neg (by show ¬ ((0 : Int) < 0 ∨ (255 : Int) < 0); omega), if_pos (by show 262144 < Z.length; omega)]
  rw [F.perr, if_pos h1, F.perr, if_neg (by rw [h2]; decide), h2]
def OneB (a b : Nat) : List FR := [⟨9, ⟨some ⟨a, 0, none⟩, 3, 3⟩, [1#8, 2#8, 3#8]⟩, ⟨255, ⟨none, 0, 0⟩, []⟩, ⟨0, ⟨some ⟨b, 0, none⟩, 5, 5⟩, [0#8, 0#8, 0#8, 0#8, 0#8]⟩]
def RPut3 (w : World) (e : Ending) (w' : World) : Prop := ∃ g N c, e = .returned (.tuple #[.slice (some ⟨g, 0, none⟩) N c, .int .i64 0]) ∧ N = 35 ∧ w'.ownsRow w.heap.size 5 1 (.slice (some ⟨g, 0, none⟩) N c) N (bv (F.pbytes fsB)) ∧ Since w w'
theorem rput3 (w : World) (t : TypeId) : Calls Try.prog 15 #[.slice (some ⟨w.heap.size + 1 + 1, 0, none⟩) 3 3] (((w.alloc (.cells #[.int .u8 1, .int .u8 2, .int .u8 3] t)).alloc (.cells #[.int .u8 0, .int .u8 0, .int .u8 0, .int .u8 0, .int .u8 0] t)).alloc (.cells #[.int .i64 9, .slice (some ⟨w.heap.size, 0, none⟩) 3 3, .int .i64 255, .slice none 0 0, .int .i64 0, .slice (some ⟨w.heap.size + 1, 0, none⟩) 5 5] 46)) (RPut3 w) := by
  obtain ⟨wa, hwa⟩ : ∃ wa, wa = w.alloc (.cells #[.int .u8 1, .int .u8 2, .int .u8 3] t) := ⟨_, rfl⟩
  have r1 : RowRd wa ⟨some ⟨w.heap.size, 0, none⟩, 3, 3⟩ [1#8, 2#8, 3#8] := by rw [hwa]; exact row_lit w _ t _ 3 3 rfl rfl
  have s1 : Since w wa := by rw [hwa]; exact Since.alloc (Below.refl _ _) _
  have z1 : wa.heap.size = w.heap.size + 1 := by rw [hwa]; simp
  rw [← hwa]
  clear hwa
  obtain ⟨wb, hwb⟩ : ∃ wb, wb = wa.alloc (.cells #[.int .u8 0, .int .u8 0, .int .u8 0, .int .u8 0, .int .u8 0] t) := ⟨_, rfl⟩
  have r2 : RowRd wb ⟨some ⟨w.heap.size + 1, 0, none⟩, 5, 5⟩ [0#8, 0#8, 0#8, 0#8, 0#8] := by rw [hwb, ← z1]; exact row_lit wa _ t _ 5 5 rfl rfl
  have s2 : Since wa wb := by rw [hwb]; exact Since.alloc (Below.refl _ _) _
  have z2 : wb.heap.size = w.heap.size + 1 + 1 := by rw [hwb]; simp [z1]
  rw [← hwb]
  clear hwb
  have hg := heap_alloc_new wb (.cells #[.int .i64 9, .slice (some ⟨w.heap.size, 0, none⟩) 3 3, .int .i64 255, .slice none 0 0, .int .i64 0, .slice (some ⟨w.heap.size + 1, 0, none⟩) 5 5] 46)
  have s3 : Since wb (wb.alloc (.cells #[.int .i64 9, .slice (some ⟨w.heap.size, 0, none⟩) 3 3, .int .i64 255, .slice none 0 0, .int .i64 0, .slice (some ⟨w.heap.size + 1, 0, none⟩) 5 5] 46)) := Since.alloc (Below.refl _ _) _
  rw [z2] at hg
  generalize wb.alloc (.cells #[.int .i64 9, .slice (some ⟨w.heap.size, 0, none⟩) 3 3, .int .i64 255, .slice none 0 0, .int .i64 0, .slice (some ⟨w.heap.size + 1, 0, none⟩) 5 5] 46) = wc at *
  have hS : Since w wc := Since.add (Since.add s1 s2) s3
  have hP : OnesP wc (some ⟨w.heap.size + 1 + 1, 0, none⟩) (OneB w.heap.size (w.heap.size + 1)) := onesP_block hg (by
    intro p hp
    simp only [OneB, List.mem_cons, List.mem_nil_iff, or_false] at hp
    rcases hp with rfl | rfl | rfl
    · exact ⟨⟨show (-9223372036854775808 : Int) ≤ 9 by decide, show (9 : Int) ≤ 9223372036854775807 by decide⟩, s3.row (s2.row r1), Nat.le_refl _, show 3 ≤ 9223372036854775807 by decide⟩
    · exact ⟨⟨by decide, by decide⟩, row_nil _, Nat.le_refl _, by decide⟩
    · exact ⟨⟨show (-9223372036854775808 : Int) ≤ 0 by decide, show (0 : Int) ≤ 9223372036854775807 by decide⟩, s3.row r2, Nat.le_refl _, show 5 ≤ 9223372036854775807 by decide⟩)
  refine (rput_any _ 3 3 fsB wc (ones_of hP) rfl (by rw [fsB_len]; omega)).mono ?_
  rintro e w' ⟨A, N, c, rfl, hN, ho, hs⟩
  have hpo : pout fsB = F.pbytes fsB := by unfold pout; rw [if_pos fsB_err]
  rw [hpo] at hN ho
  have hN35 : N = 35 := hN.trans fsB_len
  obtain ⟨g, rfl⟩ := own_somes' ho (by omega)
  exact ⟨g, N, c, by rw [fsB_err]; rfl, hN35, row_weaken ho hS.size, Since.add hS hs⟩
set_option maxHeartbeats 16000000 in
set_option maxRecDepth 100000 in
theorem fnums_any (w : World) : Calls Try.prog 5 #[] w (Says w) := by
  obtain ⟨i0, hi, hz0, hz1, hz2⟩ := info_parts infoByte
  go_enter Try.func5, Try.ntmps5
  go_wp2_with fail
  have HKD := Lib.hid (heap_alloc_new w (.cells #[.int .i64 (-9223372036854775808), .int .i64 (-256), .int .i64 (-1), .int .i64 0, .int .i64 1, .int .i64 255, .int .i64 256, .int .i64 257, .int .i64 512, .int .i64 9223372036854775807] 3))
  have S1 := Lib.hid (Since.alloc (Below.refl w.heap.size w) (.cells #[.int .i64 (-9223372036854775808), .int .i64 (-256), .int .i64 (-1), .int .i64 0, .int .i64 1, .int .i64 255, .int .i64 256, .int .i64 257, .int .i64 512, .int .i64 9223372036854775807] 3))
  generalize w.alloc (.cells #[.int .i64 (-9223372036854775808), .int .i64 (-256), .int .i64 (-1), .int .i64 0, .int .i64 1, .int .i64 255, .int .i64 256, .int .i64 257, .int .i64 512, .int .i64 9223372036854775807] 3) = w1 at *
  go_loopw [2] (fun v wr => ∃ k : Nat, v = .int .i64 (k : Int) ∧ k ≤ 10 ∧ Since w1 wr) (fun i _ => 10 - (intOf i).toNat)
  case atStart => exact ⟨0, rfl, Nat.zero_le _, Below.refl _ _⟩
  case round =>
    obtain ⟨k, rfl, hk, hs⟩ := hrel
    have HS := Lib.hid hs
    have k0 : (0 : Int) ≤ (k : Int) := by omega
    clear hs
    by_cases hlt : k < 10
    · have i1 : (k : Int) < 10 := by omega
      obtain ⟨z, hz, hzi⟩ := kinds_at k hlt
      have cz : wr.cell? ⟨w.heap.size, k, none⟩ = some (.int .i64 z) := by
        have h := Since.at HS.out HKD.out
        unfold World.cell?
        rw [h]
        exact hz
      clear hz
      go_wp2_with fail
      refine (puts5 wr z hzi _).mono ?_
      rintro e w2 ⟨rfl, hb2⟩
      have cz2 := (hb2.cell (block_lt_of_cell cz)).trans cz
      have S2 := Lib.hid (Since.add HS.out hb2)
      clear hb2 cz
      go_wp2_with fail
      refine (puts6 w2 z hzi _).mono ?_
      rintro e w3 ⟨rfl, hb3⟩
      have S3 := Lib.hid (Since.add S2.out hb3)
      clear hb3 cz2
      go_wp2_with fail
      go_roundw
      case rel => exact ⟨k + 1, by go_num, by omega, S3.out⟩
      case measure => simp [intOf]; omega
    · have i1 : ¬ (k : Int) < 10 := by omega
      have S2 := Lib.hid (S1.out.trans (HS.out.mono S1.out.size))
      clear HKD S1 HS
      go_wp2_with (at_make; refine wpList_make_full _ rfl _ _ 27 rfl wr.heap.size 5 i0 (.int .u8 0) 1 Try.underlying27 hi hz0 hz1 _ _ _ _ 262145 rfl rfl rfl rfl (by rw [hz2]; omega) (by unfold maxLen; omega) (Nat.le_refl _) ?_; intro w3 hown3 hgrow3; have HZ3 := Lib.hid (RowRd.of_row (made_zer hown3)); have S3 := Lib.hid (S2.out.trans ((below_none hgrow3).mono S2.out.size)); have hlt3 := (row_lt hown3).2; clear hown3 hgrow3)
      obtain ⟨wq, rfl⟩ : ∃ wq : World, wq = wr := ⟨_, rfl⟩
      obtain ⟨Z, hZ⟩ : ∃ Z, Z = zer 262145 := ⟨_, rfl⟩
      rw [← hZ] at HZ3
      have HZL := Lib.hid (show Z.length = 262145 by rw [hZ, zer_length])
      clear hZ
      obtain ⟨Y, hY⟩ : ∃ Y, Y = (Z.drop 1).take 262144 := ⟨_, rfl⟩
      have HZC := Lib.hid (show RowRd w3 ⟨some ⟨wq.heap.size, 1, none⟩, 262144, 262144⟩ Y by rw [hY]; exact rowRd_cut HZ3.out 1 262144 262144 (by decide))
      have HYL := Lib.hid (show Y.length = 262144 by rw [hY, List.length_take, List.length_drop, HZL.out]; rfl)
      clear hY
      have HO8 := Lib.hid (show Ones (w3.alloc (.cells #[.int .i64 0, .slice (some ⟨wq.heap.size, 1, none⟩) 262144 262144] 36)) (some ⟨w3.heap.size, 0, none⟩) [⟨0, Y⟩] from ones_of (ps := [⟨0, ⟨some ⟨wq.heap.size, 1, none⟩, 262144, 262144⟩, Y⟩]) (onesP_block (heap_alloc_new w3 _) (by
        intro p hp
        rw [List.mem_singleton] at hp
        subst hp
        exact ⟨⟨show (-9223372036854775808 : Int) ≤ 0 by decide, show (0 : Int) ≤ 9223372036854775807 by decide⟩, HZC.out.below ((Below.refl _ _).alloc (Nat.le_refl _) _), Nat.le_refl _, show 262144 ≤ 9223372036854775807 by decide⟩)))
      refine (put_any _ 1 1 [⟨0, Y⟩] _ HO8.out rfl (by rw [pbytes_len]; simp only [dl, List.map_cons, List.map_nil, List.sum_cons, List.sum_nil, List.length_cons, List.length_nil]; rw [HYL.out]; omega)).mono ?_
      rintro e w4 ⟨A4, N4, c4, rfl, hN4, ho4, hs4⟩
      have hpe := long_ok Y HYL.out
      rw [hpe]
      have hpo : pout [⟨0, Y⟩] = F.pbytes [⟨0, Y⟩] := by unfold pout; rw [if_pos hpe]
      rw [hpo] at hN4 ho4
      have HN4 := Lib.hid hN4; have HPE := Lib.hid hpe
      have HN4' := Lib.hid (show N4 = 262153 by rw [hN4, pbytes_len]; simp only [dl, List.map_cons, List.map_nil, List.sum_cons, List.sum_nil, List.length_cons, List.length_nil]; rw [HYL.out]; rfl)
      have hN4l : N4 ≤ 1000000 := by have := HN4'.out; omega
      have HR4 := Lib.hid (RowRd.of_row ho4)
      obtain ⟨r1, r2, _, r4⟩ := row_room ho4
      have HL4 := Lib.hid (show ∀ a, A4 = some a → a.block < w4.heap.size from fun a e => by obtain ⟨g, rfl, _, h⟩ := r4 a e; exact h)
      have HS34 := Lib.hid (show Since w3 w4 from Since.add (Since.alloc (Below.refl w3.heap.size w3) _) hs4)
      have S4 := Lib.hid (Since.add S3.out HS34.out)
      have HZ4 := Lib.hid (HS34.out.row HZ3.out)
      clear hN4 ho4 hs4 hpe hpo r4 HZC HO8 HZ3 S3 hlt3 S2
      go_wp2_with fail
      have HO9 := Lib.hid (show Ones (w4.alloc (.cells #[.int .i64 3, .slice none 0 0, .int .i64 0, .slice (some ⟨wq.heap.size, 0, none⟩) 262145 262145] 36)) (some ⟨w4.heap.size, 0, none⟩) [⟨3, []⟩, ⟨0, Z⟩] from ones_of (ps := [⟨3, ⟨none, 0, 0⟩, []⟩, ⟨0, ⟨some ⟨wq.heap.size, 0, none⟩, 262145, 262145⟩, Z⟩]) (onesP_block (heap_alloc_new w4 _) (by
        intro p hp
        simp only [List.mem_cons, List.mem_nil_iff, or_false] at hp
        rcases hp with rfl | rfl
        · exact ⟨⟨by decide, by decide⟩, row_nil _, Nat.le_refl _, by decide⟩
        · exact ⟨⟨show (-9223372036854775808 : Int) ≤ 0 by decide, show (0 : Int) ≤ 9223372036854775807 by decide⟩, HZ4.out.below ((Below.refl _ _).alloc (Nat.le_refl _) _), Nat.le_refl _, show 262145 ≤ 9223372036854775807 by decide⟩)))
      refine (put_any _ 2 2 [⟨3, []⟩, ⟨0, Z⟩] _ HO9.out rfl (by rw [pbytes_len]; simp only [dl, List.map_cons, List.map_nil, List.sum_cons, List.sum_nil, List.length_cons, List.length_nil]; rw [HZL.out]; omega)).mono ?_
      rintro e w5 ⟨A5, N5, c5, rfl, hN5, ho5, hs5⟩
      rw [long_bad Z HZL.out]
      have HS45 := Lib.hid (show Since w4 w5 from Since.add (Since.alloc (Below.refl w4.heap.size w4) _) hs5)
      have S5 := Lib.hid (Since.add S4.out HS45.out)
      clear hN5 ho5 hs5 HO9 HZ4 HZL HS34 S4
      go_wp2_with fail
      refine (scan_any A4 N4 c4 (F.pbytes [⟨0, Y⟩]) w5 (HS45.out.row HR4.out) r1 r2 (by rw [← HN4.out]; omega) (fun a e => Nat.lt_of_lt_of_le (HL4.out a e) HS45.out.size)).mono ?_
      rintro e w6 ⟨ps, Fb, cb, u, s, rfl, hsc, hu, hps, hBk⟩
      have hput := F.scan_put [⟨0, Y⟩] HPE.out []
      rw [List.append_nil, hsc, F.scan_nil] at hput
      simp only [List.append_nil, Nat.add_zero, Prod.mk.injEq] at hput
      obtain ⟨h1, h2, rfl⟩ := hput
      obtain rfl : u = N4 := by rw [h2, HN4.out]
      have hpl : ps.length = 1 := by simpa using congrArg List.length h1
      obtain ⟨gf, rfl, hcl⟩ := frame_cells (hBk.at 0 rfl) (by omega)
      have hp0 : 0 < ps.length := by omega
      have hb0 : ps[0].bs = Y := by
        have h : (ps.map FR.fr)[0]? = some ⟨0, Y⟩ := by rw [h1]; rfl
        rw [List.getElem?_map, List.getElem?_eq_getElem hp0] at h
        simp only [Option.map_some, Option.some.injEq, FR.fr, F.Fr.mk.injEq] at h
        exact h.2
      have hn0 : ps[0].x.n = 262144 := by
        have ho : w6.ownsRow w5.heap.size 5 1 (.slice ps[0].x.A ps[0].x.n ps[0].x.c) ps[0].x.n (bv ps[0].bs) := hBk.own (FR.acc ps[0]) (List.mem_cons_of_mem _ (List.mem_map.2 ⟨ps[0], List.mem_reverse.2 (List.getElem_mem _), rfl⟩))
        have h : ps[0].bs.length = ps[0].x.n := (RowRd.of_row ho).len
        rw [← h, hb0, HYL.out]
      have c1 := (hcl 0 hp0).2
      obtain ⟨D, d, hD⟩ : ∃ D d, ps[0].x.v = .slice D 262144 d := ⟨ps[0].x.A, ps[0].x.c, by rw [Rw.v, hn0]⟩
      rw [hD] at c1
      have c1' : w6.cell? ⟨gf, 1, none⟩ = some (.slice D 262144 d) := by simpa using c1
      have S6 := Lib.hid (Since.add S5.out hBk.since)
      rw [hpl]
      clear hsc hu hps hBk h1 h2 hcl hp0 hb0 hn0 c1 hD hpl HR4 HL4 HS45 S5 HPE HYL HN4 HN4'
      go_wp2_with fail
      refine (rput3 w6 _).mono ?_
      rintro e w7 ⟨g, N, c, rfl, hN, ho, hs7⟩
      have S7 := Lib.hid (Since.add S6.out hs7)
      have HN := Lib.hid hN; have HO := Lib.hid ho; have HR := Lib.hid (RowRd.of_row ho)
      obtain ⟨q1, q2, _, _⟩ := row_room ho
      have hg7 : g < w7.heap.size := (row_lt ho).2
      have hN1 : N ≤ 100 := by omega
      have hN0 : 1 ≤ N := by omega
      have HPL := Lib.hid (show (F.pbytes fsB).length = N by rw [fsB_len, hN])
      obtain ⟨bs, hbs⟩ : ∃ bs, bs = F.pbytes fsB := ⟨_, rfl⟩
      rw [← hbs] at HR HPL HO
      clear hN ho hs7 hbs c1' S6
      go_wp2_with fail
      go_loopw [13] (fun v wr => ∃ i : Nat, v = .int .i64 (i : Int) ∧ i ≤ N + 1 ∧ Since w7 wr) (fun i _ => N + 1 - (intOf i).toNat)
      case atStart => exact ⟨0, rfl, Nat.zero_le _, Below.refl _ _⟩
      case round =>
        obtain ⟨i, rfl, hi', hs⟩ := hrel
        have HS := Lib.hid hs
        have j0 : (0 : Int) ≤ (i : Int) := by omega
        clear hs
        by_cases hle : i ≤ N
        · have j1 : (i : Int) ≤ (N : Int) := by omega
          have j2 : (i : Int) ≤ (c : Int) := by omega
          have j3 : i ≤ c := by omega
          have HC1 := Lib.hid (show RowRd w7 ⟨some ⟨g, 0, none⟩, i, c⟩ (bs.take i) by have h := rowRd_cut HR.out 0 i c (by omega); simpa using h)
          by_cases hci : c = i
          · obtain rfl : c = i := hci
            obtain rfl : N = c := by omega
            have HC2 := Lib.hid (show RowRd w7 ⟨some ⟨g, 0, none⟩, 0, 0⟩ [] from ⟨Rd.of_nil _ _, rfl, fun h => by cases h⟩)
            go_wp2_with fail
            refine (scans_row HC1.out hg7 (by omega) (by omega) (by omega) HS.out).mono ?_
            rintro e w8 ⟨rfl, hb8⟩
            have S8 := Lib.hid (Since.add HS.out hb8)
            clear hb8
            go_wp2_with fail
            refine (scans_row HC2.out hg7 (by omega) (by omega) (by omega) S8.out).mono ?_
            rintro e w9 ⟨rfl, hb9⟩
            have S9 := Lib.hid (Since.add S8.out hb9)
            clear hb9
            go_wp2_with fail
            go_roundw
            case rel => exact ⟨N + 1, by go_num, by omega, S9.out⟩
            case measure => simp [intOf] <;> omega
          · have HC2 := Lib.hid (show RowRd w7 ⟨some ⟨g, i, none⟩, N - i, c - i⟩ (bs.drop i) by
              have h := rowRd_cut HR.out i (N - i) (c - i) (by omega)
              rw [List.take_of_length_le (by rw [List.length_drop, HPL.out]; exact Nat.le_refl _)] at h
              simpa using h)
            go_wp2_with fail
            refine (scans_row HC1.out hg7 (by omega) (by omega) (by omega) HS.out).mono ?_
            rintro e w8 ⟨rfl, hb8⟩
            have S8 := Lib.hid (Since.add HS.out hb8)
            clear hb8
            go_wp2_with fail
            refine (scans_row HC2.out hg7 (by omega) (by omega) (by omega) S8.out).mono ?_
            rintro e w9 ⟨rfl, hb9⟩
            have S9 := Lib.hid (Since.add S8.out hb9)
            clear hb9
            go_wp2_with fail
            go_roundw
            case rel => exact ⟨i + 1, by go_num, by omega, S9.out⟩
            case measure => simp [intOf]; omega
        · have j1 : ¬ (i : Int) ≤ (N : Int) := by omega
          go_wp2_with fail
          obtain ⟨wq2, rfl⟩ : ∃ wq2 : World, wq2 = wr := ⟨_, rfl⟩
          go_loopw [14, 15, 16] (fun v14 _ _ wr => ∃ i : Nat, v14 = .int .i64 (i : Int) ∧ i ≤ N ∧ Since w7 wr) (fun i _ _ _ => N - (intOf i).toNat)
          case atStart => exact ⟨0, rfl, Nat.zero_le _, HS.out⟩
          case round =>
            obtain ⟨i3, rfl, hi3, hs3⟩ := hrel
            have HS3 := Lib.hid hs3
            have l0 : (0 : Int) ≤ (i3 : Int) := by omega
            clear hs3
            by_cases hlt3 : i3 < N
            · have l1 : (i3 : Int) < (N : Int) := by omega
              go_wp2_with fail
              obtain ⟨wo, rfl⟩ : ∃ wo : World, wo = wr := ⟨_, rfl⟩
              go_loopw [15, 16] (fun v15 _ wr => ∃ k : Nat, v15 = .int .i64 (k : Int) ∧ k ≤ 8 ∧ Since w7 wr) (fun k _ _ => 8 - (intOf k).toNat)
              case atStart => exact ⟨0, rfl, Nat.zero_le _, HS3.out⟩
              case round =>
                obtain ⟨k4, rfl, hk4, hs4⟩ := hrel
                have HS4 := Lib.hid hs4
                have m0 : (0 : Int) ≤ (k4 : Int) := by omega
                clear hs4
                by_cases hlt4 : k4 < 8
                · have m1 : (k4 : Int) < 8 := by omega
                  have hcv : IntKind.u64.wrap (k4 : Int) = (k4 : Int) := by rw [wrap_u64']; omega
                  have hshl : ∀ ty, binOp .shl ty (.int .u8 1) (.int .u64 (k4 : Int)) = pure (B8 (1#8 <<< k4)) := fun ty => by
                    have := B8_shl' ty (1#8) .u64 k4
                    exact this
                  have hy : ∃ y, bs[i3]? = some y := ⟨bs[i3]'(by rw [HPL.out]; exact hlt3), List.getElem?_eq_getElem _⟩
                  obtain ⟨y, hy⟩ := hy
                  have HY := Lib.hid hy
                  clear hy
                  go_wp2_with fail
                  refine (CopyBytes_any (some ⟨g, 0, none⟩) N c bs wr (HS4.out.row HR.out) (by omega)).mono ?_
                  rintro e w8 ⟨B, c8, rfl, ho8, hb8⟩
                  obtain ⟨g8, rfl⟩ := own_somes' ho8 (by omega)
                  have hcl : w8.cell? ⟨g8, i3, none⟩ = some (B8 y) := (ho8.cellAt i3 (by omega)).trans (bv_at HY.out)
                  have hfr : w8.frozen? ⟨g8, i3, none⟩ = false := own_free ho8 i3
                  have hx1 : N ≤ c8 := (row_room ho8).1
                  have hx2 : c8 ≤ 9223372036854775807 := (row_room ho8).2.1
                  have HR8 := Lib.hid (rowRd_set (RowRd.of_row ho8) i3 (y ^^^ (1#8 <<< k4)))
                  have S8 := Lib.hid (show Since w7 (w8.setCell ⟨g8, i3, none⟩ (B8 (y ^^^ (1#8 <<< k4)))) from Since.set (Since.add HS4.out hb8) (Nat.le_trans HS4.out.size (row_lt ho8).1) i3 _)
                  have hg8 : g8 < (w8.setCell ⟨g8, i3, none⟩ (B8 (y ^^^ (1#8 <<< k4)))).heap.size := by have := (row_lt ho8).2; simpa using this
                  clear ho8 hb8
                  go_wp2_with (with_reducible refine wpList_store_one rfl 5 (.tmp 144) (.tmp 143) rfl ⟨g8, i3, none⟩ (B8 (y ^^^ (1#8 <<< k4))) _ rfl rfl rfl (by kernel_rfl) hcl hfr ?_)
                  refine (scans_any (some ⟨g8, 0, none⟩) N c8 _ _ HR8.out hx1 hx2 (by omega) (fun a e => by cases e; exact hg8)).mono ?_
                  rintro e w9 ⟨rfl, hb9⟩
                  have S9 := Lib.hid (Since.add S8.out hb9)
                  clear hb9 hcl hfr hg8
                  go_wp2_with fail
                  go_roundw
                  case rel => exact ⟨k4 + 1, by go_num, by omega, S9.out⟩
                  case measure => simp [intOf]; omega
                · have m1 : ¬ (k4 : Int) < 8 := by omega
                  go_wp2_with fail
                  go_roundw
                  case rel => exact ⟨i3 + 1, by go_num, by omega, HS4.out⟩
                  case measure => simp [intOf]; omega
            · have l1 : ¬ (i3 : Int) < (N : Int) := by omega
              go_wp2_with fail
              refine (scans_lit wr _ _ [0#8, 0#8, 4#8, 0#8, 0#8, 1#8, 2#8, 3#8, 4#8, 5#8] 10 rfl rfl (by omega)).mono ?_
              rintro e wl0 ⟨rfl, hl0⟩
              have SL0 := Lib.hid (Since.add HS3.out hl0)
              clear hl0
              go_wp2_with fail
              refine (scans_lit wl0 _ _ [0#8, 0#8, 4#8, 0#8, 1#8, 1#8, 2#8, 3#8, 4#8, 5#8] 10 rfl rfl (by omega)).mono ?_
              rintro e wl1 ⟨rfl, hl1⟩
              have SL1 := Lib.hid (Since.add SL0.out hl1)
              clear hl1
              go_wp2_with fail
              refine (scans_lit wl1 _ _ [0#8, 0#8, 4#8, 0#8, 1#8, 1#8, 2#8, 3#8] 8 rfl rfl (by omega)).mono ?_
              rintro e wl2 ⟨rfl, hl2⟩
              have SL2 := Lib.hid (Since.add SL1.out hl2)
              clear hl2
              go_wp2_with fail
              refine (scans_lit wl2 _ _ [0#8, 255#8, 255#8, 255#8, 255#8, 1#8, 2#8, 3#8, 4#8, 5#8] 10 rfl rfl (by omega)).mono ?_
              rintro e wl3 ⟨rfl, hl3⟩
              have SL3 := Lib.hid (Since.add SL2.out hl3)
              clear hl3
              go_wp2_with fail
              refine (awake_any wl3).mono ?_
              rintro e wz ⟨rfl, hz⟩
              have SZ := Lib.hid (show Since w wz from Since.add (Since.add S7.out SL3.out) hz)
              clear hz
              go_wp2_with fail
              go_ret
              exact ⟨rfl, SZ.out⟩
end Go.Proofs.Ytfpjmeknjhhakaa.K
