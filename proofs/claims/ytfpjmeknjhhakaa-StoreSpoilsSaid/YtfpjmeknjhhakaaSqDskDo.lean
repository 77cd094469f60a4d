/- The contracts of disk's Sync, Read, Cut and of a file's cut. -/
import Derived.Test.YtfpjmeknjhhakaaSqDskWith
import Derived.Lib.QuietBelow
namespace Go.Proofs.Ytfpjmeknjhhakaa.K
open Go Go.RowKit Go.Maps

section
variable {w0 w w' : World} {D R : Nat} {room : Int} {o : Option Fil} {f : Fil} {L L' : List Acc}
theorem Dk.fcases (h : Dk w0 w D R room (some f) L) : (f.A = none ∧ f.n = 0 ∧ f.c = 0 ∧ f.bs = []) ∨ ∃ g, f.A = some ⟨g, 0, none⟩ ∧ f.n ≤ f.c ∧ f.c ≤ maxLen := by
  have h1 := h.side.bank.at 2 rfl
  rcases h1.2 with ⟨h0, h2⟩ | ⟨g, cap, cur, hv, _, _, h3, h4, _⟩
  · left
    replace h0 : Value.slice f.A f.n f.c = .slice none 0 0 := h0
    simp only [Value.slice.injEq] at h0
    have h5 := h.flen
    rw [h0.2.1] at h5
    exact ⟨h0.1, h0.2.1, h0.2.2, List.eq_nil_of_length_eq_zero h5⟩
  · right
    replace hv : Value.slice f.A f.n f.c = .slice (some ⟨g, 0, none⟩) f.n cap := hv
    simp only [Value.slice.injEq, true_and] at hv
    rw [← hv.2] at h3 h4
    exact ⟨g, hv.1, h3, h4⟩
theorem Dk.setSafe (h : Dk w0 w D R room (some f) L) (k : Nat) : Dk w0 (w.setCell ⟨f.g, 1, none⟩ (.int .i64 (k : Int))) D R room (some { f with safe := k }) L := h.side.boxSet 1 rfl 1 _
/-- the file's bytes are others, in a row that was made -/
theorem Dk.refile {A : Option Addr} {n c : Nat} {bs : List (BitVec 8)} (h : Dk w0 w D R room (some f) (rowAcc A n c bs :: L)) (k : Nat) :
    Dk w0 ((w.setCell ⟨f.g, 0, none⟩ (.slice A n c)).setCell ⟨f.g, 1, none⟩ (.int .i64 (k : Int))) D R room (some ⟨f.g, A, n, c, bs, k⟩) L :=
  ((h.side.boxSet 1 rfl 0 (.slice A n c)).boxSet 1 rfl 1 (.int .i64 (k : Int))).sub (.cons_cons _ (.cons_cons _ (.cons _ (List.Sublist.refl _))))
end
set_option maxHeartbeats 1000000 in
set_option maxRecDepth 100000 in
theorem sync1_any (w0 w : World) (D R : Nat) (room : Int) (f : Fil) (L : List Acc) (h : Dk w0 w D R room (some f) L) :
    Calls Try.prog 127 #[.pointer (some ⟨f.g, 0, none⟩)] w fun e w' => e = .returned (.int .i64 0) ∧ Dk w0 w' D R room (some { f with safe := f.n }) L := by
  have f0 := h.f0
  have f1 := h.f1
  have z1 := h.ffree 1
  have HF := Lib.hid (h.setSafe f.n)
  clear h
  go_enter Try.func127, Try.ntmps127
  go_wp2
  go_ret
  exact ⟨rfl, HF.out⟩
set_option maxHeartbeats 1000000 in
set_option maxRecDepth 100000 in
theorem dSync_some (w0 w : World) (D R : Nat) (room : Int) (f : Fil) (L : List Acc) (h : Dk w0 w D R room (some f) L) :
    Calls Try.prog 76 #[.pointer (some ⟨D, 0, none⟩), .string storeS] w fun e w' => e = .returned (.int .i64 0) ∧ Dk w0 w' D R room (some { f with safe := f.n }) L := by
  have HC := Lib.hid (with_some w0 w D R room f L h 127 #[] (.int .i64 0) (fun w' => Dk w0 w' D R room (some { f with safe := f.n }) L) (.inl ⟨rfl, rfl⟩) (sync1_any w0 w D R room f L h))
  clear h
  generalize storeS = s at *
  go_enter Try.func76, Try.ntmps76
  go_wp2_with fail
  refine HC.out.mono ?_
  rintro e w' ⟨rfl, hz⟩
  have HZ := Lib.hid hz
  clear hz HC
  go_wp2
  go_ret
  exact ⟨rfl, HZ.out⟩
set_option maxHeartbeats 1000000 in
set_option maxRecDepth 100000 in
theorem dSync_none (w0 w : World) (D R : Nat) (room : Int) (L : List Acc) (h : Dk w0 w D R room none L) :
    Calls Try.prog 76 #[.pointer (some ⟨D, 0, none⟩), .string storeS] w fun e w' => e = .returned (.int .i64 6) ∧ w = w' := by
  have HC := Lib.hid (with_none w0 w D R room L (.func (.func 127) #[] #[]) h)
  clear h
  generalize storeS = s at *
  go_enter Try.func76, Try.ntmps76
  go_wp2_with fail
  refine HC.out.mono ?_
  rintro e w' ⟨rfl, rfl⟩
  clear HC
  go_wp2
  go_ret
  exact ⟨rfl, rfl⟩
set_option maxHeartbeats 1000000 in
set_option maxRecDepth 100000 in
theorem read1_any (w0 w : World) (D R I : Nat) (room : Int) (f : Fil) (L : List Acc) (h : Dk w0 w D R room (some f) (boxAcc I 27 [.slice none 0 0] :: L)) (hn : f.n ≤ 100000000) :
    Calls Try.prog 62 #[.pointer (some ⟨f.g, 0, none⟩), .pointer (some ⟨I, 0, none⟩)] w fun e w' => e = .returned (.int .i64 0) ∧ ∃ A n c, Dk w0 w' D R room (some f) (rowAcc A n c f.bs :: boxAcc I 27 [.slice A n c] :: L) := by
  have f0 := h.f0
  have HC := Lib.hid (clone8_any f.A f.n f.c f.bs w h.frow (by omega))
  have H0 := Lib.hid h
  clear h
  go_enter Try.func62, Try.ntmps62
  go_wp2_with fail
  refine HC.out.mono ?_
  rintro e w1 ⟨A, n, c, rfl, hn1, ho, hb⟩
  have h1 := H0.out.madeB hb ho
  have x0 := h1.cell 1 rfl 0 rfl
  have z0 := h1.free 1 rfl 0
  have HF := Lib.hid (h1.boxSet 1 rfl 0 (.slice A n c))
  clear hn1 ho hb h1 H0
  go_wp2
  go_ret
  exact ⟨rfl, A, n, c, HF.out⟩
set_option maxHeartbeats 1000000 in
set_option maxRecDepth 100000 in
theorem dRead_some (w0 w : World) (D R : Nat) (room : Int) (f : Fil) (L : List Acc) (h : Dk w0 w D R room (some f) L) (hn : f.n ≤ 100000000) :
    Calls Try.prog 32 #[.pointer (some ⟨D, 0, none⟩), .string storeS] w fun e w' => ∃ A n c, e = .returned (.tuple #[.slice A n c, .int .i64 0]) ∧ Dk w0 w' D R room (some f) (rowAcc A n c f.bs :: L) := by
  have h1 := h.box #[.slice none 0 0] 27 (by simp)
  have HC := Lib.hid (with_some w0 _ D R room f _ h1 62 #[.pointer (some ⟨w.heap.size, 0, none⟩)] (.int .i64 0) _ (.inr (.inl ⟨rfl, _, rfl⟩)) (read1_any w0 _ D R w.heap.size room f L h1 hn))
  clear h h1
  generalize storeS = s at *
  go_enter Try.func32, Try.ntmps32
  go_wp2_with fail
  refine HC.out.mono ?_
  rintro e w1 ⟨rfl, A, n, c, hz⟩
  have x0 := hz.cell 1 rfl 0 rfl
  have z0 := hz.free 1 rfl 0
  have HZ := Lib.hid ((hz.boxSet 1 rfl 0 (.slice A n c)).sub (.cons_cons _ (.cons _ (List.Sublist.refl _))))
  have y0 := (hz.boxSet 1 rfl 0 (.slice A n c)).cell 1 rfl 0 rfl
  clear hz HC
  go_wp2
  refine bodyPost_ret (v := .tuple #[.slice A n c, .int .i64 0]) ?_ rfl ⟨A, n, c, rfl, HZ.out⟩
  simp [results, Try.results32, go_sem, y0]
set_option maxHeartbeats 1000000 in
set_option maxRecDepth 100000 in
theorem dRead_none (w0 w : World) (D R : Nat) (room : Int) (L : List Acc) (h : Dk w0 w D R room none L) :
    Calls Try.prog 32 #[.pointer (some ⟨D, 0, none⟩), .string storeS] w fun e w' => e = .returned (.tuple #[.slice none 0 0, .int .i64 6]) ∧ Dk w0 w' D R room none L := by
  have h1 := h.box #[.slice none 0 0] 27 (by simp)
  have HC := Lib.hid (with_none w0 _ D R room _ (.func (.func 62) #[] #[.pointer (some ⟨w.heap.size, 0, none⟩)]) h1)
  have HZ := Lib.hid (h1.sub (.cons _ (List.Sublist.refl _)))
  have y0 := h1.cell 0 rfl 0 rfl
  clear h h1
  generalize storeS = s at *
  go_enter Try.func32, Try.ntmps32
  go_wp2_with fail
  refine HC.out.mono ?_
  rintro e w1 ⟨rfl, rfl⟩
  go_wp2
  refine bodyPost_ret (v := .tuple #[.slice none 0 0, .int .i64 6]) ?_ rfl ⟨rfl, HZ.out⟩
  simp [results, Try.results32, go_sem, y0]
theorem grown_twoD {w w1 : World} (hb : Below w.heap.size w w1) (g i j : Nat) (u v : Value) : w.grownBy ((w1.setCell ⟨g, i, none⟩ u).setCell ⟨g, j, none⟩ v) (some g) := by
  have h2 := grownBy_setCell w1 g i u
  have h3 := grownBy_setCell (w1.setCell ⟨g, i, none⟩ u) g j v
  exact ⟨h3.os.trans (h2.os.trans hb.os), h3.tape.trans (h2.tape.trans hb.tape), h3.output.trans (h2.output.trans hb.output), Nat.le_trans hb.size (Nat.le_trans h2.size h3.size),
    fun k hk hne => (h3.block k (Nat.lt_of_lt_of_le hk (Nat.le_trans hb.size h2.size)) hne).trans ((h2.block k (Nat.lt_of_lt_of_le hk hb.size) hne).trans (hb.block k hk))⟩
set_option maxHeartbeats 1000000 in
set_option maxRecDepth 100000 in
theorem cutG_any (w0 w : World) (D R : Nat) (room : Int) (f : Fil) (L : List Acc) (h : Dk w0 w D R room (some f) L) (k : Nat) (hk : k ≤ f.n) (hn : f.n ≤ 100000000) :
    Calls Try.prog 106 #[.pointer (some ⟨f.g, 0, none⟩), .int .i64 (k : Int)] w fun e w' => e = .returned (.tuple #[]) ∧ ∃ A c, Dk w0 w' D R room (some ⟨f.g, A, k, c, f.bs.take k, k⟩) L ∧ w.grownBy w' (some f.g) := by
  have f0 := h.f0
  have z0 := h.ffree 0
  have z1 := h.ffree 1
  have H0 := Lib.hid h
  have k0 : (0 : Int) ≤ (k : Int) := by omega
  have k1 : (k : Int) ≤ (f.n : Int) := by omega
  have hr := h.frow
  have hl := h.flen
  rcases h.fcases with ⟨hA, hn0, hc0, hb0⟩ | ⟨g, hA, hnc, hcm⟩
  · obtain ⟨fg, fA, fn, fc, fbs, fs⟩ := f
    simp only at hA hn0 hc0 hb0 hk f0 z0 z1
    subst hA hn0 hc0 hb0
    obtain rfl : k = 0 := by omega
    have HC := Lib.hid (clone8_any none 0 0 [] w hr (by omega))
    clear h hr hl
    go_enter Try.func106, Try.ntmps106
    go_wp2_with fail
    refine HC.out.mono ?_
    rintro e w1 ⟨A, n, c, rfl, hn1, ho, hb⟩
    obtain rfl : n = 0 := hn1
    have h1 := H0.out.madeB hb ho
    have f0 := h1.f0
    have f1 := h1.f1
    have z0 := h1.ffree 0
    have z1 := h1.ffree 1
    have HF := Lib.hid (h1.refile 0)
    have HG := Lib.hid (grown_twoD hb fg 0 1 (.slice A 0 c) (.int .i64 ((0 : Nat) : Int)))
    clear ho hb h1 H0
    go_wp2
    go_end0
    exact ⟨rfl, A, c, HF.out, HG.out⟩
  · obtain ⟨fg, fA, fn, fc, fbs, fs⟩ := f
    simp only at hA hnc hcm hk f0 z0 z1 k1 hl hr hn
    subst hA
    have kc : (k : Int) ≤ (fc : Int) := by omega
    have kcn : k ≤ fc := by omega
    have hr2 : RowRd w ⟨some ⟨g, 0, none⟩, k, fc⟩ (fbs.take k) := ⟨fun j hj => by
      rw [List.length_take] at hj
      obtain ⟨b', o', e, hc⟩ := hr.rd j (by omega)
      obtain ⟨rfl, rfl⟩ : g = b' ∧ 0 = o' := by simpa using e
      refine ⟨g, 0, rfl, ?_⟩
      rw [hc, List.getElem_take], by show _ = k; rw [List.length_take]; omega, fun h => by cases h⟩
    have HC := Lib.hid (clone8_any (some ⟨g, 0, none⟩) k fc (fbs.take k) w hr2 (by omega))
    have HL := Lib.hid hl
    clear h hr hl hr2
    go_enter Try.func106, Try.ntmps106
    go_wp2_with fail
    refine HC.out.mono ?_
    rintro e w1 ⟨A, n, c, rfl, hn1, ho, hb⟩
    obtain rfl : n = k := by have hl := HL.out; rw [hn1, List.length_take]; omega
    have h1 := H0.out.madeB hb ho
    have f0 := h1.f0
    have f1 := h1.f1
    have z0 := h1.ffree 0
    have z1 := h1.ffree 1
    have HF := Lib.hid (h1.refile n)
    have HG := Lib.hid (grown_twoD hb fg 0 1 (.slice A n c) (.int .i64 (n : Int)))
    clear hn1 ho hb h1 H0
    go_wp2
    go_end0
    exact ⟨rfl, A, c, HF.out, HG.out⟩
theorem cut_any (w0 w : World) (D R : Nat) (room : Int) (f : Fil) (L : List Acc) (h : Dk w0 w D R room (some f) L) (k : Nat) (hk : k ≤ f.n) (hn : f.n ≤ 100000000) :
    Calls Try.prog 106 #[.pointer (some ⟨f.g, 0, none⟩), .int .i64 (k : Int)] w fun e w' => e = .returned (.tuple #[]) ∧ ∃ A c, Dk w0 w' D R room (some ⟨f.g, A, k, c, f.bs.take k, k⟩) L :=
  (cutG_any w0 w D R room f L h k hk hn).mono fun _ _ ⟨he, A, c, h, _⟩ => ⟨he, A, c, h⟩
end Go.Proofs.Ytfpjmeknjhhakaa.K
