/- Merged: DskUsed, DskWith, DskDo, DskCut, DskApp, DskCrash, StoMay, Sto, StoStand, StoDo. -/
import Derived.Test.YtfpjmeknjhhakaaGreatSz6
import Derived.Lib.SliceRun
import Derived.WalkLawsBesides
import Derived.Lib.QuietBelow
import Derived.ArgAppend
set_option linter.unusedVariables false
/- The contracts of disk's used and of slices.Clone for bytes. -/
namespace Go.Proofs.YtfpjmeknjhhakaaGreat.K
open Go Go.RowKit Go.Maps

def olen : Option Fil → Nat
  | none => 0
  | some f => f.n
set_option maxHeartbeats 1000000 in
set_option maxRecDepth 100000 in
theorem used_none (w0 w : World) (D R : Nat) (room : Int) (L : List Acc) (h : Dk w0 w D R room none L) :
    Calls Tryz.prog 100 #[.pointer (some ⟨D, 0, none⟩)] w fun e w' => e = .returned (.int .i64 0) ∧ Since w w' := by
  have c0 := h.c0
  have ht := Tryz.underlying67
  have r1 := range_one (P := Tryz.prog) ht h.one
  have hs : Since w (w.alloc (.mapIter (some R) 0 #[] 0)) := Since.alloc (Below.refl _ _) _
  have n1 := next_none (P := Tryz.prog) (ty := 0) (heap_alloc_new w (.mapIter (some R) 0 #[] 0)) (h.one.eq (hs.block R h.lt.2))
  have HS := Lib.hid hs
  clear h ht hs
  simp only [Option.map_none, oneClock] at r1
  go_enter Tryz.func100, Tryz.ntmps100
  go_wp2
  refine wp_loop_rounds 1 ?_
  rw [rounds_succ]
  go_wp2
  go_ret
  exact ⟨rfl, HS.out⟩
set_option maxHeartbeats 1000000 in
set_option maxRecDepth 100000 in
theorem used_some (w0 w : World) (D R : Nat) (room : Int) (f : Fil) (L : List Acc) (h : Dk w0 w D R room (some f) L) (hf : f.n ≤ 1000000000) :
    Calls Tryz.prog 100 #[.pointer (some ⟨D, 0, none⟩)] w fun e w' => e = .returned (.int .i64 (f.n : Int)) ∧ Since w w' := by
  have c0 := h.c0
  have ht := Tryz.underlying67
  have r1 := range_one (P := Tryz.prog) ht h.one
  have hs : ∀ o, Since w (w.alloc o) := fun o => Since.alloc (Below.refl _ _) o
  have hone : ∀ o, IsOne (w.alloc o) R storeS (some f.ptr) := fun o => h.one.eq ((hs o).block R h.lt.2)
  have n1 := next_one (P := Tryz.prog) (ty := 0) (heap_alloc_new w (.mapIter (some R) 1 #[] 1)) (hone _)
  have e1 := entry_one (P := Tryz.prog) (heap_alloc_new w (.mapIter (some R) 1 #[0] 1)) (hone _)
  have n2 := next_over (P := Tryz.prog) (ty := 0) (heap_alloc_new w (.mapIter (some R) 1 #[0] 1)) (hone _)
  rw [setBlock_allocQ] at n1
  have f0 : (w.alloc (.mapIter (some R) 1 #[0] 1)).cell? ⟨f.g, 0, none⟩ = some (.slice f.A f.n f.c) := cell_old _ h.f0
  have HS := Lib.hid (hs (.mapIter (some R) 1 #[0] 1))
  clear h ht hs hone
  simp only [Option.map_some, oneClock] at r1
  unfold Fil.ptr at n1 e1
  go_enter Tryz.func100, Tryz.ntmps100
  go_wp2
  refine wp_loop_rounds 2 ?_
  rw [rounds_succ]
  go_wp2
  rw [rounds_succ]
  go_wp2
  go_ret
  exact ⟨by simp, HS.out⟩
end Go.Proofs.YtfpjmeknjhhakaaGreat.K

/- The contracts of slices.Clone for bytes and of disk's with. -/
namespace Go.Proofs.YtfpjmeknjhhakaaGreat.K
open Go Go.RowKit Go.Maps

set_option maxHeartbeats 2000000 in
set_option maxRecDepth 100000 in
theorem clone8_any (A : Option Addr) (n c : Nat) (bs : List (BitVec 8)) (w : World) (hr : RowRd w ⟨A, n, c⟩ bs) (hn : n ≤ 100000000000) :
    Calls Tryz.prog 44 #[.slice A n c] w (MadeO w bs) := by
  have HR := Lib.hid hr
  cases A with
  | none =>
    have hb : bs = [] := Rd.empty hr.rd
    have hn0 : n = 0 := by have h := hr.len; rw [hb] at h; exact h.symm
    have hc0 : c = 0 := hr.none rfl
    subst hb hn0 hc0
    clear hr
    have hnil := fun w => Lib.run_eql_slice_nil (P := Tryz.prog) w 37 5 Option.none 0 0 0 0 Tryz.underlying37
    go_enter Tryz.func44, Tryz.ntmps44
    go_wp2
    go_ret
    exact ⟨none, 0, 0, rfl, rfl, World.ownsRow_nil _ _ _ _, Below.refl _ _⟩
  | some a =>
    have BKL := Lib.hid (Bank.lit0 (Bank.nil (Below.refl w.heap.size w)) 5)
    have RL := Lib.hid (Since.row BKL.out.since HR.out)
    clear hr
    have hnil := fun w => Lib.run_eql_slice_nil (P := Tryz.prog) w 37 5 (some a) n c 0 0 Tryz.underlying37
    go_enter Tryz.func44, Tryz.ntmps44
    go_wp2_with (at_builtin; refine wpList_append_bytes BKL.out rfl _ _ 37 rfl 5 infoByte Tryz.underlying37 0 _ _ _ [] rfl rfl _ _ _ _ rfl RL.out (by omega) ?_; intro A4 n4 c4 w4 hn4 hB4; dsimp only [List.set] at hB4; rw [List.nil_append] at hB4; have HB4 := Lib.hid hB4; clear hn4 hB4)
    go_ret
    exact ⟨A4, n4, c4, rfl, (RowRd.of_row (HB4.out.at 0 rfl)).len.symm, HB4.out.at 0 rfl, HB4.out.since⟩
set_option maxRecDepth 100000 in
theorem with_nil (w : World) (s : ByteArray) (v : Value) : Calls Tryz.prog 42 #[.pointer none, .string s, v] w fun e w' => e = .returned (.int .i64 1) ∧ w = w' := by
  go_enter Tryz.func42, Tryz.ntmps42
  go_wp2_with (go_at_call 46; refine (known_nil _).mono ?_; rintro e w' ⟨rfl, rfl⟩)
  go_ret
  exact ⟨rfl, rfl⟩
set_option maxHeartbeats 1000000 in
set_option maxRecDepth 100000 in
theorem with_none (w0 w : World) (D R : Nat) (room : Int) (L : List Acc) (v : Value) (h : Dk w0 w D R room none L) :
    Calls Tryz.prog 42 #[.pointer (some ⟨D, 0, none⟩), .string storeS, v] w fun e w' => e = .returned (.int .i64 6) ∧ w = w' := by
  have c0 := h.c0
  have HD := Lib.hid h.disk
  have l1 := look_nothing (P := Tryz.prog) Tryz.underlying67 Tryz.underlying9 (s := storeS) (by decide) (z := .pointer none) (by kernel_rfl) h.one
  clear h
  generalize storeS = s at *
  go_enter Tryz.func42, Tryz.ntmps42
  go_wp2_with (go_at_call 46; refine (known_any D R room _ HD.out).mono ?_; rintro e w' ⟨rfl, rfl⟩)
  go_ret
  exact ⟨rfl, rfl⟩
set_option maxHeartbeats 2000000 in
set_option maxRecDepth 100000 in
theorem with_some (w0 w : World) (D R : Nat) (room : Int) (f : Fil) (L : List Acc) (h : Dk w0 w D R room (some f) L) (fid : FuncId) (cap : Array Value) (v : Value) (Z : World → Prop)
    (hfc : (fid = 86 ∧ cap = #[]) ∨ (fid = 43 ∧ ∃ p, cap = #[p]) ∨ (fid = 64 ∧ ∃ p, cap = #[p]))
    (hc : Calls Tryz.prog fid (#[.pointer (some ⟨f.g, 0, none⟩)] ++ cap) w fun e w' => e = .returned v ∧ Z w') :
    Calls Tryz.prog 42 #[.pointer (some ⟨D, 0, none⟩), .string storeS, .func (.func fid) #[] cap] w fun e w' => e = .returned v ∧ Z w' := by
  have c0 := h.c0
  have HD := Lib.hid h.disk
  have l1 := look_one (P := Tryz.prog) Tryz.underlying67 Tryz.underlying9 (s := storeS) (by decide) (v := f.ptr) h.one
  clear h
  unfold Fil.ptr at l1
  have HC := Lib.hid hc
  clear hc
  generalize storeS = s at *
  rcases hfc with ⟨rfl, rfl⟩ | ⟨rfl, p, rfl⟩ | ⟨rfl, p, rfl⟩
  all_goals
    simp only [List.append_toArray, List.cons_append, List.nil_append, List.append_nil] at HC
    go_enter Tryz.func42, Tryz.ntmps42
    go_wp2_with (go_at_call 46; refine (known_any D R room _ HD.out).mono ?_; rintro e w' ⟨rfl, rfl⟩)
    refine HC.out.mono ?_
    rintro e w' ⟨rfl, hz⟩
    have HZ := Lib.hid hz
    clear hz
    go_wp2
    go_ret
    exact ⟨rfl, HZ.out⟩
end Go.Proofs.YtfpjmeknjhhakaaGreat.K

/- The contracts of disk's Sync, Read, Cut and of a file's cut. -/
namespace Go.Proofs.YtfpjmeknjhhakaaGreat.K
open Go Go.RowKit Go.Maps

section
variable {w0 w w' : World} {D R : Nat} {room : Int} {o : Option Fil} {f : Fil} {L L' : List Acc}
theorem Dk.fcases (h : Dk w0 w D R room (some f) L) : (f.A = none ∧ f.n = 0 ∧ f.c = 0 ∧ f.bs = []) ∨ ∃ g, f.A = some ⟨g, 0, none⟩ ∧ f.n ≤ f.c ∧ f.c ≤ maxLen := by
  have h1 := h.side.bank.at 2 rfl
  rcases h1.2 with ⟨h0, h2⟩ | ⟨g, cap, cur, hv, _, _, h3, h4, _⟩
  · left
    replace h0 : Value.slice f.A f.n f.c = .slice none 0 0 := h0
    simp only [Value.slice.injEq] at h0
    have h5 := h.flen
    rw [h0.2.1] at h5
    exact ⟨h0.1, h0.2.1, h0.2.2, List.eq_nil_of_length_eq_zero h5⟩
  · right
    replace hv : Value.slice f.A f.n f.c = .slice (some ⟨g, 0, none⟩) f.n cap := hv
    simp only [Value.slice.injEq, true_and] at hv
    rw [← hv.2] at h3 h4
    exact ⟨g, hv.1, h3, h4⟩
theorem Dk.setSafe (h : Dk w0 w D R room (some f) L) (k : Nat) : Dk w0 (w.setCell ⟨f.g, 1, none⟩ (.int .i64 (k : Int))) D R room (some { f with safe := k }) L := h.side.boxSet 1 rfl 1 _
/-- the file's bytes are others, in a row that was made -/
theorem Dk.refile {A : Option Addr} {n c : Nat} {bs : List (BitVec 8)} (h : Dk w0 w D R room (some f) (rowAcc A n c bs :: L)) (k : Nat) :
    Dk w0 ((w.setCell ⟨f.g, 0, none⟩ (.slice A n c)).setCell ⟨f.g, 1, none⟩ (.int .i64 (k : Int))) D R room (some ⟨f.g, A, n, c, bs, k⟩) L :=
  ((h.side.boxSet 1 rfl 0 (.slice A n c)).boxSet 1 rfl 1 (.int .i64 (k : Int))).sub (.cons_cons _ (.cons_cons _ (.cons _ (List.Sublist.refl _))))
end
set_option maxHeartbeats 1000000 in
set_option maxRecDepth 100000 in
theorem sync1_any (w0 w : World) (D R : Nat) (room : Int) (f : Fil) (L : List Acc) (h : Dk w0 w D R room (some f) L) :
    Calls Tryz.prog 86 #[.pointer (some ⟨f.g, 0, none⟩)] w fun e w' => e = .returned (.int .i64 0) ∧ Dk w0 w' D R room (some { f with safe := f.n }) L := by
  have f0 := h.f0
  have f1 := h.f1
  have z1 := h.ffree 1
  have HF := Lib.hid (h.setSafe f.n)
  clear h
  go_enter Tryz.func86, Tryz.ntmps86
  go_wp2
  go_ret
  exact ⟨rfl, HF.out⟩
set_option maxHeartbeats 1000000 in
set_option maxRecDepth 100000 in
theorem dSync_some (w0 w : World) (D R : Nat) (room : Int) (f : Fil) (L : List Acc) (h : Dk w0 w D R room (some f) L) :
    Calls Tryz.prog 58 #[.pointer (some ⟨D, 0, none⟩), .string storeS] w fun e w' => e = .returned (.int .i64 0) ∧ Dk w0 w' D R room (some { f with safe := f.n }) L := by
  have HC := Lib.hid (with_some w0 w D R room f L h 86 #[] (.int .i64 0) (fun w' => Dk w0 w' D R room (some { f with safe := f.n }) L) (.inl ⟨rfl, rfl⟩) (sync1_any w0 w D R room f L h))
  clear h
  generalize storeS = s at *
  go_enter Tryz.func58, Tryz.ntmps58
  go_wp2_with fail
  refine HC.out.mono ?_
  rintro e w' ⟨rfl, hz⟩
  have HZ := Lib.hid hz
  clear hz HC
  go_wp2
  go_ret
  exact ⟨rfl, HZ.out⟩
set_option maxHeartbeats 1000000 in
set_option maxRecDepth 100000 in
theorem dSync_none (w0 w : World) (D R : Nat) (room : Int) (L : List Acc) (h : Dk w0 w D R room none L) :
    Calls Tryz.prog 58 #[.pointer (some ⟨D, 0, none⟩), .string storeS] w fun e w' => e = .returned (.int .i64 6) ∧ w = w' := by
  have HC := Lib.hid (with_none w0 w D R room L (.func (.func 86) #[] #[]) h)
  clear h
  generalize storeS = s at *
  go_enter Tryz.func58, Tryz.ntmps58
  go_wp2_with fail
  refine HC.out.mono ?_
  rintro e w' ⟨rfl, rfl⟩
  clear HC
  go_wp2
  go_ret
  exact ⟨rfl, rfl⟩
set_option maxHeartbeats 1000000 in
set_option maxRecDepth 100000 in
theorem read1_any (w0 w : World) (D R I : Nat) (room : Int) (f : Fil) (L : List Acc) (h : Dk w0 w D R room (some f) (boxAcc I 37 [.slice none 0 0] :: L)) (hn : f.n ≤ 100000000) :
    Calls Tryz.prog 43 #[.pointer (some ⟨f.g, 0, none⟩), .pointer (some ⟨I, 0, none⟩)] w fun e w' => e = .returned (.int .i64 0) ∧ ∃ A n c, Dk w0 w' D R room (some f) (rowAcc A n c f.bs :: boxAcc I 37 [.slice A n c] :: L) := by
  have f0 := h.f0
  have HC := Lib.hid (clone8_any f.A f.n f.c f.bs w h.frow (by omega))
  have H0 := Lib.hid h
  clear h
  go_enter Tryz.func43, Tryz.ntmps43
  go_wp2_with fail
  refine HC.out.mono ?_
  rintro e w1 ⟨A, n, c, rfl, hn1, ho, hb⟩
  have h1 := H0.out.madeB hb ho
  have x0 := h1.cell 1 rfl 0 rfl
  have z0 := h1.free 1 rfl 0
  have HF := Lib.hid (h1.boxSet 1 rfl 0 (.slice A n c))
  clear hn1 ho hb h1 H0
  go_wp2
  go_ret
  exact ⟨rfl, A, n, c, HF.out⟩
set_option maxHeartbeats 1000000 in
set_option maxRecDepth 100000 in
theorem dRead_some (w0 w : World) (D R : Nat) (room : Int) (f : Fil) (L : List Acc) (h : Dk w0 w D R room (some f) L) (hn : f.n ≤ 100000000) :
    Calls Tryz.prog 13 #[.pointer (some ⟨D, 0, none⟩), .string storeS] w fun e w' => ∃ A n c, e = .returned (.tuple #[.slice A n c, .int .i64 0]) ∧ Dk w0 w' D R room (some f) (rowAcc A n c f.bs :: L) := by
  have h1 := h.box #[.slice none 0 0] 37 (by simp)
  have HC := Lib.hid (with_some w0 _ D R room f _ h1 43 #[.pointer (some ⟨w.heap.size, 0, none⟩)] (.int .i64 0) _ (.inr (.inl ⟨rfl, _, rfl⟩)) (read1_any w0 _ D R w.heap.size room f L h1 hn))
  clear h h1
  generalize storeS = s at *
  go_enter Tryz.func13, Tryz.ntmps13
  go_wp2_with fail
  refine HC.out.mono ?_
  rintro e w1 ⟨rfl, A, n, c, hz⟩
  have x0 := hz.cell 1 rfl 0 rfl
  have z0 := hz.free 1 rfl 0
  have HZ := Lib.hid ((hz.boxSet 1 rfl 0 (.slice A n c)).sub (.cons_cons _ (.cons _ (List.Sublist.refl _))))
  have y0 := (hz.boxSet 1 rfl 0 (.slice A n c)).cell 1 rfl 0 rfl
  clear hz HC
  go_wp2
  refine bodyPost_ret (v := .tuple #[.slice A n c, .int .i64 0]) ?_ rfl ⟨A, n, c, rfl, HZ.out⟩
  simp [results, Tryz.results13, go_sem, y0]
set_option maxHeartbeats 1000000 in
set_option maxRecDepth 100000 in
theorem dRead_none (w0 w : World) (D R : Nat) (room : Int) (L : List Acc) (h : Dk w0 w D R room none L) :
    Calls Tryz.prog 13 #[.pointer (some ⟨D, 0, none⟩), .string storeS] w fun e w' => e = .returned (.tuple #[.slice none 0 0, .int .i64 6]) ∧ Dk w0 w' D R room none L := by
  have h1 := h.box #[.slice none 0 0] 37 (by simp)
  have HC := Lib.hid (with_none w0 _ D R room _ (.func (.func 43) #[] #[.pointer (some ⟨w.heap.size, 0, none⟩)]) h1)
  have HZ := Lib.hid (h1.sub (.cons _ (List.Sublist.refl _)))
  have y0 := h1.cell 0 rfl 0 rfl
  clear h h1
  generalize storeS = s at *
  go_enter Tryz.func13, Tryz.ntmps13
  go_wp2_with fail
  refine HC.out.mono ?_
  rintro e w1 ⟨rfl, rfl⟩
  go_wp2
  refine bodyPost_ret (v := .tuple #[.slice none 0 0, .int .i64 6]) ?_ rfl ⟨rfl, HZ.out⟩
  simp [results, Tryz.results13, go_sem, y0]
theorem grown_twoD {w w1 : World} (hb : Below w.heap.size w w1) (g i j : Nat) (u v : Value) : w.grownBy ((w1.setCell ⟨g, i, none⟩ u).setCell ⟨g, j, none⟩ v) (some g) := by
  have h2 := grownBy_setCell w1 g i u
  have h3 := grownBy_setCell (w1.setCell ⟨g, i, none⟩ u) g j v
  exact ⟨h3.os.trans (h2.os.trans hb.os), h3.tape.trans (h2.tape.trans hb.tape), h3.output.trans (h2.output.trans hb.output), Nat.le_trans hb.size (Nat.le_trans h2.size h3.size),
    fun k hk hne => (h3.block k (Nat.lt_of_lt_of_le hk (Nat.le_trans hb.size h2.size)) hne).trans ((h2.block k (Nat.lt_of_lt_of_le hk hb.size) hne).trans (hb.block k hk))⟩
set_option maxHeartbeats 1000000 in
set_option maxRecDepth 100000 in
theorem cutG_any (w0 w : World) (D R : Nat) (room : Int) (f : Fil) (L : List Acc) (h : Dk w0 w D R room (some f) L) (k : Nat) (hk : k ≤ f.n) (hn : f.n ≤ 100000000) :
    Calls Tryz.prog 47 #[.pointer (some ⟨f.g, 0, none⟩), .int .i64 (k : Int)] w fun e w' => e = .returned (.tuple #[]) ∧ ∃ A c, Dk w0 w' D R room (some ⟨f.g, A, k, c, f.bs.take k, k⟩) L ∧ w.grownBy w' (some f.g) := by
  have f0 := h.f0
  have z0 := h.ffree 0
  have z1 := h.ffree 1
  have H0 := Lib.hid h
  have k0 : (0 : Int) ≤ (k : Int) := by omega
  have k1 : (k : Int) ≤ (f.n : Int) := by omega
  have hr := h.frow
  have hl := h.flen
  rcases h.fcases with ⟨hA, hn0, hc0, hb0⟩ | ⟨g, hA, hnc, hcm⟩
  · obtain ⟨fg, fA, fn, fc, fbs, fs⟩ := f
    simp only at hA hn0 hc0 hb0 hk f0 z0 z1
    subst hA hn0 hc0 hb0
    obtain rfl : k = 0 := by omega
    have HC := Lib.hid (clone8_any none 0 0 [] w hr (by omega))
    clear h hr hl
    go_enter Tryz.func47, Tryz.ntmps47
    go_wp2_with fail
    refine HC.out.mono ?_
    rintro e w1 ⟨A, n, c, rfl, hn1, ho, hb⟩
    obtain rfl : n = 0 := hn1
    have h1 := H0.out.madeB hb ho
    have f0 := h1.f0
    have f1 := h1.f1
    have z0 := h1.ffree 0
    have z1 := h1.ffree 1
    have HF := Lib.hid (h1.refile 0)
    have HG := Lib.hid (grown_twoD hb fg 0 1 (.slice A 0 c) (.int .i64 ((0 : Nat) : Int)))
    clear ho hb h1 H0
    go_wp2
    go_end0
    exact ⟨rfl, A, c, HF.out, HG.out⟩
  · obtain ⟨fg, fA, fn, fc, fbs, fs⟩ := f
    simp only at hA hnc hcm hk f0 z0 z1 k1 hl hr hn
    subst hA
    have kc : (k : Int) ≤ (fc : Int) := by omega
    have kcn : k ≤ fc := by omega
    have hr2 : RowRd w ⟨some ⟨g, 0, none⟩, k, fc⟩ (fbs.take k) := ⟨fun j hj => by
      rw [List.length_take] at hj
      obtain ⟨b', o', e, hc⟩ := hr.rd j (by omega)
      obtain ⟨rfl, rfl⟩ : g = b' ∧ 0 = o' := by simpa using e
      refine ⟨g, 0, rfl, ?_⟩
      rw [hc, List.getElem_take], by show _ = k; rw [List.length_take]; omega, fun h => by cases h⟩
    have HC := Lib.hid (clone8_any (some ⟨g, 0, none⟩) k fc (fbs.take k) w hr2 (by omega))
    have HL := Lib.hid hl
    clear h hr hl hr2
    go_enter Tryz.func47, Tryz.ntmps47
    go_wp2_with fail
    refine HC.out.mono ?_
    rintro e w1 ⟨A, n, c, rfl, hn1, ho, hb⟩
    obtain rfl : n = k := by have hl := HL.out; rw [hn1, List.length_take]; omega
    have h1 := H0.out.madeB hb ho
    have f0 := h1.f0
    have f1 := h1.f1
    have z0 := h1.ffree 0
    have z1 := h1.ffree 1
    have HF := Lib.hid (h1.refile n)
    have HG := Lib.hid (grown_twoD hb fg 0 1 (.slice A n c) (.int .i64 (n : Int)))
    clear hn1 ho hb h1 H0
    go_wp2
    go_end0
    exact ⟨rfl, A, c, HF.out, HG.out⟩
theorem cut_any (w0 w : World) (D R : Nat) (room : Int) (f : Fil) (L : List Acc) (h : Dk w0 w D R room (some f) L) (k : Nat) (hk : k ≤ f.n) (hn : f.n ≤ 100000000) :
    Calls Tryz.prog 47 #[.pointer (some ⟨f.g, 0, none⟩), .int .i64 (k : Int)] w fun e w' => e = .returned (.tuple #[]) ∧ ∃ A c, Dk w0 w' D R room (some ⟨f.g, A, k, c, f.bs.take k, k⟩) L :=
  (cutG_any w0 w D R room f L h k hk hn).mono fun _ _ ⟨he, A, c, h, _⟩ => ⟨he, A, c, h⟩
end Go.Proofs.YtfpjmeknjhhakaaGreat.K

/- The contracts of disk's Cut, Append and Crash. -/
namespace Go.Proofs.YtfpjmeknjhhakaaGreat.K
open Go Go.RowKit Go.Maps

set_option maxHeartbeats 1000000 in
set_option maxRecDepth 100000 in
theorem cut1_any (w0 w : World) (D R I : Nat) (room : Int) (f : Fil) (L : List Acc) (k : Nat) (h : Dk w0 w D R room (some f) (boxAcc I 3 [.int .i64 (k : Int)] :: L)) (hk : k ≤ f.n) (hn : f.n ≤ 100000000) :
    Calls Tryz.prog 64 #[.pointer (some ⟨f.g, 0, none⟩), .pointer (some ⟨I, 0, none⟩)] w fun e w' => e = .returned (.int .i64 0) ∧ ∃ A c, Dk w0 w' D R room (some ⟨f.g, A, k, c, f.bs.take k, k⟩) (boxAcc I 3 [.int .i64 (k : Int)] :: L) := by
  have i0 := h.cell 0 rfl 0 rfl
  have f0 := h.f0
  have k0 : ¬ (k : Int) < 0 := by omega
  have k1 : ¬ (f.n : Int) < (k : Int) := by omega
  have H0 := Lib.hid h
  clear h
  go_enter Tryz.func64, Tryz.ntmps64
  go_wp2_with fail
  have ri0 := cell_regrown i0
  have rf0 := cell_regrown f0
  have d0 : decide ((k : Int) < 0) = false := by simp
  have d1 : decide ((f.n : Int) < (k : Int)) = false := by simpa using k1
  clear i0 f0
  refine wp_region_quiet_below (by kernel_rfl) (by kernel_rfl) ?_
  repeat (refine @wpQuiet_step _ _ _ _ _ _ _ ?_; intro K hK; go_simp; (refine hK _ ?_; clear hK K))
  refine wpQuiet_nil ?_
  intro _ hw'
  obtain ⟨⟨dq, osq⟩, hw''⟩ := hw'
  subst hw''
  have i0 := ri0 dq osq
  have HC := Lib.hid (cut_any w0 _ D R room f _ (H0.out.call (below_regrown w dq osq)) k hk hn)
  clear ri0 rf0 H0 d0 d1
  go_wp2_with fail
  refine HC.out.mono ?_
  rintro e w1 ⟨rfl, A, c, hz⟩
  have HZ := Lib.hid hz
  clear hz HC
  go_wp2
  go_ret
  exact ⟨rfl, A, c, HZ.out⟩
set_option maxHeartbeats 1000000 in
set_option maxRecDepth 100000 in
theorem dCut_some (w0 w : World) (D R : Nat) (room : Int) (f : Fil) (L : List Acc) (k : Nat) (h : Dk w0 w D R room (some f) L) (hk : k ≤ f.n) (hn : f.n ≤ 100000000) :
    Calls Tryz.prog 28 #[.pointer (some ⟨D, 0, none⟩), .string storeS, .int .i64 (k : Int)] w fun e w' => e = .returned (.int .i64 0) ∧ ∃ A c, Dk w0 w' D R room (some ⟨f.g, A, k, c, f.bs.take k, k⟩) L := by
  have h1 := h.box #[.int .i64 (k : Int)] 3 (by simp)
  have HC := Lib.hid (with_some w0 _ D R room f _ h1 64 #[.pointer (some ⟨w.heap.size, 0, none⟩)] (.int .i64 0) _ (.inr (.inr ⟨rfl, _, rfl⟩)) (cut1_any w0 _ D R w.heap.size room f L k h1 hk hn))
  clear h h1
  generalize storeS = s at *
  go_enter Tryz.func28, Tryz.ntmps28
  go_wp2_with fail
  refine HC.out.mono ?_
  rintro e w1 ⟨rfl, A, c, hz⟩
  have HZ := Lib.hid (hz.sub (.cons _ (List.Sublist.refl _)))
  clear hz HC
  go_wp2
  go_ret
  exact ⟨rfl, A, c, HZ.out⟩
end Go.Proofs.YtfpjmeknjhhakaaGreat.K

/- The contract of disk's Append. -/
namespace Go.Proofs.YtfpjmeknjhhakaaGreat.K
open Go Go.RowKit Go.Maps

/-- bytes put behind a row of the bank's, beside a block of its own -/
theorem wpList_append_side {P : Program} {w0 w : World} {R : Nat} {ob : Obj} {L : List Acc} {ops : Array Oper} {rest : List Oper} {o : Oper} {a : Act} {Q : Exit → Act → World → Prop} (h : Side w0 w R ob L) (hgd : o.guard = Option.none) (s y : Operand) (t : TypeId)
    (ho : o.op = .call { callee := .builtin .append, args := #[s, y], argTypes := #[t, t] })
    (hz : (P.info? 5).map (fun i => (i.zero, i.size, i.bytes)) = some (some (.int .u8 0), 1, 1)) (ht : P.underlying t = some (.slice 5)) (k : Nat) (A : Option Addr) (n cap : Nat) (bs : List (BitVec 8)) (hs : a.eval s = .slice A n cap) (hk : L[k]? = some (rowAcc A n cap bs))
    (ao : Option Addr) (m c : Nat) (news : List (BitVec 8)) (hx : a.eval y = .slice ao m c) (hr : RowRd w ⟨ao, m, c⟩ news) (hb : n + m ≤ 140737488355328)
    (hK : ∀ A' n' c' w', n' = n + m → Side w0 w' R ob (L.set k (rowAcc A' n' c' (bs ++ news))) → wpList P ops Q rest (a.put o.dst (.slice A' n' c')) w') : wpList P ops Q (o :: rest) a w := by
  obtain ⟨i0, hi, hz0, hz1, hz2⟩ := info_parts hz
  obtain ⟨r1, r2, r3⟩ := hr.src
  refine wpList_plain hgd fun K hK' => ?_
  cases ao with
  | none =>
    obtain ⟨hm, _⟩ := r1 rfl
    replace hm : m = 0 := hm
    subst hm
    have hn : news = [] := Rd.empty hr.rd
    subst hn
    have hrun := run_append_owned_none (P := P) w w0.heap.size t o.type 5 i0 1 ht hi (.slice A n cap) n (bv bs) (h.bank.at k hk)
    have hc : c = 0 := hr.none rfl
    subst hc
    unfold Oper.wp execOp
    simp only [ho, resolve, invoke, builtin, Sem.run_bind, Sem.run_pure, Result.andThen_ok, List.map_toArray, List.map_cons, List.map_nil, hs, hx, hrun]
    refine hK' _ _ (hK A n cap w rfl ?_)
    rw [List.append_nil]
    have : L.set k (rowAcc A n cap bs) = L := by
      apply List.ext_getElem?
      intro j
      rw [List.getElem?_set]
      split
      · rename_i e; subst e; split
        · exact hk.symm
        · rename_i hlt; rw [List.getElem?_eq_none (by omega)]
      · rfl
    rw [this]
    exact h
  | some ad =>
    obtain ⟨A', c', w', hr, h2, h3, h4⟩ := run_append_bankG (P := P) h.bank t o.type 5 i0 _ 1 1 ht hi hz0 hz1 hz2 rfl (by decide) k A n cap (bv bs) hk ad m c (bv news) r2 (r3 ad rfl) (bv_one _) (by unfold maxLen; omega) (by omega)
    rw [← bv_append] at h2
    unfold Oper.wp execOp
    simp only [ho, resolve, invoke, builtin, Sem.run_bind, Sem.run_pure, Result.andThen_ok, List.map_toArray, List.map_cons, List.map_nil, hs, hx, hr]
    exact hK' _ _ (hK A' _ c' w' rfl (h.put k hk h2 h3 h4))
theorem grownBy_setBlock (w : World) (g : Nat) (o : Obj) : w.grownBy (Go.ChangeMaps.setBlock w g o) (some g) :=
  ⟨rfl, rfl, rfl, by show w.heap.size ≤ (w.heap.setIfInBounds g o).size; simp, fun k hk hne => by
    show (w.heap.setIfInBounds g o)[k]? = _
    rw [Array.getElem?_setIfInBounds, if_neg (fun e => hne (by rw [e]))]⟩
theorem setBlock_at {w : World} {g : Nat} (o : Obj) (h : g < w.heap.size) : (Go.ChangeMaps.setBlock w g o).heap[g]? = some o := by
  show (w.heap.setIfInBounds g o)[g]? = _
  rw [Array.getElem?_setIfInBounds, if_pos rfl, if_pos h]
def AppPost (w0 : World) (D R : Nat) (room : Int) (o : Option Fil) (L : List Acc) (m : Nat) (bs : List (BitVec 8)) (e : Ending) (w' : World) : Prop :=
  (8388608 < olen o + m ∧ e = .returned (.int .i64 3) ∧ Dk w0 w' D R room o L) ∨
  (¬ 8388608 < olen o + m ∧ room < ((olen o + m : Nat) : Int) ∧ e = .returned (.int .i64 5) ∧ Dk w0 w' D R room o L) ∨
  (¬ 8388608 < olen o + m ∧ ¬ room < ((olen o + m : Nat) : Int) ∧ e = .returned (.int .i64 0) ∧ ∃ g A c, Dk w0 w' D R room (some ⟨g, A, olen o + m, c, obytes o ++ bs, osafe o⟩) L)
set_option maxHeartbeats 2000000 in
set_option maxRecDepth 100000 in
theorem appF_any (w0 w : World) (D R : Nat) (room : Int) (f : Fil) (L : List Acc) (B : Option Addr) (m c : Nat) (bs : List (BitVec 8)) (h : Dk w0 w D R room (some f) L) (hr : RowRd w ⟨B, m, c⟩ bs) (hn : f.n ≤ 100000000) (hm : m ≤ 100000000) :
    Calls Tryz.prog 78 #[.pointer (some ⟨D, 0, none⟩), .string storeS, .slice B m c] w (AppPost w0 D R room (some f) L m bs) := by
  have H0 := Lib.hid h
  have S0 := Lib.hid (Since.alloc (Below.refl w.heap.size w) (.cells #[.string storeS] 9))
  have HR := Lib.hid hr
  have HKN := Lib.hid (known_any D R room w h.disk)
  have HRT := Lib.hid (right_store w.heap.size 1 (w.alloc (.cells #[.string storeS] 9)) (by rw [World.cell?_alloc_new]; rfl))
  have ht := Tryz.underlying67
  have hk := Tryz.underlying9
  have hsz : storeS.size ≤ maxLen := by decide
  have HLK := Lib.hid (fun w' (h : Dk w0 w' D R room (some f) L) => look_one (P := Tryz.prog) ht hk hsz (v := f.ptr) h.one)
  have HPT := Lib.hid (fun w' A n c bs sf (h : Dk w0 w' D R room (some ⟨f.g, A, n, c, bs, sf⟩) L) => put_again (P := Tryz.prog) ht hk hsz f.ptr h.one)
  have k8 : (f.n : Int) + (m : Int) ≤ 9223372036854775807 := by omega
  have k9 : (-9223372036854775808 : Int) ≤ (f.n : Int) + (m : Int) := by omega
  clear h hr ht hk hsz
  go_enter Tryz.func78, Tryz.ntmps78
  go_wp2_with (go_at_call 46; refine HKN.out.mono ?_; rintro e w' ⟨rfl, rfl⟩)
  refine HRT.out.mono ?_
  rintro e w2 ⟨rfl, hs2⟩
  have H2 := Lib.hid (H0.out.call (S0.out.add hs2))
  have R2 := Lib.hid (Since.row (S0.out.add hs2) HR.out)
  clear hs2 H0 S0 HR HRT HKN
  have c0 := H2.out.c0
  have c1 := H2.out.c1
  have f0 := H2.out.f0
  have f1 := H2.out.f1
  have l1 := HLK.out w2 H2.out
  unfold Fil.ptr at l1
  generalize storeS = s at *
  by_cases h8 : 8388608 < f.n + m
  · have i8 : (8388608 : Int) < (f.n : Int) + (m : Int) := by omega
    have HFIN := Lib.hid (show AppPost w0 D R room (some f) L m bs (.returned (.int .i64 3)) w2 from .inl ⟨h8, rfl, H2.out⟩)
    clear H2 HPT HLK
    go_wp2
    go_ret
    exact HFIN.out
  · have i8 : ¬ (8388608 : Int) < (f.n : Int) + (m : Int) := by omega
    have d8 : decide ((8388608 : Int) < (f.n : Int) + (m : Int)) = false := by simpa using i8
    go_wp2_with fail
    have hwr : IntKind.i64.wrap ((f.n : Int) + (m : Int)) = (f.n : Int) + (m : Int) := IntWalk.i64_in _ (by omega)
    have rc1 := cell_regrown c1
    have HU := Lib.hid (fun dq osq => used_some w0 _ D R room f L (H2.out.call (below_regrown w2 dq osq)) (by omega))
    clear c0 c1 f0 f1 l1
    refine wp_region_quiet_below (by kernel_rfl) (by kernel_rfl) ?_
    repeat (refine @wpQuiet_step _ _ _ _ _ _ _ ?_; intro K hK; go_simp; first | (refine hK _ ?_; clear hK K) | (apply Exists.intro; refine ⟨fun _ => ?_, hK _ ?_⟩; (with_reducible exact Calls.regrown_of (HU.out _ _)); clear hK K))
    refine wpQuiet_nil ?_
    intro _ hw'
    obtain ⟨⟨dq, osq⟩, hw''⟩ := hw'
    subst hw''
    have hd3 := H2.out.call (below_regrown w2 dq osq)
    have hr3 := Since.row (below_regrown w2 dq osq) R2.out
    have H3 := Lib.hid hd3
    have R3 := Lib.hid hr3
    clear rc1 HU H2 R2 hd3 hr3 hwr
    by_cases h9 : room < ((f.n + m : Nat) : Int)
    · have i9 : room < (f.n : Int) + (m : Int) := by omega
      have HFIN := Lib.hid (fun w' hw => (show AppPost w0 D R room (some f) L m bs (.returned (.int .i64 5)) w' from .inr (.inl ⟨h8, h9, rfl, H3.out.call hw⟩)))
      clear HPT HLK
      go_wp2
      go_ret
      exact HFIN.out _ (Below.refl _ _)
    · have i9 : ¬ room < (f.n : Int) + (m : Int) := by omega
      have d9 : decide (room < (f.n : Int) + (m : Int)) = false := by simpa using i9
      have f0 := H3.out.f0
      have H8 := Lib.hid h8
      have H9 := Lib.hid h9
      go_wp2_with (at_builtin; go_loud (refine wpList_append_side H3.out.side rfl _ _ 37 rfl infoByte Tryz.underlying37 2 f.A f.n f.c f.bs rfl rfl _ _ _ _ rfl R3.out (by omega) ?_; intro A' n' c' w4 hn' hB; dsimp only [List.set, filAccs, List.cons_append, List.nil_append] at hB; have h5 := hB.boxSet 1 rfl 0 (.slice A' n' c'); have h6 : Dk w0 _ D R room (some ⟨f.g, A', n', c', f.bs ++ bs, f.safe⟩) L := h5; have f0 := hB.bank.cell 1 rfl 0 rfl; have z0 := hB.bank.free 1 rfl 0; have c0 := hB.bank.cell 0 rfl 0 rfl; have c1 := h6.c0; have p1 := HPT.out _ _ _ _ _ _ h6; unfold Fil.ptr at p1; have H6 := Lib.hid h6; have HN := Lib.hid hn'; clear hB hn' h5 h6 H3 R3 HPT HLK))
      go_ret
      have hn2 := HN.out
      subst hn2
      exact .inr (.inr ⟨H8.out, Int.not_lt.2 H9.out, rfl, f.g, A', c', H6.out⟩)
/-- a file comes into the map -/
theorem Dk.first {w0 w : World} {D R : Nat} {room : Int} {f : Fil} {L : List Acc} (h : Dk w0 w D R room none (f.box :: f.row :: L)) : Dk w0 (Go.ChangeMaps.setBlock w R (.map (oneEs storeS (some f.ptr)) 1)) D R room (some f) L :=
  h.side.over (grownBy_setBlock w R _) (setBlock_at _ h.side.lt)
theorem Dk.none' {w0 w : World} {D R : Nat} {room : Int} {o : Option Fil} {L : List Acc} (h : Dk w0 w D R room o L) : Dk w0 w D R room o (rowAcc none 0 0 [] :: L) :=
  (h.side.none 5 1).perm ((List.Perm.swap _ _ _).trans (.cons _ (List.perm_middle.symm)))
set_option maxHeartbeats 2000000 in
set_option maxRecDepth 100000 in
theorem appN_any (w0 w : World) (D R : Nat) (room : Int) (L : List Acc) (B : Option Addr) (m c : Nat) (bs : List (BitVec 8)) (h : Dk w0 w D R room none L) (hr : RowRd w ⟨B, m, c⟩ bs) (hm : m ≤ 100000000) :
    Calls Tryz.prog 78 #[.pointer (some ⟨D, 0, none⟩), .string storeS, .slice B m c] w (AppPost w0 D R room none L m bs) := by
  have H0 := Lib.hid h
  have S0 := Lib.hid (Since.alloc (Below.refl w.heap.size w) (.cells #[.string storeS] 9))
  have HR := Lib.hid hr
  have HKN := Lib.hid (known_any D R room w h.disk)
  have HRT := Lib.hid (right_store w.heap.size 1 (w.alloc (.cells #[.string storeS] 9)) (by rw [World.cell?_alloc_new]; rfl))
  have ht := Tryz.underlying67
  have hk := Tryz.underlying9
  have hsz : storeS.size ≤ maxLen := by decide
  have HLK := Lib.hid (fun w' (h : Dk w0 w' D R room none L) => look_nothing (P := Tryz.prog) ht hk hsz (z := .pointer none) (by kernel_rfl) h.one)
  have HPT := Lib.hid (fun w' g L' (h : Dk w0 w' D R room none L') => put_first (P := Tryz.prog) ht hk hsz (.pointer (some ⟨g, 0, none⟩)) h.one)
  clear h hr ht hk hsz
  go_enter Tryz.func78, Tryz.ntmps78
  go_wp2_with (go_at_call 46; refine HKN.out.mono ?_; rintro e w' ⟨rfl, rfl⟩)
  refine HRT.out.mono ?_
  rintro e w2 ⟨rfl, hs2⟩
  have h2 := H0.out.call (S0.out.add hs2)
  have R2 := Lib.hid (Since.row (Since.alloc (S0.out.add hs2) (.cells #[.slice none 0 0, .int .i64 0] 98)) HR.out)
  have H2 := Lib.hid (h2.none'.box #[.slice none 0 0, .int .i64 0] 98 (by simp))
  clear hs2 H0 S0 HR HRT HKN
  have c0 := h2.c0
  have l1 := HLK.out w2 h2
  clear h2
  generalize hst : storeS = s at *
  by_cases h8 : 8388608 < m
  · have i8 : (8388608 : Int) < (m : Int) := by omega
    have HFIN := Lib.hid (show AppPost w0 D R room none L m bs (.returned (.int .i64 3)) _ from .inl ⟨by show 8388608 < 0 + m; omega, rfl, H2.out.sub (.cons _ (.cons _ (List.Sublist.refl _)))⟩)
    clear H2 HPT HLK hst
    go_wp2
    go_ret
    exact HFIN.out
  · have i8 : ¬ (8388608 : Int) < (m : Int) := by omega
    have d8 : decide ((8388608 : Int) < (m : Int)) = false := by simpa using i8
    have HST := Lib.hid hst
    clear hst
    go_wp2_with fail
    have hd2 := H2.out
    have hwr : IntKind.i64.wrap (m : Int) = (m : Int) := IntWalk.i64_in _ (by omega)
    have c1 := hd2.c1
    have rc1 := cell_regrown c1
    have HU := Lib.hid (fun dq osq => used_none w0 _ D R room _ (H2.out.call (below_regrown (w2.alloc (.cells #[.slice none 0 0, .int .i64 0] 98)) dq osq)))
    clear c0 c1 l1 hd2
    refine wp_region_quiet_below (by kernel_rfl) (by kernel_rfl) ?_
    repeat (refine @wpQuiet_step _ _ _ _ _ _ _ ?_; intro K hK; go_simp; first | (refine hK _ ?_; clear hK K) | (apply Exists.intro; refine ⟨fun _ => ?_, hK _ ?_⟩; (with_reducible exact Calls.regrown_of (HU.out _ _)); clear hK K))
    refine wpQuiet_nil ?_
    intro _ hw'
    obtain ⟨⟨dq, osq⟩, hw''⟩ := hw'
    subst hw''
    have hb3 := below_regrown (w2.alloc (.cells #[.slice none 0 0, .int .i64 0] 98)) dq osq
    have hd3 := H2.out.call hb3
    have hr3 := Since.row hb3 R2.out
    have H3 := Lib.hid hd3
    have R3 := Lib.hid hr3
    clear rc1 HU H2 R2 hd3 hr3 hwr hb3
    have H8 := Lib.hid h8
    by_cases h9 : room < (m : Int)
    · have HFIN := Lib.hid (fun w' hw => (show AppPost w0 D R room none L m bs (.returned (.int .i64 5)) w' from .inr (.inl ⟨by show ¬ 8388608 < 0 + m; have h8 := H8.out; omega, by show room < ((0 + m : Nat) : Int); omega, rfl, (H3.out.call hw).sub (.cons _ (.cons _ (List.Sublist.refl _)))⟩)))
      clear HPT HLK
      go_wp2
      go_ret
      exact HFIN.out _ (Below.refl _ _)
    · have d9 : decide (room < (m : Int)) = false := by simpa using h9
      have f0 := H3.out.cell 0 rfl 0 rfl
      have H9 := Lib.hid h9
      go_wp2_with (at_builtin; go_loud (refine wpList_append_side H3.out.side rfl _ _ 37 rfl infoByte Tryz.underlying37 2 none 0 0 [] rfl rfl _ _ _ _ rfl R3.out (by omega) ?_; intro A' n' c' w4 hn' hB; dsimp only [List.set, filAccs, List.cons_append, List.nil_append] at hB; have h5 := hB.boxSet 1 rfl 0 (.slice A' n' c'); have h6 : Dk w0 _ D R room none (Fil.box ⟨w2.heap.size, A', n', c', bs, 0⟩ :: Fil.row ⟨w2.heap.size, A', n', c', bs, 0⟩ :: L) := h5; have f0 := hB.bank.cell 1 rfl 0 rfl; have z0 := hB.bank.free 1 rfl 0; have c0 := hB.bank.cell 0 rfl 0 rfl; have c1 := h6.c0; have p1 := HPT.out _ w2.heap.size _ h6; have h7 := h6.first; rw [HST.out] at h7; have H6 := Lib.hid h7; clear h7; have HN := Lib.hid hn'; clear hB hn' h5 h6 H3 R3 HPT HLK))
      go_ret
      have hn2 := HN.out
      subst hn2
      exact .inr (.inr ⟨by show ¬ 8388608 < 0 + m; have h8 := H8.out; omega, by show ¬ room < ((0 + m : Nat) : Int); have h9 := H9.out; omega, rfl, w2.heap.size, A', c', H6.out⟩)
end Go.Proofs.YtfpjmeknjhhakaaGreat.K

/- The contract of disk's Crash. -/
namespace Go.Proofs.YtfpjmeknjhhakaaGreat.K
open Go Go.RowKit Go.Maps

/-- how much of the file stands behind a crash -/
def crashAt (safe keep n : Nat) : Nat := safe + min keep (n - safe)
set_option maxHeartbeats 1000000 in
set_option maxRecDepth 100000 in
theorem crash_none (w0 w : World) (D R : Nat) (room : Int) (L : List Acc) (k : Int) (h : Dk w0 w D R room none L) :
    Calls Tryz.prog 17 #[.pointer (some ⟨D, 0, none⟩), .int .i64 k] w fun e w' => e = .returned (.int .i64 0) ∧ Dk w0 w' D R room none L := by
  have c0 := h.c0
  have HKN := Lib.hid (known_any D R room w h.disk)
  have ht := Tryz.underlying67
  have r1 := range_one (P := Tryz.prog) ht h.one
  have hs : Since w (w.alloc (.mapIter (some R) 0 #[] 0)) := Since.alloc (Below.refl _ _) _
  have n1 := next_none (P := Tryz.prog) (ty := 0) (heap_alloc_new w (.mapIter (some R) 0 #[] 0)) (h.one.eq (hs.block R h.lt.2))
  have HS := Lib.hid (h.call hs)
  clear h ht hs
  simp only [Option.map_none, oneClock] at r1
  go_enter Tryz.func17, Tryz.ntmps17
  go_wp2_with (go_at_call 46; refine HKN.out.mono ?_; rintro e w' ⟨rfl, rfl⟩)
  refine wp_loop_rounds 1 ?_
  rw [rounds_succ]
  go_wp2
  go_ret
  exact ⟨rfl, HS.out⟩
set_option maxHeartbeats 4000000 in
set_option maxRecDepth 100000 in
theorem crash_at (w0 w : World) (D R : Nat) (room : Int) (f : Fil) (L : List Acc) (k q : Nat) (hq : q = crashAt f.safe k f.n) (h : Dk w0 w D R room (some f) L) (hs : f.safe ≤ f.n) (hn : f.n ≤ 100000000) (hk : k ≤ 100000000) :
    Calls Tryz.prog 17 #[.pointer (some ⟨D, 0, none⟩), .int .i64 (k : Int)] w fun e w' => e = .returned (.int .i64 0) ∧ ∃ A c, Dk w0 w' D R room (some ⟨f.g, A, q, c, f.bs.take q, q⟩) L := by
  have c0 := h.c0
  have HKN := Lib.hid (known_any D R room w h.disk)
  have ht := Tryz.underlying67
  have r1 := range_one (P := Tryz.prog) ht h.one
  have hs' : ∀ o, Since w (w.alloc o) := fun o => Since.alloc (Below.refl _ _) o
  have hone : ∀ o, IsOne (w.alloc o) R storeS (some f.ptr) := fun o => h.one.eq ((hs' o).block R h.lt.2)
  have n1 := next_one (P := Tryz.prog) (ty := 0) (heap_alloc_new w (.mapIter (some R) 1 #[] 1)) (hone _)
  have e1 := entry_one (P := Tryz.prog) (heap_alloc_new w (.mapIter (some R) 1 #[0] 1)) (hone _)
  rw [setBlock_allocQ] at n1
  have H1 := Lib.hid (h.call (hs' (.mapIter (some R) 1 #[0] 1)))
  have hit : (w.alloc (.mapIter (some R) 1 #[0] 1)).heap[w.heap.size]? = some (.mapIter (some R) 1 #[0] 1) := heap_alloc_new w _
  have HIT := Lib.hid hit
  have hne : f.g ≠ w.heap.size := fun e => by have h1 := (h.side.bank.lt (p := f.box) (b := f.g) (.tail _ (.head _)) rfl).2; omega
  have HNE := Lib.hid hne
  simp only [Option.map_some, oneClock] at r1
  unfold Fil.ptr at n1 e1
  clear h ht hs' hone hit hne
  go_enter Tryz.func17, Tryz.ntmps17
  go_wp2_with (go_at_call 46; refine HKN.out.mono ?_; rintro e w' ⟨rfl, rfl⟩)
  refine wp_loop_rounds 2 ?_
  rw [rounds_succ]
  go_wp2_with fail
  clear r1 n1 e1 c0 HKN
  generalize w.alloc (.mapIter (some R) 1 #[0] 1) = w1 at *
  generalize w.heap.size = X at *
  have hD := H1.out.drew
  have f0 := hD.f0
  have f1 := hD.f1
  have k0 : ¬ (k : Int) < 0 := by omega
  have hw1 : IntKind.i64.wrap ((f.n : Int) - (f.safe : Int)) = (f.n : Int) - (f.safe : Int) := IntWalk.i64_in _ (by omega)
  have hqn : q ≤ f.n := by rw [hq]; unfold crashAt; omega
  have hx : (∃ x : Int, (f.n : Int) - (f.safe : Int) < (k : Int) ∧ ¬ (k : Int) < (f.n : Int) - (f.safe : Int) ∧ x = (f.n : Int) - (f.safe : Int) ∧ IntKind.i64.wrap ((f.safe : Int) + ((f.n : Int) - (f.safe : Int))) = (q : Int)) ∨ (¬ (f.n : Int) - (f.safe : Int) < (k : Int) ∧ (k : Int) ≤ (f.n : Int) - (f.safe : Int) ∧ IntKind.i64.wrap ((f.safe : Int) + (k : Int)) = (q : Int)) := by
    rcases Nat.lt_or_ge (f.n - f.safe) k with h1 | h1
    · refine .inl ⟨_, by omega, by omega, rfl, ?_⟩
      rw [IntWalk.i64_in _ (by omega), hq]; unfold crashAt; omega
    · refine .inr ⟨by omega, by omega, ?_⟩
      rw [IntWalk.i64_in _ (by omega), hq]; unfold crashAt; omega
  have HQ := Lib.hid hq
  clear hq
  have HD := Lib.hid hD
  clear hD
  rcases hx with ⟨x, i1, i2, hx, hw2⟩ | ⟨i1, i2, hw2⟩
  all_goals
    refine WL.region (SApp 19 (fun w' => w'.cell? ⟨f.g, 0, none⟩ = some (.slice f.A f.n f.c) ∧ w'.cell? ⟨f.g, 1, none⟩ = some (.int .i64 (f.safe : Int))) (fun _ => True)) (by kernel_rfl) ?_
    try clear hx
    intro hsh
    have hS : SApp 19 (fun w' => w'.cell? ⟨f.g, 0, none⟩ = some (.slice f.A f.n f.c) ∧ w'.cell? ⟨f.g, 1, none⟩ = some (.int .i64 (f.safe : Int))) (fun _ => True) (Array.replicate 20 false) w1.drew := ⟨fun _ => ⟨f0, f1⟩, trivial⟩
    clear f0 f1
    refine WL.take (i := 0) (v := ?_) (S0 := fun _ => True) rfl (by kernel_rfl) (by kernel_rfl) (by kernel_rfl) (fun _ _ _ h => h) (SApp.hm (by decide)) (SApp.any) hsh (Or.inl ⟨by rfl, ?_⟩) hS ?_
    rotate_left
    · intro w hSw; clear hSw; go_simp <;> rfl
    clear hsh hS; intro hsh hS
    try simp only [Act.put, List.setIfInBounds_toArray]
    refine WL.take (i := 1) (v := ?_) (S0 := fun _ => True) rfl (by kernel_rfl) (by kernel_rfl) (by kernel_rfl) (fun _ _ _ h => h) (SApp.hm (by decide)) (SApp.any) hsh (Or.inl ⟨by rfl, ?_⟩) hS ?_
    rotate_left
    · intro w hSw; clear hSw; go_simp <;> rfl
    clear hsh hS; intro hsh hS
    try simp only [Act.put]
    refine WL.take (i := 2) (v := ?_) (S0 := fun _ => True) rfl (by kernel_rfl) (by kernel_rfl) (by kernel_rfl) (fun _ _ _ h => h) (SApp.hm (by decide)) (SApp.any) hsh (Or.inl ⟨by rfl, ?_⟩) hS ?_
    rotate_left
    · intro w hSw; clear hSw; go_simp <;> rfl
    clear hsh hS; intro hsh hS
    try simp only [Act.put]
    refine WL.take (i := 3) (v := ?_) (S0 := fun _ => True) rfl (by kernel_rfl) (by kernel_rfl) (by kernel_rfl) (fun _ _ _ h => h) (SApp.hm (by decide)) (SApp.any) hsh (Or.inl ⟨by rfl, ?_⟩) hS ?_
    rotate_left
    · intro w hSw; clear hSw; go_simp <;> rfl
    clear hsh hS; intro hsh hS
    try simp only [Act.put]
    refine WL.take (i := 4) (v := ?_) rfl (by kernel_rfl) (by kernel_rfl) (by kernel_rfl) (fun _ _ _ h => h) (SApp.hm (by decide)) (SApp.far [18, 4] (by kernel_rfl) rfl) hsh (Or.inl ⟨by rfl, ?_⟩) hS ?_
    rotate_left
    · intro w hSw; (have hc := hSw.1); clear hSw; go_simp <;> rfl
    clear hsh hS; intro hsh hS
    try simp only [Act.put]
    refine WL.take (i := 5) (v := ?_) (S0 := fun _ => True) rfl (by kernel_rfl) (by kernel_rfl) (by kernel_rfl) (fun _ _ _ h => h) (SApp.hm (by decide)) (SApp.any) hsh (Or.inl ⟨by rfl, ?_⟩) hS ?_
    rotate_left
    · intro w hSw; clear hSw; go_simp <;> rfl
    clear hsh hS; intro hsh hS
    try simp only [Act.put]
    refine WL.take (i := 6) (v := ?_) (S0 := fun _ => True) rfl (by kernel_rfl) (by kernel_rfl) (by kernel_rfl) (fun _ _ _ h => h) (SApp.hm (by decide)) (SApp.any) hsh (Or.inl ⟨by rfl, ?_⟩) hS ?_
    rotate_left
    · intro w hSw; clear hSw; go_simp <;> rfl
    clear hsh hS; intro hsh hS
    try simp only [Act.put]
    refine WL.take (i := 7) (v := ?_) (S0 := fun _ => True) rfl (by kernel_rfl) (by kernel_rfl) (by kernel_rfl) (fun _ _ _ h => h) (SApp.hm (by decide)) (SApp.any) hsh (Or.inl ⟨by rfl, ?_⟩) hS ?_
    rotate_left
    · intro w hSw; clear hSw; go_simp <;> rfl
    clear hsh hS; intro hsh hS
    try simp only [Act.put]
    refine WL.take (i := 8) (v := ?_) (S0 := fun _ => True) rfl (by kernel_rfl) (by kernel_rfl) (by kernel_rfl) (fun _ _ _ h => h) (SApp.hm (by decide)) (SApp.any) hsh (Or.inl ⟨by rfl, ?_⟩) hS ?_
    rotate_left
    · intro w hSw; clear hSw; go_simp <;> rfl
    clear hsh hS; intro hsh hS
    try simp only [Act.put]
    refine WL.take (i := 9) (v := ?_) (S0 := fun _ => True) rfl (by kernel_rfl) (by kernel_rfl) (by kernel_rfl) (fun _ _ _ h => h) (SApp.hm (by decide)) (SApp.any) hsh (Or.inl ⟨by rfl, ?_⟩) hS ?_
    rotate_left
    · intro w hSw; clear hSw; go_simp <;> rfl
    clear hsh hS; intro hsh hS
    try simp only [Act.put]
    refine WL.take (i := 10) (v := ?_) rfl (by kernel_rfl) (by kernel_rfl) (by kernel_rfl) (fun _ _ _ h => h) (SApp.hm (by decide)) (SApp.far [18, 17, 16, 11, 10] (by kernel_rfl) rfl) hsh (Or.inl ⟨by rfl, ?_⟩) hS ?_
    rotate_left
    · intro w hSw; (have hc := hSw.1); clear hSw; go_simp <;> rfl
    clear hsh hS; intro hsh hS
    try simp only [Act.put]
    refine WL.take (i := 11) (v := ?_) (S0 := fun _ => True) rfl (by kernel_rfl) (by kernel_rfl) (by kernel_rfl) (fun _ _ _ h => h) (SApp.hm (by decide)) (SApp.any) hsh (Or.inl ⟨by rfl, ?_⟩) hS ?_
    rotate_left
    · intro w hSw; clear hSw; go_simp <;> rfl
    clear hsh hS; intro hsh hS
    try simp only [Act.put]
    refine WL.take (i := 12) (v := ?_) (S0 := fun _ => True) rfl (by kernel_rfl) (by kernel_rfl) (by kernel_rfl) (fun _ _ _ h => h) (SApp.hm (by decide)) (SApp.any) hsh (Or.inl ⟨by rfl, ?_⟩) hS ?_
    rotate_left
    · intro w hSw; clear hSw; go_simp <;> rfl
    clear hsh hS; intro hsh hS
    try simp only [Act.put]
    refine WL.take (i := 13) (v := ?_) (S0 := fun _ => True) rfl (by kernel_rfl) (by kernel_rfl) (by kernel_rfl) (fun _ _ _ h => h) (SApp.hm (by decide)) (SApp.any) hsh (Or.inl ⟨by rfl, ?_⟩) hS ?_
    rotate_left
    · intro w hSw; clear hSw; go_simp <;> rfl
    clear hsh hS; intro hsh hS
    try simp only [Act.put]
    refine WL.take (i := 14) (v := ?_) (S0 := fun _ => True) rfl (by kernel_rfl) (by kernel_rfl) (by kernel_rfl) (fun _ _ _ h => h) (SApp.hm (by decide)) (SApp.any) hsh (Or.inl ⟨by rfl, ?_⟩) hS ?_
    rotate_left
    · intro w hSw; clear hSw; go_simp <;> rfl
    clear hsh hS; intro hsh hS
    try simp only [Act.put]
    refine WL.take (i := 15) (v := ?_) rfl (by kernel_rfl) (by kernel_rfl) (by kernel_rfl) (fun _ _ _ h => h) (SApp.hm (by decide)) (SApp.far [18, 17, 16, 15] (by kernel_rfl) rfl) hsh (Or.inl ⟨by rfl, ?_⟩) hS ?_
    rotate_left
    · intro w hSw; (have hc := hSw.1); clear hSw; go_simp <;> rfl
    clear hsh hS; intro hsh hS
    try simp only [Act.put]
    refine WL.take (i := 16) (v := ?_) (S0 := fun _ => True) rfl (by kernel_rfl) (by kernel_rfl) (by kernel_rfl) (fun _ _ _ h => h) (SApp.hm (by decide)) (SApp.any) hsh (Or.inl ⟨by rfl, ?_⟩) hS ?_
    rotate_left
    · intro w hSw; clear hSw; go_simp <;> rfl
    clear hsh hS; intro hsh hS
    try simp only [Act.put]
    refine WL.take (i := 17) (v := ?_) (S0 := fun _ => True) rfl (by kernel_rfl) (by kernel_rfl) (by kernel_rfl) (fun _ _ _ h => h) (SApp.hm (by decide)) (SApp.any) hsh (Or.inl ⟨by rfl, ?_⟩) hS ?_
    rotate_left
    · intro w hSw; clear hSw; go_simp <;> rfl
    clear hsh hS; intro hsh hS
    try simp only [Act.put]
    refine WL.take (i := 18) (v := ?_) (S0 := fun _ => True) rfl (by kernel_rfl) (by kernel_rfl) (by kernel_rfl) (fun _ _ _ h => h) (SApp.hm (by decide)) (SApp.any) hsh (Or.inl ⟨by rfl, ?_⟩) hS ?_
    rotate_left
    · intro w hSw; clear hSw; go_simp <;> rfl
    clear hsh hS; intro hsh hS
    try simp only [Act.put]
    have HSH := Lib.hid hsh
    clear hsh hS
    refine WL.one (i := 19) HSH.out (by kernel_rfl) rfl ?_
    intro K hK
    have HKK := Lib.hid hK
    clear hK
    go_simp
    refine (cutG_any w0 _ D R room f L HD.out q hqn hn).mono ?_
    rintro e w2 ⟨rfl, A, c, hz, hg⟩
    refine HKK.out _ _ (SApp.intro (fun h => (by cases h)) trivial) ?_
    intro _ _
    refine WL.done (by kernel_rfl) ?_ _
    have hit2 : w2.heap[X]? = some (.mapIter (some R) 1 #[0] 1) := (hg.block X (Array.getElem?_eq_some_iff.1 HIT.out).1 (fun e => HNE.out (by simpa using e.symm))).trans HIT.out
    have n2 := next_over (P := Tryz.prog) (ty := 0) hit2 hz.one
    have HZ := Lib.hid hz
    clear hz hg hit2 HKK K
    simp only [Exit.then, Exit.inBlock]
    rw [rounds_succ]
    go_wp2
    go_ret
    exact ⟨rfl, A, c, HZ.out⟩
end Go.Proofs.YtfpjmeknjhhakaaGreat.K

/- The contracts of store's may and there, of the reference's May. -/
namespace Go.Proofs.YtfpjmeknjhhakaaGreat.K
open Go Go.RowKit Go.Maps

/-- a cell as a value -/
def clCells (c : S.Cl) : List Value := [.int .i64 c.term, .int .i64 c.vote, .int .i64 c.applied, .int .i64 c.active]
theorem wi_cases (n m : Int) : (S.wi n m = true ∧ ¬ n < 0 ∧ ¬ m < n) ∨ (S.wi n m = false ∧ n < 0) ∨ (S.wi n m = false ∧ ¬ n < 0 ∧ m < n) := by
  unfold S.wi
  by_cases h : n < 0
  · exact .inr (.inl ⟨by simp; omega, h⟩)
  · by_cases h2 : m < n
    · exact .inr (.inr ⟨by simp; omega, h, h2⟩)
    · exact .inl ⟨by simp; omega, h, h2⟩
theorem idx4 (a b c d : Value) (k : Nat) (v : Value) (hk : k < 4) (hv : #[a, b, c, d][k]? = some v) (w : World) : (Instr.index 134 (.agg #[a, b, c, d]) (.int .i64 (k : Int))).run Tryz.prog w = .ok v w :=
  run_index_agg 134 3 4 _ k _ _ Tryz.underlying134 (by kernel_rfl) Tryz.underlying3 rfl hk hv w
def MayPost (w : World) (b : Bool) (e : Ending) (w' : World) : Prop := e = .returned (.bool b) ∧ Since w w'
set_option maxHeartbeats 4000000 in
set_option maxRecDepth 100000 in
theorem may_any (c : S.Cl) (w : World) : Calls Tryz.prog 49 #[.agg #[.int .i64 c.term, .int .i64 c.vote, .int .i64 c.applied, .int .i64 c.active]] w (MayPost w (S.may c)) := by
  have HS := Lib.hid (Since.alloc (Below.refl w.heap.size w) (.cells #[.int .i64 c.term, .int .i64 c.vote, .int .i64 c.applied, .int .i64 c.active] 38))
  obtain ⟨a0, a1, a2, a3⟩ := c
  unfold S.may
  have x0 : ∀ w, (Instr.index 134 (.agg #[.int .i64 1099511627776, .int .i64 7, .int .i64 1073741824, .int .i64 1073741824]) (.int .i64 0)).run Tryz.prog w = .ok (.int .i64 1099511627776) w := idx4 _ _ _ _ 0 _ (by decide) rfl
  have y0 : ∀ w, (Instr.index 134 (.agg #[.int .i64 a0, .int .i64 a1, .int .i64 a2, .int .i64 a3]) (.int .i64 0)).run Tryz.prog w = .ok (.int .i64 a0) w := idx4 _ _ _ _ 0 _ (by decide) rfl
  have x1 : ∀ w, (Instr.index 134 (.agg #[.int .i64 1099511627776, .int .i64 7, .int .i64 1073741824, .int .i64 1073741824]) (.int .i64 1)).run Tryz.prog w = .ok (.int .i64 7) w := idx4 _ _ _ _ 1 _ (by decide) rfl
  have y1 : ∀ w, (Instr.index 134 (.agg #[.int .i64 a0, .int .i64 a1, .int .i64 a2, .int .i64 a3]) (.int .i64 1)).run Tryz.prog w = .ok (.int .i64 a1) w := idx4 _ _ _ _ 1 _ (by decide) rfl
  have x2 : ∀ w, (Instr.index 134 (.agg #[.int .i64 1099511627776, .int .i64 7, .int .i64 1073741824, .int .i64 1073741824]) (.int .i64 2)).run Tryz.prog w = .ok (.int .i64 1073741824) w := idx4 _ _ _ _ 2 _ (by decide) rfl
  have y2 : ∀ w, (Instr.index 134 (.agg #[.int .i64 a0, .int .i64 a1, .int .i64 a2, .int .i64 a3]) (.int .i64 2)).run Tryz.prog w = .ok (.int .i64 a2) w := idx4 _ _ _ _ 2 _ (by decide) rfl
  have x3 : ∀ w, (Instr.index 134 (.agg #[.int .i64 1099511627776, .int .i64 7, .int .i64 1073741824, .int .i64 1073741824]) (.int .i64 3)).run Tryz.prog w = .ok (.int .i64 1073741824) w := idx4 _ _ _ _ 3 _ (by decide) rfl
  have y3 : ∀ w, (Instr.index 134 (.agg #[.int .i64 a0, .int .i64 a1, .int .i64 a2, .int .i64 a3]) (.int .i64 3)).run Tryz.prog w = .ok (.int .i64 a3) w := idx4 _ _ _ _ 3 _ (by decide) rfl
  go_enter Tryz.func49, Tryz.ntmps49
  go_wp2
  refine wp_loop_rounds 5 ?_
  rw [rounds_succ]
  rcases wi_cases a0 1099511627776 with ⟨e0, u0, v0⟩ | ⟨e0, u0⟩ | ⟨e0, u0, v0⟩
  rotate_left
  · have HF := Lib.hid e0
    clear e0
    go_wp2
    go_ret
    exact ⟨by simp [HF.out], HS.out⟩
  · have HF := Lib.hid e0
    clear e0
    go_wp2
    go_ret
    exact ⟨by simp [HF.out], HS.out⟩
  have E0 := Lib.hid e0
  clear e0
  go_wp2_with fail
  clear u0 v0
  rw [rounds_succ]
  rcases wi_cases a1 7 with ⟨e1, u1, v1⟩ | ⟨e1, u1⟩ | ⟨e1, u1, v1⟩
  rotate_left
  · have HF := Lib.hid e1
    clear e1
    go_wp2
    go_ret
    exact ⟨by simp [HF.out], HS.out⟩
  · have HF := Lib.hid e1
    clear e1
    go_wp2
    go_ret
    exact ⟨by simp [HF.out], HS.out⟩
  have E1 := Lib.hid e1
  clear e1
  go_wp2_with fail
  clear u1 v1
  rw [rounds_succ]
  rcases wi_cases a2 1073741824 with ⟨e2, u2, v2⟩ | ⟨e2, u2⟩ | ⟨e2, u2, v2⟩
  rotate_left
  · have HF := Lib.hid e2
    clear e2
    go_wp2
    go_ret
    exact ⟨by simp [HF.out], HS.out⟩
  · have HF := Lib.hid e2
    clear e2
    go_wp2
    go_ret
    exact ⟨by simp [HF.out], HS.out⟩
  have E2 := Lib.hid e2
  clear e2
  go_wp2_with fail
  clear u2 v2
  rw [rounds_succ]
  rcases wi_cases a3 1073741824 with ⟨e3, u3, v3⟩ | ⟨e3, u3⟩ | ⟨e3, u3, v3⟩
  rotate_left
  · have HF := Lib.hid e3
    clear e3
    go_wp2
    go_ret
    exact ⟨by simp [HF.out], HS.out⟩
  · have HF := Lib.hid e3
    clear e3
    go_wp2
    go_ret
    exact ⟨by simp [HF.out], HS.out⟩
  have E3 := Lib.hid e3
  clear e3
  go_wp2_with fail
  clear u3 v3
  rw [rounds_succ]
  go_wp2
  go_ret
  exact ⟨by simp [E0.out, E1.out, E2.out, E3.out], HS.out⟩
end Go.Proofs.YtfpjmeknjhhakaaGreat.K

/- A store as accounts of a bank; the contracts of there. -/
namespace Go.Proofs.YtfpjmeknjhhakaaGreat.K
open Go Go.RowKit Go.Maps

/-- a store's cells -/
def stCells (D : Nat) (c : S.Cl) (A : Option Addr) (n cE : Nat) : List Value := [.pointer (some ⟨D, 0, none⟩), .int .i64 c.term, .int .i64 c.vote, .int .i64 c.applied, .int .i64 c.active, .slice A n cE]
def stAcc (Z D : Nat) (c : S.Cl) (A : Option Addr) (n cE : Nat) : Acc := boxAcc Z 76 (stCells D c A n cE)
/-- the store's box in a world -/
def StBox (w : World) (Z D : Nat) (c : S.Cl) (A : Option Addr) (n cE : Nat) : Prop := w.heap[Z]? = some (.cells (stCells D c A n cE).toArray 76 (0, 0))
theorem StBox.since {w w' : World} {Z D : Nat} {c : S.Cl} {A : Option Addr} {n cE : Nat} (h : StBox w Z D c A n cE) (hs : Since w w') : StBox w' Z D c A n cE := Since.at hs h
theorem StBox.c0 {w : World} {Z D : Nat} {c : S.Cl} {A : Option Addr} {n cE : Nat} (h : StBox w Z D c A n cE) : w.cell? ⟨Z, 0, none⟩ = some (.pointer (some ⟨D, 0, none⟩)) := block_cell h rfl
theorem StBox.c1 {w : World} {Z D : Nat} {c : S.Cl} {A : Option Addr} {n cE : Nat} (h : StBox w Z D c A n cE) : w.cell? ⟨Z, 1, none⟩ = some (.int .i64 c.term) ∧ w.cell? ⟨Z, 2, none⟩ = some (.int .i64 c.vote) ∧ w.cell? ⟨Z, 3, none⟩ = some (.int .i64 c.applied) ∧ w.cell? ⟨Z, 4, none⟩ = some (.int .i64 c.active) := ⟨block_cell h rfl, block_cell h rfl, block_cell h rfl, block_cell h rfl⟩
theorem StBox.c5 {w : World} {Z D : Nat} {c : S.Cl} {A : Option Addr} {n cE : Nat} (h : StBox w Z D c A n cE) : w.cell? ⟨Z, 5, none⟩ = some (.slice A n cE) := block_cell h rfl
theorem StBox.free {w : World} {Z D : Nat} {c : S.Cl} {A : Option Addr} {n cE : Nat} (h : StBox w Z D c A n cE) (j : Nat) : w.frozen? ⟨Z, j, none⟩ = false := frozen_of_row w Z j _ _ h
theorem StBox.lt {w : World} {Z D : Nat} {c : S.Cl} {A : Option Addr} {n cE : Nat} (h : StBox w Z D c A n cE) : Z < w.heap.size := (Array.getElem?_eq_some_iff.1 h).1
theorem there_nil (w : World) : Calls Tryz.prog 48 #[.pointer none] w fun e w' => e = .returned (.bool false) ∧ w = w' := by
  go_enter Tryz.func48, Tryz.ntmps48
  go_wp2
  go_ret
  exact ⟨rfl, rfl⟩
set_option maxRecDepth 100000 in
theorem there_empty (Z : Nat) (w : World) (h : w.cell? ⟨Z, 0, none⟩ = some (.pointer none)) : Calls Tryz.prog 48 #[.pointer (some ⟨Z, 0, none⟩)] w fun e w' => e = .returned (.bool false) ∧ w = w' := by
  go_enter Tryz.func48, Tryz.ntmps48
  go_wp2
  go_ret
  exact ⟨rfl, rfl⟩
set_option maxRecDepth 100000 in
theorem there_any (Z D : Nat) (w : World) (h : w.cell? ⟨Z, 0, none⟩ = some (.pointer (some ⟨D, 0, none⟩))) : Calls Tryz.prog 48 #[.pointer (some ⟨Z, 0, none⟩)] w fun e w' => e = .returned (.bool true) ∧ w = w' := by
  go_enter Tryz.func48, Tryz.ntmps48
  go_wp2
  go_ret
  exact ⟨rfl, rfl⟩
def arr4 (a b c d : Int) : List Value := [.int .i64 a, .int .i64 b, .int .i64 c, .int .i64 d]
/-- a frame of a cell was done, or not -/
def SetPost (w0 : World) (Z : Nat) (d : List (BitVec 8)) (e : Ending) (w' : World) : Prop := ∃ w1, Since w0 w1 ∧
  (((¬ ((S.rd4 (some d)).2 = some [] ∧ S.may (S.rd4 (some d)).1 = true)) ∧ e = .returned (.bool false) ∧ w' = w1) ∨
   (((S.rd4 (some d)).2 = some [] ∧ S.may (S.rd4 (some d)).1 = true) ∧ e = .returned (.bool true) ∧
    w' = (((w1.setCell ⟨Z, 1, none⟩ (.int .i64 (S.rd4 (some d)).1.term)).setCell ⟨Z, 2, none⟩ (.int .i64 (S.rd4 (some d)).1.vote)).setCell ⟨Z, 3, none⟩ (.int .i64 (S.rd4 (some d)).1.applied)).setCell ⟨Z, 4, none⟩ (.int .i64 (S.rd4 (some d)).1.active)))
set_option maxHeartbeats 4000000 in
set_option maxRecDepth 100000 in
theorem set_any (w0 w : World) (Z D : Nat) (c : S.Cl) (A : Option Addr) (n cE : Nat) (P : Nat) (A0 : Option Addr) (d : List (BitVec 8)) (hZ : StBox w0 Z D c A n cE) (h : Held w0 w (fun w s => PrgN w P s A0) (some d) P A0 []) :
    Calls Tryz.prog 62 #[.pointer (some ⟨Z, 0, none⟩), .pointer (some ⟨P, 0, none⟩)] w (SetPost w0 Z d) := by
  have HZ := Lib.hid hZ
  have H0 := Lib.hid (h.box #[.int .i64 0, .int .i64 0, .int .i64 0, .int .i64 0] 134 (by decide))
  clear h hZ
  go_enter Tryz.func62, Tryz.ntmps62
  go_wp2_with fail
  generalize w.alloc (.cells #[.int .i64 0, .int .i64 0, .int .i64 0, .int .i64 0] 134) = u0 at *
  generalize w.heap.size = X at *
  obtain ⟨s0, hs0⟩ : ∃ s0 : M.Rdr, s0 = some d := ⟨_, rfl⟩
  obtain ⟨n0, hn0⟩ : ∃ n, n = (M.rdNumber s0).1 := ⟨_, rfl⟩
  obtain ⟨s1, hs1⟩ : ∃ s, s = (M.rdNumber s0).2 := ⟨_, rfl⟩
  obtain ⟨n1, hn1⟩ : ∃ n, n = (M.rdNumber s1).1 := ⟨_, rfl⟩
  obtain ⟨s2, hs2⟩ : ∃ s, s = (M.rdNumber s1).2 := ⟨_, rfl⟩
  obtain ⟨n2, hn2⟩ : ∃ n, n = (M.rdNumber s2).1 := ⟨_, rfl⟩
  obtain ⟨s3, hs3⟩ : ∃ s, s = (M.rdNumber s2).2 := ⟨_, rfl⟩
  obtain ⟨n3, hn3⟩ : ∃ n, n = (M.rdNumber s3).1 := ⟨_, rfl⟩
  obtain ⟨s4, hs4⟩ : ∃ s, s = (M.rdNumber s3).2 := ⟨_, rfl⟩
  have HRD := Lib.hid (show S.rd4 (some d) = (⟨n0, n1, n2, n3⟩, s4) by rw [← hs0]; simp only [S.rd4, hn0, hn1, hn2, hn3, hs1, hs2, hs3, hs4])
  have HN0 := Lib.hid (show (M.rdNumber s0).1 = n0 from hn0.symm); have HS1 := Lib.hid (show (M.rdNumber s0).2 = s1 from hs1.symm)
  have HN1 := Lib.hid (show (M.rdNumber s1).1 = n1 from hn1.symm); have HS2 := Lib.hid (show (M.rdNumber s1).2 = s2 from hs2.symm)
  have HN2 := Lib.hid (show (M.rdNumber s2).1 = n2 from hn2.symm); have HS3 := Lib.hid (show (M.rdNumber s2).2 = s3 from hs3.symm)
  have HN3 := Lib.hid (show (M.rdNumber s3).1 = n3 from hn3.symm); have HS4 := Lib.hid (show (M.rdNumber s3).2 = s4 from hs4.symm)
  rw [← hs0] at H0
  clear hs0 hn0 hs1 hn1 hs2 hn2 hs3 hn3 hs4
  refine wp_loop_rounds 5 ?_
  rw [rounds_succ]
  go_wp2_with fail
  refine (pNumber_any P s0 A0 _ H0.out.q H0.out.lt.2).mono ?_
  rintro e u1 ⟨rfl, hq, hg⟩
  rw [HS1.out] at hq
  have h1 := H0.out.step hq hg
  rw [HN0.out]
  have y0 := h1.bank.cell 0 rfl 0 rfl
  have y1 := h1.bank.free 0 rfl 0
  have H1 := Lib.hid (h1.set 0 rfl 0 (.int .i64 n0))
  clear hq hg H0 h1 HS1 HN0
  go_wp2_with fail
  clear y0 y1
  rw [rounds_succ]
  go_wp2_with fail
  refine (pNumber_any P s1 A0 _ H1.out.q H1.out.lt.2).mono ?_
  rintro e u2 ⟨rfl, hq, hg⟩
  rw [HS2.out] at hq
  have h2 := H1.out.step hq hg
  rw [HN1.out]
  have y0 := h2.bank.cell 0 rfl 1 rfl
  have y1 := h2.bank.free 0 rfl 1
  have H2 := Lib.hid (h2.set 0 rfl 1 (.int .i64 n1))
  clear hq hg H1 h2 HS2 HN1
  go_wp2_with fail
  clear y0 y1
  rw [rounds_succ]
  go_wp2_with fail
  refine (pNumber_any P s2 A0 _ H2.out.q H2.out.lt.2).mono ?_
  rintro e u3 ⟨rfl, hq, hg⟩
  rw [HS3.out] at hq
  have h3 := H2.out.step hq hg
  rw [HN2.out]
  have y0 := h3.bank.cell 0 rfl 2 rfl
  have y1 := h3.bank.free 0 rfl 2
  have H3 := Lib.hid (h3.set 0 rfl 2 (.int .i64 n2))
  clear hq hg H2 h3 HS3 HN2
  go_wp2_with fail
  clear y0 y1
  rw [rounds_succ]
  go_wp2_with fail
  refine (pNumber_any P s3 A0 _ H3.out.q H3.out.lt.2).mono ?_
  rintro e u4 ⟨rfl, hq, hg⟩
  rw [HS4.out] at hq
  have h4 := H3.out.step hq hg
  rw [HN3.out]
  have y0 := h4.bank.cell 0 rfl 3 rfl
  have y1 := h4.bank.free 0 rfl 3
  have H4 := Lib.hid (h4.set 0 rfl 3 (.int .i64 n3))
  clear hq hg H3 h4 HS4 HN3
  go_wp2_with fail
  clear y0 y1
  rw [rounds_succ]
  have y0 := H4.out.bank.cell 0 rfl 0 rfl
  have y1 := H4.out.bank.cell 0 rfl 1 rfl
  have y2 := H4.out.bank.cell 0 rfl 2 rfl
  have y3 := H4.out.bank.cell 0 rfl 3 rfl
  go_wp2_with fail
  clear y0 y1 y2 y3
  have h5 := H4.out.box #[.int .i64 n0, .int .i64 n1, .int .i64 n2, .int .i64 n3] 38 (by simp)
  have hX : (u4.setCell ⟨X, 3, none⟩ (.int .i64 n3)).heap.size = u4.heap.size := World.size_setCell _ _ _
  rw [hX] at h5
  have H5 := Lib.hid h5
  clear H4 h5 hX
  generalize (u4.setCell ⟨X, 3, none⟩ (.int .i64 n3)).alloc (.cells #[.int .i64 n0, .int .i64 n1, .int .i64 n2, .int .i64 n3] 38) = v0 at *
  generalize u4.heap.size = Y at *
  refine (pDoneN P s4 A0 v0 H5.out.q).mono ?_
  rintro e v1 ⟨rfl, rfl⟩
  by_cases hs : s4 = some []
  · have hd : decide (s4 = some []) = true := by simp [hs]
    rw [hd]
    have HS4 := Lib.hid hs
    have y0 := H5.out.bank.cell 0 rfl 0 rfl
    have y1 := H5.out.bank.cell 0 rfl 1 rfl
    have y2 := H5.out.bank.cell 0 rfl 2 rfl
    have y3 := H5.out.bank.cell 0 rfl 3 rfl
    clear hs hd
    go_wp2_with fail
    refine (may_any ⟨n0, n1, n2, n3⟩ v0).mono ?_
    rintro e v2 ⟨rfl, hs⟩
    have S2 := Lib.hid (H5.out.bank.since.add hs)
    have B2 := Lib.hid (H5.out.bank.call hs)
    clear hs H5 y0 y1 y2 y3
    obtain ⟨b, hb⟩ : ∃ b, b = S.may ⟨n0, n1, n2, n3⟩ := ⟨_, rfl⟩
    rw [← hb]
    have HB := Lib.hid hb
    clear hb
    cases b with
    | false =>
      go_wp2
      go_ret
      refine ⟨v2, S2.out, .inl ⟨?_, rfl, rfl⟩⟩
      rw [HRD.out]
      intro h
      have h2 : S.may ⟨n0, n1, n2, n3⟩ = true := h.2
      rw [← HB.out] at h2
      cases h2
    | true =>
      have y0 := B2.out.cell 0 rfl 0 rfl
      have y1 := B2.out.cell 0 rfl 1 rfl
      have y2 := B2.out.cell 0 rfl 2 rfl
      have y3 := B2.out.cell 0 rfl 3 rfl
      have hz := HZ.out.since S2.out
      obtain ⟨z1, z2, z3, z4⟩ := hz.c1
      have f1 := hz.free 1
      have f2 := hz.free 2
      have f3 := hz.free 3
      have f4 := hz.free 4
      clear hz
      go_wp2
      go_ret
      refine ⟨v2, S2.out, .inr ⟨?_, rfl, ?_⟩⟩
      · rw [HRD.out]
        exact ⟨HS4.out, HB.out.symm⟩
      · rw [HRD.out]
  · have hd : decide (s4 = some []) = false := by simp [hs]
    rw [hd]
    have HN := Lib.hid hs
    have S2 := Lib.hid H5.out.bank.since
    clear hs hd H5
    go_wp2
    go_ret
    refine ⟨v0, S2.out, .inl ⟨?_, rfl, rfl⟩⟩
    rw [HRD.out]
    exact fun h => HN.out h.1
end Go.Proofs.YtfpjmeknjhhakaaGreat.K

/- The contract of store's stand. -/
namespace Go.Proofs.YtfpjmeknjhhakaaGreat.K
open Go Go.RowKit Go.Maps

/-- an append onto a slice cut at its end: a new row -/
theorem step_append_grows {P : Program} {ops : Array Oper} {o : Oper} {a : Act} {w : World} {K : Act → World → Prop} {Q : Exit → Act → World → Prop} {E : Prop} (hgd : o.guard = Option.none) (s y : Operand) (t : TypeId)
    (ho : o.op = .call { callee := .builtin .append, args := #[s, y], argTypes := #[t, t] })
    (e : TypeId) (z : Value) (size bytes : Nat) (hz : (P.info? e).map (fun i => (i.zero, i.size, i.bytes)) = some (some z, size, bytes)) (ht : P.underlying t = some (.slice e)) (hzs : z.cells.size = size) (hsz : 0 < size)
    (ao : Option Addr) (k : Nat) (olds : List Value) (hs : a.eval s = .slice ao k k) (hnone : ao = Option.none → k = 0) (hlo : olds.length = k * size) (holds : ∀ b, ao = some b → ∀ j u, olds[j]? = some u → w.cell? (b.add j) = some u)
    (ad : Addr) (m c : Nat) (news : List Value) (hx : a.eval y = .slice (some ad) m c) (hl : news.length = m * size) (hnews : ∀ j u, news[j]? = some u → w.cell? (ad.add j) = some u) (h1 : ∀ u ∈ news, u.oneCell' = true)
    (hm : 0 < m) (h63 : k + m ≤ maxLen) (hbytes : (k + m) * bytes ≤ 140737488355328)
    (hK : ∀ A' n' c' w', n' = k + m → w'.ownsRow w.heap.size e size (.slice A' n' c') n' (olds ++ news) → Below w.heap.size w w' → K (a.put o.dst (.slice A' n' c')) w') :
    if Region.wanted o (yielded ops a.tmps) = true then Oper.wp P o a w K Q else E := by
  have hw : Region.wanted o (yielded ops a.tmps) = true := by simp [Region.wanted, hgd]
  rw [if_pos hw]
  obtain ⟨i0, hi, hz0, hz1, hz2⟩ := info_parts hz
  have key : ∃ v' w', (Builtin.append_ #[t, t] o.type #[.slice ao k k, .slice (some ad) m c]).run P w = .ok v' w' ∧ w'.ownsRow w.heap.size e size v' (k + m) (olds ++ news) ∧ w.grownBy w' Option.none := by
    cases ao with
    | some b => exact run_append_arg_grows (P := P) w t o.type e i0 z size bytes ht hi hz0 hz1 hz2 hzs hsz b k k olds hlo (holds b rfl) ad m c news hl hnews (by omega) h63 hbytes
    | none =>
      obtain rfl := hnone rfl
      obtain rfl : olds = [] := List.eq_nil_of_length_eq_zero (by simpa using hlo)
      obtain ⟨v', w', hrun, r1, r2, _⟩ := run_append_own (P := P) w w.heap.size t o.type e i0 z size bytes ht hi hz0 hz1 hz2 hzs hsz (.slice Option.none 0 0) 0 [] (World.ownsRow_nil w _ e size) ad m c news hl hnews h1 h63 hbytes (Nat.le_refl _)
      exact ⟨v', w', hrun, r1, r2⟩
  obtain ⟨v', w', hrun, r1, r2⟩ := key
  obtain ⟨A', c', rfl⟩ := row_slice r1
  unfold Oper.wp execOp
  simp only [ho, resolve, invoke, builtin, Sem.run_bind, Sem.run_pure, Result.andThen_ok, List.map_toArray, List.map_cons, List.map_nil, hs, hx, hrun]
  exact hK A' _ c' w' rfl r1 ⟨r2.os, r2.tape, r2.output, r2.size, fun k hk => r2.block k hk (by simp)⟩
theorem evs_len (xs : List EV) : (xs.flatMap EV.cells).length = xs.length * 6 := by
  induction xs with
  | nil => rfl
  | cons x xs ih => rw [List.flatMap_cons, List.length_append, ih, x.cells_length, List.length_cons]; omega
theorem evs_take (xs : List EV) (q j : Nat) (u : Value) (h : ((xs.take q).flatMap EV.cells)[j]? = some u) : (xs.flatMap EV.cells)[j]? = some u := by
  have h1 := (List.getElem?_eq_some_iff.1 h).1
  rw [show xs.flatMap EV.cells = (xs.take q).flatMap EV.cells ++ (xs.drop q).flatMap EV.cells by rw [← List.flatMap_append, List.take_append_drop], List.getElem?_append_left h1]
  exact h
/-- a slice cut at its end, for good -/
theorem run_cut3 {P : Program} {t e : TypeId} (ht : P.underlying t = some (.slice e)) {es : Nat} (hsz : ∀ w, (sizeOf e).run P w = .ok es w) {A : Option Addr} (hA : A = Option.none ∨ ∃ g, A = some ⟨g, 0, Option.none⟩) (n c q : Nat) (hq : q ≤ c) (w : World) :
    (Instr.slice t (.slice A n c) Option.none (some (.int .i64 (q : Int))) (some (.int .i64 (q : Int)))).run P w = .ok (.slice A q q) w := by
  have h1 : (Instr.sliceBounds true n c Option.none (some (.int .i64 (q : Int))) (some (.int .i64 (q : Int)))).run P w = .ok (0, q, q) w := by
    simp [Instr.sliceBounds, run_sliceBound, hq, Result.andThen]
  simp only [Instr.slice, Sem.run_bind, run_underlying ht, Result.andThen, h1, hsz, Sem.run_pure]
  rcases hA with rfl | ⟨g, rfl⟩
  · simp
  · by_cases h0 : q = 0
    · subst h0; simp
    · simp [h0, Addr.add]
/-- a frame of an entry was done, or not -/
def StandPost (w0 : World) (Z : Nat) (xs : List EV) (d : List (BitVec 8)) (e : Ending) (w' : World) : Prop := ∃ w1,
  ((¬ ((S.rdIE (some d)).2.2 = some [] ∧ 1 ≤ (S.rdIE (some d)).1 ∧ (S.rdIE (some d)).1 ≤ xs.length + 1)) ∧ e = .returned (.bool false) ∧ Since w0 w1 ∧ w' = w1) ∨
  (((S.rdIE (some d)).2.2 = some [] ∧ 1 ≤ (S.rdIE (some d)).1 ∧ (S.rdIE (some d)).1 ≤ xs.length + 1) ∧ e = .returned (.bool true) ∧ ∃ A' c' B m cB,
    Bank w0 w1 [evsAcc A' (((S.rdIE (some d)).1 - 1).toNat + 1) c' (xs.take ((S.rdIE (some d)).1 - 1).toNat ++ [⟨(S.rdIE (some d)).2.1, B, m, cB⟩]), rowAcc B m cB (S.rdIE (some d)).2.1.data] ∧ w' = w1.setCell ⟨Z, 5, none⟩ (.slice A' (((S.rdIE (some d)).1 - 1).toNat + 1) c'))
set_option maxHeartbeats 4000000 in
set_option maxRecDepth 100000 in
theorem stand_any (w0 w : World) (Z D : Nat) (c : S.Cl) (A : Option Addr) (n cE : Nat) (xs : List EV) (P : Nat) (A0 : Option Addr) (d : List (BitVec 8)) (hZ : StBox w0 Z D c A n cE) (hE : w0.ownsRow 0 62 6 (.slice A n cE) n (xs.flatMap EV.cells)) (hn : xs.length = n) (hn2 : n ≤ 1000000) (h : Held w0 w (fun w s => PrgN w P s A0) (some d) P A0 []) :
    Calls Tryz.prog 63 #[.pointer (some ⟨Z, 0, none⟩), .pointer (some ⟨P, 0, none⟩)] w (StandPost w0 Z xs d) := by
  have HZ := Lib.hid hZ; have HE := Lib.hid hE; have HN := Lib.hid hn
  have H0 := Lib.hid h
  obtain ⟨s0, hs0⟩ : ∃ s0 : M.Rdr, s0 = some d := ⟨_, rfl⟩
  obtain ⟨k, hk⟩ : ∃ n, n = (M.rdNumber s0).1 := ⟨_, rfl⟩
  obtain ⟨s1, hs1⟩ : ∃ s, s = (M.rdNumber s0).2 := ⟨_, rfl⟩
  obtain ⟨en, hen⟩ : ∃ en, en = (M.rdEntry s1).1 := ⟨_, rfl⟩
  obtain ⟨s2, hs2⟩ : ∃ s, s = (M.rdEntry s1).2 := ⟨_, rfl⟩
  have HRD := Lib.hid (show S.rdIE (some d) = (k, en, s2) by rw [← hs0]; simp only [S.rdIE, ← hs1, ← hk, hen, hs2])
  have HEN := Lib.hid (show M.rdEntry s1 = (en, s2) by rw [hen, hs2])
  have HK := Lib.hid (show (M.rdNumber s0).1 = k from hk.symm); have HS1 := Lib.hid (show (M.rdNumber s0).2 = s1 from hs1.symm)
  rw [← hs0] at H0
  clear h hZ hE hn hs0 hk hs1 hen hs2
  go_enter Tryz.func63, Tryz.ntmps63
  go_wp2_with fail
  refine (pNumber_any P s0 A0 _ H0.out.q H0.out.lt.2).mono ?_
  rintro e u1 ⟨rfl, hq, hg⟩
  rw [HS1.out] at hq
  have H1 := Lib.hid (H0.out.step hq hg)
  rw [HK.out]
  clear hq hg H0 HS1 HK
  go_wp2_with fail
  refine (entry_held H1.out HEN.out).mono ?_
  rintro e u2 ⟨B, m, cB, rfl, hH⟩
  have H2 := Lib.hid (hH.box #[.int .i64 en.term, B8 en.kind, .int .i64 en.version, .int .i64 en.server, .bool en.good, .slice B m cB] 62 (by simp))
  clear hH H1 HEN
  go_wp2_with fail
  generalize u2.alloc (.cells #[.int .i64 en.term, B8 en.kind, .int .i64 en.version, .int .i64 en.server, .bool en.good, .slice B m cB] 62) = v0 at *
  generalize u2.heap.size = Y at *
  refine (pDoneN P s2 A0 v0 H2.out.q).mono ?_
  rintro e v1 ⟨rfl, rfl⟩
  have S2 := Lib.hid H2.out.bank.since
  have hz := HZ.out.since S2.out
  have z5 := hz.c5
  clear hz
  have BAD : Hid (¬ (s2 = some [] ∧ 1 ≤ k ∧ k ≤ (n : Int) + 1) → StandPost w0 Z xs d (.returned (.bool false)) v0) := Lib.hid (fun hb => ⟨v0, .inl ⟨by rw [HRD.out]; intro h; rw [HN.out] at h; exact hb h, rfl, S2.out, rfl⟩⟩)
  by_cases hs : s2 = some []
  rotate_left
  · have hd : decide (s2 = some []) = false := by simp [hs]
    rw [hd]
    have HFIN := Lib.hid (BAD.out (fun h => hs h.1))
    clear hs hd H2
    go_wp2
    go_ret
    exact HFIN.out
  have hd : decide (s2 = some []) = true := by simp [hs]
  rw [hd]
  have HS2 := Lib.hid hs
  clear hs hd
  have hwr : IntKind.i64.wrap ((n : Int) + 1) = (n : Int) + 1 := IntWalk.i64_in _ (by omega)
  by_cases h1 : k < 1
  · have HFIN := Lib.hid (BAD.out (fun h => by omega))
    clear BAD
    go_wp2
    go_ret
    exact HFIN.out
  by_cases h2 : (n : Int) + 1 < k
  · have HFIN := Lib.hid (BAD.out (fun h => by omega))
    clear BAD
    go_wp2
    go_ret
    exact HFIN.out
  obtain ⟨q, hq⟩ : ∃ q : Nat, k = (q : Int) + 1 := ⟨(k - 1).toNat, by omega⟩
  subst hq
  have hqn : q ≤ n := by omega
  clear BAD
  go_wp2_with fail
  have hA : (A = Option.none ∧ n = 0 ∧ cE = 0) ∨ ∃ g, A = some ⟨g, 0, Option.none⟩ ∧ n ≤ cE := by
    rcases HE.out.2 with ⟨h0, h3⟩ | ⟨g, cap, cur, hv, _, _, h3, _⟩
    · simp only [Value.slice.injEq] at h0
      exact .inl ⟨h0.1, h3, h0.2.2⟩
    · simp only [Value.slice.injEq, true_and] at hv
      exact .inr ⟨g, hv.1, by rw [hv.2]; exact h3⟩
  have hqc : q ≤ cE := by rcases hA with ⟨_, h3, h4⟩ | ⟨g, _, h3⟩ <;> omega
  have hsl : ∀ w, (Instr.slice 34 (.slice A n cE) Option.none (some (.int .i64 (q : Int))) (some (.int .i64 (q : Int)))).run Tryz.prog w = .ok (.slice A q q) w := fun w =>
    run_cut3 Tryz.underlying34 (es := 6) (fun _ => by kernel_rfl) (hA.imp (fun h => h.1) (fun ⟨g, h, _⟩ => ⟨g, h⟩)) n cE q hqc w
  have hwq : IntKind.i64.wrap (q : Int) = (q : Int) := IntWalk.i64_in _ (by omega)
  have HA := Lib.hid hA
  have e0 := H2.out.bank.cell 0 rfl 0 rfl
  have e1 := H2.out.bank.cell 0 rfl 1 rfl
  have e2 := H2.out.bank.cell 0 rfl 2 rfl
  have e3 := H2.out.bank.cell 0 rfl 3 rfl
  have e4 := H2.out.bank.cell 0 rfl 4 rfl
  have e5 := H2.out.bank.cell 0 rfl 5 rfl
  refine WL.region (SApp 15 (fun w' => w'.cell? ⟨Z, 5, none⟩ = some (.slice A n cE) ∧ w'.cell? ⟨Y, 0, none⟩ = some (.int .i64 en.term) ∧ w'.cell? ⟨Y, 1, none⟩ = some (B8 en.kind) ∧ w'.cell? ⟨Y, 2, none⟩ = some (.int .i64 en.version) ∧ w'.cell? ⟨Y, 3, none⟩ = some (.int .i64 en.server) ∧ w'.cell? ⟨Y, 4, none⟩ = some (.bool en.good) ∧ w'.cell? ⟨Y, 5, none⟩ = some (.slice B m cB)) (fun _ => True)) (by kernel_rfl) ?_
  intro hsh
  have hS : SApp 15 (fun w' => w'.cell? ⟨Z, 5, none⟩ = some (.slice A n cE) ∧ w'.cell? ⟨Y, 0, none⟩ = some (.int .i64 en.term) ∧ w'.cell? ⟨Y, 1, none⟩ = some (B8 en.kind) ∧ w'.cell? ⟨Y, 2, none⟩ = some (.int .i64 en.version) ∧ w'.cell? ⟨Y, 3, none⟩ = some (.int .i64 en.server) ∧ w'.cell? ⟨Y, 4, none⟩ = some (.bool en.good) ∧ w'.cell? ⟨Y, 5, none⟩ = some (.slice B m cB)) (fun _ => True) (Array.replicate 16 false) v0.drew := ⟨fun _ => ⟨z5, e0, e1, e2, e3, e4, e5⟩, trivial⟩
  clear hA h1 h2 hqc
  refine WL.take (i := 0) (v := ?_) (S0 := fun _ => True) rfl (by kernel_rfl) (by kernel_rfl) (by kernel_rfl) (fun _ _ _ h => h) (SApp.hm (by decide)) (SApp.any) hsh (Or.inl ⟨by rfl, ?_⟩) hS ?_
  rotate_left
  · intro w hSw; clear hSw; go_simp <;> rfl
  clear hsh hS; intro hsh hS
  try simp only [Act.put, List.setIfInBounds_toArray]
  refine WL.take (i := 1) (v := ?_) (S0 := fun _ => True) rfl (by kernel_rfl) (by kernel_rfl) (by kernel_rfl) (fun _ _ _ h => h) (SApp.hm (by decide)) (SApp.any) hsh (Or.inl ⟨by rfl, ?_⟩) hS ?_
  rotate_left
  · intro w hSw; clear hSw; go_simp <;> rfl
  clear hsh hS; intro hsh hS
  try simp only [Act.put]
  refine WL.take (i := 2) (v := ?_) (S0 := fun _ => True) rfl (by kernel_rfl) (by kernel_rfl) (by kernel_rfl) (fun _ _ _ h => h) (SApp.hm (by decide)) (SApp.any) hsh (Or.inl ⟨by rfl, ?_⟩) hS ?_
  rotate_left
  · intro w hSw; clear hSw; go_simp <;> rfl
  clear hsh hS; intro hsh hS
  try simp only [Act.put]
  refine WL.take (i := 3) (v := ?_) (S0 := fun _ => True) rfl (by kernel_rfl) (by kernel_rfl) (by kernel_rfl) (fun _ _ _ h => h) (SApp.hm (by decide)) (SApp.any) hsh (Or.inl ⟨by rfl, ?_⟩) hS ?_
  rotate_left
  · intro w hSw; clear hSw; go_simp <;> rfl
  clear hsh hS; intro hsh hS
  try simp only [Act.put]
  refine WL.take (i := 4) (v := ?_) rfl (by kernel_rfl) (by kernel_rfl) (by kernel_rfl) (fun _ _ _ h => h) (SApp.hm (by decide)) (SApp.both (by kernel_rfl)) hsh (Or.inl ⟨by rfl, ?_⟩) hS ?_
  rotate_left
  · intro w hSw; (have hc := hSw.1); clear hSw; go_simp <;> rfl
  clear hsh hS; intro hsh hS
  try simp only [Act.put]
  refine WL.take (i := 5) (v := ?_) (S0 := fun _ => True) rfl (by kernel_rfl) (by kernel_rfl) (by kernel_rfl) (fun _ _ _ h => h) (SApp.hm (by decide)) (SApp.any) hsh (Or.inl ⟨by rfl, ?_⟩) hS ?_
  rotate_left
  · intro w hSw; clear hSw; go_simp <;> rfl
  clear hsh hS; intro hsh hS
  try simp only [Act.put]
  refine WL.take (i := 6) (v := ?_) (S0 := fun _ => True) rfl (by kernel_rfl) (by kernel_rfl) (by kernel_rfl) (fun _ _ _ h => h) (SApp.hm (by decide)) (SApp.any) hsh (Or.inl ⟨by rfl, ?_⟩) hS ?_
  rotate_left
  · intro w hSw; clear hSw; go_simp <;> rfl
  clear hsh hS; intro hsh hS
  try simp only [Act.put]
  refine WL.take (i := 7) (v := ?_) (S0 := fun _ => True) rfl (by kernel_rfl) (by kernel_rfl) (by kernel_rfl) (fun _ _ _ h => h) (SApp.hm (by decide)) (SApp.any) hsh (Or.inl ⟨by rfl, ?_⟩) hS ?_
  rotate_left
  · intro w hSw; clear hSw; go_simp <;> rfl
  clear hsh hS; intro hsh hS
  try simp only [Act.put]
  refine WL.take (i := 8) (v := ?_) (S0 := fun _ => True) rfl (by kernel_rfl) (by kernel_rfl) (by kernel_rfl) (fun _ _ _ h => h) (SApp.hm (by decide)) (SApp.any) hsh (Or.inl ⟨by rfl, ?_⟩) hS ?_
  rotate_left
  · intro w hSw; clear hSw; go_simp <;> rfl
  clear hsh hS; intro hsh hS
  try simp only [Act.put]
  refine WL.take (i := 9) (v := ?_) (S0 := fun _ => True) rfl (by kernel_rfl) (by kernel_rfl) (by kernel_rfl) (fun _ _ _ h => h) (SApp.hm (by decide)) (SApp.any) hsh (Or.inl ⟨by rfl, ?_⟩) hS ?_
  rotate_left
  · intro w hSw; clear hSw; go_simp <;> rfl
  clear hsh hS; intro hsh hS
  try simp only [Act.put]
  refine WL.take (i := 10) (v := ?_) rfl (by kernel_rfl) (by kernel_rfl) (by kernel_rfl) (fun _ _ _ h => h) (SApp.hm (by decide)) (SApp.both (by kernel_rfl)) hsh (Or.inl ⟨by rfl, ?_⟩) hS ?_
  rotate_left
  · intro w hSw; (have hc := hSw.1); clear hSw; go_simp <;> rfl
  clear hsh hS; intro hsh hS
  try simp only [Act.put]
  have HSH := Lib.hid hsh
  clear hsh hS
  refine WL.one (i := 11) HSH.out (by kernel_rfl) rfl ?_
  intro K hK
  have HKK := Lib.hid hK
  clear hK
  go_simp
  have BKb := Lib.hid ((H2.out.bank.call ((Below.refl _ _).alloc (Nat.le_refl _) (.cells #[.int .i64 en.term, B8 en.kind, .int .i64 en.version, .int .i64 en.server, .bool en.good, .slice B m cB] 62))).drew)
  refine HKK.out _ _ (SApp.intro (fun _ => ⟨cell_old _ z5, cell_old _ e0, cell_old _ e1, cell_old _ e2, cell_old _ e3, cell_old _ e4, cell_old _ e5⟩) trivial) ?_
  clear K HKK HSH
  intro hsh hS
  try simp only [Act.put, List.setIfInBounds_toArray, List.set_cons_zero, List.set_cons_succ]
  have HSH := Lib.hid hsh
  clear hsh hS
  refine WL.one (i := 12) HSH.out (by kernel_rfl) rfl ?_
  intro K hK
  have HKK := Lib.hid hK
  clear hK
  refine step_append_grows rfl (.tmp 37) (.tmp 39) 34 rfl 62 (.agg #[.int .i64 0, .int .u8 0, .int .i64 0, .int .i64 0, .bool false, .slice none 0 0]) 6 64 infoEntry Tryz.underlying34 rfl (by decide) A q ((xs.take q).flatMap EV.cells) rfl (fun h => ?_) ?_ ?_ ⟨v0.heap.size, 0, none⟩ 1 1 (entL en.term en.version en.server en.kind en.good B m cB) rfl rfl (cells_lit1 _ (entL en.term en.version en.server en.kind en.good B m cB) _) (entL_oneL _ _ _ _ _ _ _ _) (by decide) (by unfold maxLen; omega) (by omega) ?_
  · rcases HA.out with ⟨_, h3, _⟩ | ⟨g, h3, _⟩
    · omega
    · rw [h] at h3; cases h3
  · rw [evs_len, List.length_take, HN.out]; omega
  · intro b hbA j u hu
    subst hbA
    have h1 := World.ownsRow.cells HE.out (g := b.block) rfl j u (evs_take xs q j u hu)
    rcases HA.out with ⟨h3, _⟩ | ⟨g, h3, _⟩
    · cases h3
    · cases h3
      exact (BKb.out.since.cell (block_lt_of_cell h1)).trans h1
  intro A' n' c' w9 hn' ho hb
  have up : ∀ {a : Addr} {v : Value}, v0.cell? a = some v → w9.cell? a = some v := fun {a v} h => (hb.cell (block_lt_of_cell (cell_old _ h))).trans (cell_old _ h)
  have B9 := Lib.hid (BKb.out.made hb ho)
  have S9 := Lib.hid (BKb.out.since.add hb)
  have hz := HZ.out.since S9.out
  have f5 := hz.free 5
  have z9 := hz.c5
  have NN := Lib.hid hn'
  refine HKK.out _ _ (SApp.intro (fun _ => ⟨up z5, up e0, up e1, up e2, up e3, up e4, up e5⟩) trivial) ?_
  clear K HKK HSH BKb hn' ho hb up hz z5 e0 e1 e2 e3 e4 e5
  intro hsh hS
  try simp only [Act.put, List.setIfInBounds_toArray]
  refine WL.take (i := 13) (v := ?_) (S0 := fun _ => True) rfl (by kernel_rfl) (by kernel_rfl) (by kernel_rfl) (fun _ _ _ h => h) (SApp.hm (by decide)) (SApp.any) hsh (Or.inl ⟨by rfl, ?_⟩) hS ?_
  rotate_left
  · intro w hSw; clear hSw; go_simp <;> rfl
  clear hsh hS; intro hsh hS
  try simp only [Act.put]
  refine WL.take (i := 14) (v := ?_) (S0 := fun _ => True) rfl (by kernel_rfl) (by kernel_rfl) (by kernel_rfl) (fun _ _ _ h => h) (SApp.hm (by decide)) (SApp.any) hsh (Or.inl ⟨by rfl, ?_⟩) hS ?_
  rotate_left
  · intro w hSw; clear hSw; go_simp <;> rfl
  clear hsh hS; intro hsh hS
  try simp only [Act.put]
  have HSH := Lib.hid hsh
  clear hsh hS
  refine WL.one (i := 15) HSH.out (by kernel_rfl) rfl ?_
  intro K hK
  have HKK := Lib.hid hK
  clear hK
  go_simp
  refine HKK.out _ _ (SApp.intro (fun h => (by cases h)) trivial) ?_
  clear K HKK HSH
  intro _ _
  try simp only [Act.put, List.setIfInBounds_toArray, List.set_cons_zero, List.set_cons_succ]
  refine WL.done (by kernel_rfl) ?_ _
  simp only [Exit.then]
  go_wp2_with fail
  go_ret
  have hn3 := NN.out
  subst hn3
  have e1 : ((S.rdIE (some d)).1 - 1).toNat = q := by rw [HRD.out]; simp
  refine ⟨w9, .inr ⟨?_, rfl, A', c', B, m, cB, ?_, ?_⟩⟩
  · rw [HRD.out]
    have hn := HN.out
    exact ⟨HS2.out, by simp only; omega, by simp only; omega⟩
  · rw [e1, HRD.out]
    have h := B9.out.sub (L' := [⟨.slice A' (q + 1) c', q + 1, 62, 6, (xs.take q).flatMap EV.cells ++ entL en.term en.version en.server en.kind en.good B m cB⟩, rowAcc B m cB en.data]) (.cons_cons _ (.cons _ (List.Sublist.refl _)))
    have e2 : evsAcc A' (q + 1) c' (xs.take q ++ [⟨en, B, m, cB⟩]) = ⟨.slice A' (q + 1) c', q + 1, 62, 6, (xs.take q).flatMap EV.cells ++ entL en.term en.version en.server en.kind en.good B m cB⟩ := by
      rw [evsAcc, List.flatMap_append]; simp [EV.cells]
    rw [e2]
    exact h
  · rw [e1]
end Go.Proofs.YtfpjmeknjhhakaaGreat.K

/- The contract of store's do. -/
namespace Go.Proofs.YtfpjmeknjhhakaaGreat.K
open Go Go.RowKit Go.Maps

/-- a frame was done, or can't be -/
def DoPost (w : World) (Z : Nat) (c : S.Cl) (xs : List EV) (f : F.Fr) (e : Ending) (w' : World) : Prop :=
  (S.sdo ⟨c, xs.map EV.e⟩ f = none ∧ e = .returned (.bool false) ∧ Since w w') ∨
  (∃ c' w1, S.sdo ⟨c, xs.map EV.e⟩ f = some ⟨c', xs.map EV.e⟩ ∧ e = .returned (.bool true) ∧ Since w w1 ∧
    w' = (((w1.setCell ⟨Z, 1, none⟩ (.int .i64 c'.term)).setCell ⟨Z, 2, none⟩ (.int .i64 c'.vote)).setCell ⟨Z, 3, none⟩ (.int .i64 c'.applied)).setCell ⟨Z, 4, none⟩ (.int .i64 c'.active)) ∨
  (∃ w1 q A' cE' en B m cB, S.sdo ⟨c, xs.map EV.e⟩ f = some ⟨c, (xs.take q ++ [⟨en, B, m, cB⟩] : List EV).map EV.e⟩ ∧ q ≤ xs.length ∧ e = .returned (.bool true) ∧
    Bank w w1 [evsAcc A' (q + 1) cE' (xs.take q ++ [⟨en, B, m, cB⟩]), rowAcc B m cB en.data] ∧ w' = w1.setCell ⟨Z, 5, none⟩ (.slice A' (q + 1) cE'))
theorem doPost_set {w w0 : World} {Z : Nat} {c : S.Cl} {xs : List EV} {k : Int} {d : List (BitVec 8)} {e : Ending} {w' : World} (hk : k = 1) (hs : Since w w0) (h : SetPost w0 Z d e w') : DoPost w Z c xs ⟨k, d⟩ e w' := by
  subst hk
  obtain ⟨w1, h1, ⟨h2, he, hw⟩ | ⟨h2, he, hw⟩⟩ := h
  · subst hw
    exact .inl ⟨by simp [S.sdo, S.sset, h2], he, hs.add h1⟩
  · exact .inr (.inl ⟨(S.rd4 (some d)).1, w1, by simp [S.sdo, S.sset, h2], he, hs.add h1, hw⟩)
theorem Bank.from' {w w0 w1 : World} {L : List Acc} (h : Bank w0 w1 L) (hs : Since w w0) : Bank w w1 L := ⟨hs.add h.since, fun p hp => row_base (h.own p hp) hs.size, h.sep⟩
theorem doPost_stand {w w0 : World} {Z : Nat} {c : S.Cl} {xs : List EV} {k : Int} {d : List (BitVec 8)} {e : Ending} {w' : World} (hk : k = 2) (hs : Since w w0) (h : StandPost w0 Z xs d e w') : DoPost w Z c xs ⟨k, d⟩ e w' := by
  subst hk
  obtain ⟨w1, ⟨h2, he, h1, hw⟩ | ⟨h2, he, A', c', B, m, cB, hB, hw⟩⟩ := h
  · subst hw
    refine .inl ⟨?_, he, hs.add h1⟩
    unfold S.sdo S.sstand
    rw [if_neg (by simp), if_pos rfl, if_neg (by rw [List.length_map]; exact h2)]
  · refine .inr (.inr ⟨w1, ((S.rdIE (some d)).1 - 1).toNat, A', c', (S.rdIE (some d)).2.1, B, m, cB, ?_, by omega, he, hB.from' hs, hw⟩)
    unfold S.sdo S.sstand
    rw [if_neg (by simp), if_pos rfl, if_pos (by rw [List.length_map]; exact h2)]
    simp [List.map_take]
theorem zero_fnS (w : World) : (zeroValue 118).run Tryz.prog w = .ok .nilFunc w := by kernel_rfl
def doesEs : Array MapEntry := #[{ key := .int .i64 1, val := .func (.func 62) #[] #[], born := 0 }, { key := .int .i64 2, val := .func (.func 63) #[] #[], born := 1 }]
theorem look_other (k : Int) (h1 : k ≠ 1) (h2 : k ≠ 2) (hk : M.inI64 k) (w : World) (g : Nat) (h : w.heap[g]? = some (.map doesEs 2)) :
    (Instr.lookup 121 (.map (some g)) (.int .i64 k) true).run Tryz.prog w = .ok (.tuple #[.nilFunc, .bool false]) w := by
  refine look_noneQ Tryz.underlying121 Tryz.underlying3 h k _ (zero_fnS w) (by unfold M.inI64 at hk; simp [Lit.wf, IntKind.min, IntKind.max, IntKind.bits, IntKind.signed]; omega) ?_
  have e1 : (k == 1) = false := by rw [beq_eq_false_iff_ne]; exact h1
  have e2 : (k == 2) = false := by rw [beq_eq_false_iff_ne]; exact h2
  simp [doesEs, Instr.findNow, Instr.sameNow, e1, e2]
theorem ownsRow_since {w w' : World} {b : Nat} {e : TypeId} {es n : Nat} {v : Value} {xs : List Value} (h : w.ownsRow b e es v n xs) (hs : Since w w') : w'.ownsRow b e es v n xs :=
  h.kept (grown_none_of_below hs) (by cases h : v.ownBlock <;> simp)
theorem held_new {w w' : World} {P : Nat} {A0 : Option Addr} {d : List (BitVec 8)} (hP : w.heap.size ≤ P) (hq : PrgN w' P (some d) A0) (hA : ∀ a, A0 = some a → w.heap.size ≤ a.block ∧ a.block < w'.heap.size ∧ a.block ≠ P) (hb : Below w.heap.size w w') :
    Held w w' (fun w s => PrgN w P s A0) (some d) P A0 [] :=
  Held.start (Q := fun w s => PrgN w P s A0) (Bank.nil (Below.refl w.heap.size w)) hq hb hP (prgL_lt hq) (fun a e => ⟨(hA a e).1, (hA a e).2.1⟩) (fun w w' s row h hg hR hA => prgL_grown h hg hR hA)
set_option maxHeartbeats 4000000 in
set_option maxRecDepth 100000 in
theorem do_any (w : World) (Z D : Nat) (c : S.Cl) (A : Option Addr) (n cE : Nat) (xs : List EV) (f : F.Fr) (B : Option Addr) (m cB : Nat) (hZ : StBox w Z D c A n cE) (hE : w.ownsRow 0 62 6 (.slice A n cE) n (xs.flatMap EV.cells)) (hn : xs.length = n) (hn2 : n ≤ 1000000)
    (hr : RowRd w ⟨B, m, cB⟩ f.data) (hm : m ≤ 1000000000) (hk : M.inI64 f.kind) :
    Calls Tryz.prog 27 #[.pointer (some ⟨Z, 0, none⟩), .agg #[.int .i64 f.kind, .slice B m cB]] w (DoPost w Z c xs f) := by
  obtain ⟨k, d⟩ := f
  simp only at hr hk
  have hmm := @run_makeMap Tryz.prog
  have ht := Tryz.underlying121
  have hkt := Tryz.underlying3
  have hs0 := Since.alloc (Below.refl w.heap.size w) (.cells #[.int .i64 k, .slice B m cB] 78)
  have h1 := put_mapQ ht hkt (w.alloc (.cells #[.int .i64 k, .slice B m cB] 78)) #[] 0 1 (.func (.func 62) #[] #[]) (by decide) rfl
  have h2 := put_mapQ ht hkt (w.alloc (.cells #[.int .i64 k, .slice B m cB] 78)) #[{ key := .int .i64 1, val := .func (.func 62) #[] #[], born := 0 }] 1 2 (.func (.func 63) #[] #[]) (by decide) rfl
  simp only [List.push_toArray, List.cons_append, List.nil_append, Nat.reduceAdd, World.size_alloc] at h1 h2
  have hmap : ((w.alloc (.cells #[.int .i64 k, .slice B m cB] 78)).alloc (.map doesEs 2)).heap[w.heap.size + 1]? = some (.map doesEs 2) := by
    have h := heap_alloc_new (w.alloc (.cells #[.int .i64 k, .slice B m cB] 78)) (.map doesEs 2)
    rw [World.size_alloc] at h
    exact h
  have S0 := Lib.hid (Since.alloc hs0 (.map doesEs 2))
  have x0 : ((w.alloc (.cells #[.int .i64 k, .slice B m cB] 78)).alloc (.map doesEs 2)).cell? ⟨w.heap.size, 0, none⟩ = some (.int .i64 k) := cell_old _ (by rw [World.cell?_alloc_new]; rfl)
  have x1 : ((w.alloc (.cells #[.int .i64 k, .slice B m cB] 78)).alloc (.map doesEs 2)).cell? ⟨w.heap.size, 1, none⟩ = some (.slice B m cB) := cell_old _ (by rw [World.cell?_alloc_new]; rfl)
  have hl : k ≠ 1 → k ≠ 2 → _ := fun e1 e2 => look_other k e1 e2 hk _ _ hmap
  have hl1 := look_mapQ (P := Tryz.prog) ht hkt hmap 1 0 (.func (.func 62) #[] #[]) (by decide) rfl
  have hl2 := look_mapQ (P := Tryz.prog) ht hkt hmap 2 1 (.func (.func 63) #[] #[]) (by decide) rfl
  have HZ := Lib.hid hZ; have HE := Lib.hid hE; have HN := Lib.hid hn; have HR := Lib.hid hr
  clear hZ hE hn hr hmap hs0 ht hkt
  unfold doesEs at x0 x1 hl hl1 hl2 S0
  by_cases k1 : k = 1
  · subst k1
    clear hl hl2
    go_enter Tryz.func27, Tryz.ntmps27
    go_wp2_with fail
    refine (pNew_any B m cB d _ (Since.row S0.out HR.out) (by omega)).mono ?_
    rintro e w2 ⟨P, A0, rfl, hP, hq, hA, hb⟩
    have HS := Lib.hid (set_any _ w2 Z D c A n cE P A0 d (HZ.out.since S0.out) (held_new hP hq hA hb))
    clear hP hq hA hb
    go_wp2_with fail
    refine HS.out.mono ?_
    rintro e w3 hp
    have HP := Lib.hid (doPost_set (c := c) (xs := xs) rfl S0.out hp)
    have he : ∃ b, e = .returned (.bool b) := by
      rcases HP.out with ⟨_, h, _⟩ | ⟨_, _, _, h, _⟩ | ⟨_, _, _, _, _, _, _, _, _, _, h, _⟩
      · exact ⟨_, h⟩
      · exact ⟨_, h⟩
      · exact ⟨_, h⟩
    obtain ⟨b, rfl⟩ := he
    clear hp HS
    go_wp2
    go_ret
    exact HP.out
  by_cases k2 : k = 2
  · subst k2
    clear hl hl1
    go_enter Tryz.func27, Tryz.ntmps27
    go_wp2_with fail
    refine (pNew_any B m cB d _ (Since.row S0.out HR.out) (by omega)).mono ?_
    rintro e w2 ⟨P, A0, rfl, hP, hq, hA, hb⟩
    have HS := Lib.hid (stand_any _ w2 Z D c A n cE xs P A0 d (HZ.out.since S0.out) (ownsRow_since HE.out S0.out) HN.out hn2 (held_new hP hq hA hb))
    clear hP hq hA hb
    go_wp2_with fail
    refine HS.out.mono ?_
    rintro e w3 hp
    have HP := Lib.hid (doPost_stand (c := c) (xs := xs) rfl S0.out hp)
    have he : ∃ b, e = .returned (.bool b) := by
      rcases HP.out with ⟨_, h, _⟩ | ⟨_, _, _, h, _⟩ | ⟨_, _, _, _, _, _, _, _, _, _, h, _⟩
      · exact ⟨_, h⟩
      · exact ⟨_, h⟩
      · exact ⟨_, h⟩
    obtain ⟨b, rfl⟩ := he
    clear hp HS
    go_wp2
    go_ret
    exact HP.out
  · have hl0 := hl k1 k2
    clear hl1 hl2 hl
    go_enter Tryz.func27, Tryz.ntmps27
    go_wp2
    go_ret
    exact .inl ⟨by simp [S.sdo, k1, k2], rfl, S0.out⟩
end Go.Proofs.YtfpjmeknjhhakaaGreat.K
