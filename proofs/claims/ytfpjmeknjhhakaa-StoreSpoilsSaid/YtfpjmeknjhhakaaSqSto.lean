/- A store as accounts of a bank; the contracts of there. -/
import Derived.Test.YtfpjmeknjhhakaaSqStoMay
import Derived.Test.YtfpjmeknjhhakaaSq8
import Derived.ArgAppend
namespace Go.Proofs.Ytfpjmeknjhhakaa.K
open Go Go.RowKit Go.Maps

/-- a store's cells -/
def stCells (D : Nat) (c : S.Cl) (A : Option Addr) (n cE : Nat) : List Value := [.pointer (some ⟨D, 0, none⟩), .int .i64 c.term, .int .i64 c.vote, .int .i64 c.applied, .int .i64 c.active, .slice A n cE]
def stAcc (Z D : Nat) (c : S.Cl) (A : Option Addr) (n cE : Nat) : Acc := boxAcc Z 72 (stCells D c A n cE)
/-- the store's box in a world -/
def StBox (w : World) (Z D : Nat) (c : S.Cl) (A : Option Addr) (n cE : Nat) : Prop := w.heap[Z]? = some (.cells (stCells D c A n cE).toArray 72 (0, 0))
theorem StBox.since {w w' : World} {Z D : Nat} {c : S.Cl} {A : Option Addr} {n cE : Nat} (h : StBox w Z D c A n cE) (hs : Since w w') : StBox w' Z D c A n cE := Since.at hs h
theorem StBox.c0 {w : World} {Z D : Nat} {c : S.Cl} {A : Option Addr} {n cE : Nat} (h : StBox w Z D c A n cE) : w.cell? ⟨Z, 0, none⟩ = some (.pointer (some ⟨D, 0, none⟩)) := block_cell h rfl
theorem StBox.c1 {w : World} {Z D : Nat} {c : S.Cl} {A : Option Addr} {n cE : Nat} (h : StBox w Z D c A n cE) : w.cell? ⟨Z, 1, none⟩ = some (.int .i64 c.term) ∧ w.cell? ⟨Z, 2, none⟩ = some (.int .i64 c.vote) ∧ w.cell? ⟨Z, 3, none⟩ = some (.int .i64 c.applied) ∧ w.cell? ⟨Z, 4, none⟩ = some (.int .i64 c.active) := ⟨block_cell h rfl, block_cell h rfl, block_cell h rfl, block_cell h rfl⟩
theorem StBox.c5 {w : World} {Z D : Nat} {c : S.Cl} {A : Option Addr} {n cE : Nat} (h : StBox w Z D c A n cE) : w.cell? ⟨Z, 5, none⟩ = some (.slice A n cE) := block_cell h rfl
theorem StBox.free {w : World} {Z D : Nat} {c : S.Cl} {A : Option Addr} {n cE : Nat} (h : StBox w Z D c A n cE) (j : Nat) : w.frozen? ⟨Z, j, none⟩ = false := frozen_of_row w Z j _ _ h
theorem StBox.lt {w : World} {Z D : Nat} {c : S.Cl} {A : Option Addr} {n cE : Nat} (h : StBox w Z D c A n cE) : Z < w.heap.size := (Array.getElem?_eq_some_iff.1 h).1
theorem there_nil (w : World) : Calls Try.prog 66 #[.pointer none] w fun e w' => e = .returned (.bool false) ∧ w = w' := by
  go_enter Try.func66, Try.ntmps66
  go_wp2
  go_ret
  exact ⟨rfl, rfl⟩
set_option maxRecDepth 100000 in
theorem there_empty (Z : Nat) (w : World) (h : w.cell? ⟨Z, 0, none⟩ = some (.pointer none)) : Calls Try.prog 66 #[.pointer (some ⟨Z, 0, none⟩)] w fun e w' => e = .returned (.bool false) ∧ w = w' := by
  go_enter Try.func66, Try.ntmps66
  go_wp2
  go_ret
  exact ⟨rfl, rfl⟩
set_option maxRecDepth 100000 in
theorem there_any (Z D : Nat) (w : World) (h : w.cell? ⟨Z, 0, none⟩ = some (.pointer (some ⟨D, 0, none⟩))) : Calls Try.prog 66 #[.pointer (some ⟨Z, 0, none⟩)] w fun e w' => e = .returned (.bool true) ∧ w = w' := by
  go_enter Try.func66, Try.ntmps66
  go_wp2
  go_ret
  exact ⟨rfl, rfl⟩
def arr4 (a b c d : Int) : List Value := [.int .i64 a, .int .i64 b, .int .i64 c, .int .i64 d]
/-- a frame of a cell was done, or not -/
def SetPost (w0 : World) (Z : Nat) (d : List (BitVec 8)) (e : Ending) (w' : World) : Prop := ∃ w1, Since w0 w1 ∧
  (((¬ ((S.rd4 (some d)).2 = some [] ∧ S.may (S.rd4 (some d)).1 = true)) ∧ e = .returned (.bool false) ∧ w' = w1) ∨
   (((S.rd4 (some d)).2 = some [] ∧ S.may (S.rd4 (some d)).1 = true) ∧ e = .returned (.bool true) ∧
    w' = (((w1.setCell ⟨Z, 1, none⟩ (.int .i64 (S.rd4 (some d)).1.term)).setCell ⟨Z, 2, none⟩ (.int .i64 (S.rd4 (some d)).1.vote)).setCell ⟨Z, 3, none⟩ (.int .i64 (S.rd4 (some d)).1.applied)).setCell ⟨Z, 4, none⟩ (.int .i64 (S.rd4 (some d)).1.active)))
set_option maxHeartbeats 4000000 in
set_option maxRecDepth 100000 in
theorem set_any (w0 w : World) (Z D : Nat) (c : S.Cl) (A : Option Addr) (n cE : Nat) (P : Nat) (A0 : Option Addr) (d : List (BitVec 8)) (hZ : StBox w0 Z D c A n cE) (h : Held w0 w (fun w s => PrgN w P s A0) (some d) P A0 []) :
    Calls Try.prog 111 #[.pointer (some ⟨Z, 0, none⟩), .pointer (some ⟨P, 0, none⟩)] w (SetPost w0 Z d) := by
  have HZ := Lib.hid hZ
  have H0 := Lib.hid (h.box #[.int .i64 0, .int .i64 0, .int .i64 0, .int .i64 0] 198 (by decide))
  clear h hZ
  go_enter Try.func111, Try.ntmps111
  go_wp2_with fail
  generalize w.alloc (.cells #[.int .i64 0, .int .i64 0, .int .i64 0, .int .i64 0] 198) = u0 at *
  generalize w.heap.size = X at *
  obtain ⟨s0, hs0⟩ : ∃ s0 : M.Rdr, s0 = some d := ⟨_, rfl⟩
  obtain ⟨n0, hn0⟩ : ∃ n, n = (M.rdNumber s0).1 := ⟨_, rfl⟩
  obtain ⟨s1, hs1⟩ : ∃ s, s = (M.rdNumber s0).2 := ⟨_, rfl⟩
  obtain ⟨n1, hn1⟩ : ∃ n, n = (M.rdNumber s1).1 := ⟨_, rfl⟩
  obtain ⟨s2, hs2⟩ : ∃ s, s = (M.rdNumber s1).2 := ⟨_, rfl⟩
  obtain ⟨n2, hn2⟩ : ∃ n, n = (M.rdNumber s2).1 := ⟨_, rfl⟩
  obtain ⟨s3, hs3⟩ : ∃ s, s = (M.rdNumber s2).2 := ⟨_, rfl⟩
  obtain ⟨n3, hn3⟩ : ∃ n, n = (M.rdNumber s3).1 := ⟨_, rfl⟩
  obtain ⟨s4, hs4⟩ : ∃ s, s = (M.rdNumber s3).2 := ⟨_, rfl⟩
  have HRD := Lib.hid (show S.rd4 (some d) = (⟨n0, n1, n2, n3⟩, s4) by rw [← hs0]; simp only [S.rd4, hn0, hn1, hn2, hn3, hs1, hs2, hs3, hs4])
  have HN0 := Lib.hid (show (M.rdNumber s0).1 = n0 from hn0.symm); have HS1 := Lib.hid (show (M.rdNumber s0).2 = s1 from hs1.symm)
  have HN1 := Lib.hid (show (M.rdNumber s1).1 = n1 from hn1.symm); have HS2 := Lib.hid (show (M.rdNumber s1).2 = s2 from hs2.symm)
  have HN2 := Lib.hid (show (M.rdNumber s2).1 = n2 from hn2.symm); have HS3 := Lib.hid (show (M.rdNumber s2).2 = s3 from hs3.symm)
  have HN3 := Lib.hid (show (M.rdNumber s3).1 = n3 from hn3.symm); have HS4 := Lib.hid (show (M.rdNumber s3).2 = s4 from hs4.symm)
  rw [← hs0] at H0
  clear hs0 hn0 hs1 hn1 hs2 hn2 hs3 hn3 hs4
  refine wp_loop_rounds 5 ?_
  rw [rounds_succ]
  go_wp2_with fail
  refine (pNumber_any P s0 A0 _ H0.out.q H0.out.lt.2).mono ?_
  rintro e u1 ⟨rfl, hq, hg⟩
  rw [HS1.out] at hq
  have h1 := H0.out.step hq hg
  rw [HN0.out]
  have y0 := h1.bank.cell 0 rfl 0 rfl
  have y1 := h1.bank.free 0 rfl 0
  have H1 := Lib.hid (h1.set 0 rfl 0 (.int .i64 n0))
  clear hq hg H0 h1 HS1 HN0
  go_wp2_with fail
  clear y0 y1
  rw [rounds_succ]
  go_wp2_with fail
  refine (pNumber_any P s1 A0 _ H1.out.q H1.out.lt.2).mono ?_
  rintro e u2 ⟨rfl, hq, hg⟩
  rw [HS2.out] at hq
  have h2 := H1.out.step hq hg
  rw [HN1.out]
  have y0 := h2.bank.cell 0 rfl 1 rfl
  have y1 := h2.bank.free 0 rfl 1
  have H2 := Lib.hid (h2.set 0 rfl 1 (.int .i64 n1))
  clear hq hg H1 h2 HS2 HN1
  go_wp2_with fail
  clear y0 y1
  rw [rounds_succ]
  go_wp2_with fail
  refine (pNumber_any P s2 A0 _ H2.out.q H2.out.lt.2).mono ?_
  rintro e u3 ⟨rfl, hq, hg⟩
  rw [HS3.out] at hq
  have h3 := H2.out.step hq hg
  rw [HN2.out]
  have y0 := h3.bank.cell 0 rfl 2 rfl
  have y1 := h3.bank.free 0 rfl 2
  have H3 := Lib.hid (h3.set 0 rfl 2 (.int .i64 n2))
  clear hq hg H2 h3 HS3 HN2
  go_wp2_with fail
  clear y0 y1
  rw [rounds_succ]
  go_wp2_with fail
  refine (pNumber_any P s3 A0 _ H3.out.q H3.out.lt.2).mono ?_
  rintro e u4 ⟨rfl, hq, hg⟩
  rw [HS4.out] at hq
  have h4 := H3.out.step hq hg
  rw [HN3.out]
  have y0 := h4.bank.cell 0 rfl 3 rfl
  have y1 := h4.bank.free 0 rfl 3
  have H4 := Lib.hid (h4.set 0 rfl 3 (.int .i64 n3))
  clear hq hg H3 h4 HS4 HN3
  go_wp2_with fail
  clear y0 y1
  rw [rounds_succ]
  have y0 := H4.out.bank.cell 0 rfl 0 rfl
  have y1 := H4.out.bank.cell 0 rfl 1 rfl
  have y2 := H4.out.bank.cell 0 rfl 2 rfl
  have y3 := H4.out.bank.cell 0 rfl 3 rfl
  go_wp2_with fail
  clear y0 y1 y2 y3
  have h5 := H4.out.box #[.int .i64 n0, .int .i64 n1, .int .i64 n2, .int .i64 n3] 65 (by simp)
  have hX : (u4.setCell ⟨X, 3, none⟩ (.int .i64 n3)).heap.size = u4.heap.size := World.size_setCell _ _ _
  rw [hX] at h5
  have H5 := Lib.hid h5
  clear H4 h5 hX
  generalize (u4.setCell ⟨X, 3, none⟩ (.int .i64 n3)).alloc (.cells #[.int .i64 n0, .int .i64 n1, .int .i64 n2, .int .i64 n3] 65) = v0 at *
  generalize u4.heap.size = Y at *
  refine (pDoneN P s4 A0 v0 H5.out.q).mono ?_
  rintro e v1 ⟨rfl, rfl⟩
  by_cases hs : s4 = some []
  · have hd : decide (s4 = some []) = true := by simp [hs]
    rw [hd]
    have HS4 := Lib.hid hs
    have y0 := H5.out.bank.cell 0 rfl 0 rfl
    have y1 := H5.out.bank.cell 0 rfl 1 rfl
    have y2 := H5.out.bank.cell 0 rfl 2 rfl
    have y3 := H5.out.bank.cell 0 rfl 3 rfl
    clear hs hd
    go_wp2_with fail
    refine (may_any ⟨n0, n1, n2, n3⟩ v0).mono ?_
    rintro e v2 ⟨rfl, hs⟩
    have S2 := Lib.hid (H5.out.bank.since.add hs)
    have B2 := Lib.hid (H5.out.bank.call hs)
    clear hs H5 y0 y1 y2 y3
    obtain ⟨b, hb⟩ : ∃ b, b = S.may ⟨n0, n1, n2, n3⟩ := ⟨_, rfl⟩
    rw [← hb]
    have HB := Lib.hid hb
    clear hb
    cases b with
    | false =>
      go_wp2
      go_ret
      refine ⟨v2, S2.out, .inl ⟨?_, rfl, rfl⟩⟩
      rw [HRD.out]
      intro h
      have h2 : S.may ⟨n0, n1, n2, n3⟩ = true := h.2
      rw [← HB.out] at h2
      cases h2
    | true =>
      have y0 := B2.out.cell 0 rfl 0 rfl
      have y1 := B2.out.cell 0 rfl 1 rfl
      have y2 := B2.out.cell 0 rfl 2 rfl
      have y3 := B2.out.cell 0 rfl 3 rfl
      have hz := HZ.out.since S2.out
      obtain ⟨z1, z2, z3, z4⟩ := hz.c1
      have f1 := hz.free 1
      have f2 := hz.free 2
      have f3 := hz.free 3
      have f4 := hz.free 4
      clear hz
      go_wp2
      go_ret
      refine ⟨v2, S2.out, .inr ⟨?_, rfl, ?_⟩⟩
      · rw [HRD.out]
        exact ⟨HS4.out, HB.out.symm⟩
      · rw [HRD.out]
  · have hd : decide (s4 = some []) = false := by simp [hs]
    rw [hd]
    have HN := Lib.hid hs
    have S2 := Lib.hid H5.out.bank.since
    clear hs hd H5
    go_wp2
    go_ret
    refine ⟨v0, S2.out, .inl ⟨?_, rfl, rfl⟩⟩
    rw [HRD.out]
    exact fun h => HN.out h.1
end Go.Proofs.Ytfpjmeknjhhakaa.K
