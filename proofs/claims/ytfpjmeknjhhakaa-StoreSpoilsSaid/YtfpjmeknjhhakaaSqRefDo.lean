/- (made by genrefdo.py) The contract of the reference store's Do. -/
import Derived.Test.YtfpjmeknjhhakaaSqLaw22A
import Derived.Test.YtfpjmeknjhhakaaSq8
namespace Go.Proofs.Ytfpjmeknjhhakaa.K
open Go Go.RowKit Go.Maps

theorem refN_grownS {w w' : World} {R : Nat} {s : M.Rdr} {A : Option Addr} {n c : Nat} {D : List (BitVec 8)} (h : RefN w R s A n c D) {row : Option Nat} (hg : w.grownBy w' row) (hR : row ≠ some R) (hA : ∀ a, A = some a → row ≠ some a.block) : RefN w' R s A n c D := by
  obtain ⟨at', bad, h⟩ := h
  exact ⟨at', bad, h.grown hg hR hA⟩
theorem num_heldR {w0 w : World} {s : M.Rdr} {R : Nat} {Bd : Option Addr} {n c : Nat} {D : List (BitVec 8)} {L : List Acc} (h : Held w0 w (fun w s => RefN w R s Bd n c D) s R Bd L) :
    Calls Try.prog 115 #[.pointer (some ⟨R, 0, none⟩)] w fun e w' => e = .returned (.int .i64 (M.rdNumber s).1) ∧ Held w0 w' (fun w s => RefN w R s Bd n c D) (M.rdNumber s).2 R Bd L := by
  obtain ⟨at1, bad1, hq1⟩ := h.q
  exact (rNumber_any R s Bd n c at1 bad1 D w hq1).mono fun _ _ ⟨he, hq, hg⟩ => ⟨he, h.step hq hg⟩
theorem done_heldR {w0 w : World} {s : M.Rdr} {R : Nat} {Bd : Option Addr} {n c : Nat} {D : List (BitVec 8)} {L : List Acc} (h : Held w0 w (fun w s => RefN w R s Bd n c D) s R Bd L) :
    Calls Try.prog 116 #[.pointer (some ⟨R, 0, none⟩)] w fun e w' => e = .returned (.bool (decide (s = some []))) ∧ Held w0 w' (fun w s => RefN w R s Bd n c D) s R Bd L := by
  obtain ⟨at1, bad1, hq1⟩ := h.q
  refine (rDone_any R s Bd n c at1 bad1 D w hq1).mono ?_
  rintro e w' ⟨he, q, rfl⟩
  exact ⟨he, h.call (Since.drewN (Below.refl _ _) q)⟩
theorem entry_heldS {w0 w : World} {s s' : M.Rdr} {x : M.Ent} {R : Nat} {Bd : Option Addr} {n c : Nat} {D : List (BitVec 8)} {L : List Acc} (h : Held w0 w (fun w s => RefN w R s Bd n c D) s R Bd L) (hx : M.rdEntry s = (x, s')) :
    Calls Try.prog 118 #[.pointer (some ⟨R, 0, none⟩)] w fun e w' => ∃ B m c1, e = .returned (.agg #[.int .i64 x.term, B8 x.kind, .int .i64 x.version, .int .i64 x.server, .bool x.good, .slice B m c1]) ∧ Held w0 w' (fun w s => RefN w R s Bd n c D) s' R Bd (rowAcc B m c1 x.data :: L) := by
  obtain ⟨at1, bad1, hq1⟩ := h.q
  refine (rEntry_any R s Bd n c at1 bad1 D w hq1 h.lt.2).mono ?_
  rintro e w' ⟨B, m, c1, rfl, ho, hq, hg⟩
  rw [hx] at ho hq
  rw [hx]
  exact ⟨B, m, c1, rfl, h.row hq hg ho⟩
/-- elements put behind a row of a bank's, of a source that may be nil -/
theorem step_append_src {P : Program} {w0 w : World} {L : List Acc} {ops : Array Oper} {o : Oper} {a : Act} {K : Act → World → Prop} {Q : Exit → Act → World → Prop} {E : Prop} (h : Bank w0 w L) (hgd : o.guard = Option.none) (s y : Operand) (t : TypeId)
    (ho : o.op = .call { callee := .builtin .append, args := #[s, y], argTypes := #[t, t] })
    (e : TypeId) (z : Value) (size bytes : Nat) (hz : (P.info? e).map (fun i => (i.zero, i.size, i.bytes)) = some (some z, size, bytes)) (ht : P.underlying t = some (.slice e)) (hzs : z.cells.size = size) (hsz : 0 < size)
    (k : Nat) (A : Option Addr) (n cap : Nat) (xs : List Value) (hs : a.eval s = .slice A n cap) (hk : L[k]? = some ⟨.slice A n cap, n, e, size, xs⟩)
    (ao : Option Addr) (m c : Nat) (news : List Value) (hx : a.eval y = .slice ao m c) (hnone : ao = Option.none → m = 0 ∧ c = 0) (hl : news.length = m * size) (hnews : ∀ ad, ao = some ad → ∀ j u, news[j]? = some u → w.cell? (ad.add j) = some u) (h1 : ∀ u ∈ news, u.oneCell' = true)
    (h63 : n + m ≤ maxLen) (hbytes : (n + m) * bytes ≤ 140737488355328)
    (hK : ∀ A' n' c' w', n' = n + m → Bank w0 w' (L.set k ⟨.slice A' n' c', n', e, size, xs ++ news⟩) → K (a.put o.dst (.slice A' n' c')) w') :
    if Region.wanted o (yielded ops a.tmps) = true then Oper.wp P o a w K Q else E := by
  have hw : Region.wanted o (yielded ops a.tmps) = true := by simp [Region.wanted, hgd]
  rw [if_pos hw]
  obtain ⟨i0, hi, hz0, hz1, hz2⟩ := info_parts hz
  obtain ⟨A', c', w', hr, h2⟩ := run_append_bank (P := P) h t o.type e i0 z size bytes ht hi hz0 hz1 hz2 hzs hsz k A n cap xs hk ao m c news hnone hl hnews h1 h63 hbytes
  unfold Oper.wp execOp
  simp only [ho, resolve, invoke, builtin, Sem.run_bind, Sem.run_pure, Result.andThen_ok, List.map_toArray, List.map_cons, List.map_nil, hs, hx, hr]
  exact hK A' _ c' w' rfl h2
theorem run_cut2 {P : Program} {t e : TypeId} (ht : P.underlying t = some (.slice e)) {es : Nat} (hsz : ∀ w, (sizeOf e).run P w = .ok es w) {A : Option Addr} (hA : A = Option.none ∨ ∃ g, A = some ⟨g, 0, Option.none⟩) (n c q : Nat) (hq : q ≤ c) (w : World) :
    (Instr.slice t (.slice A n c) Option.none (some (.int .i64 (q : Int))) Option.none).run P w = .ok (.slice A q c) w := by
  have h1 : (Instr.sliceBounds true n c Option.none (some (.int .i64 (q : Int))) Option.none).run P w = .ok (0, q, c) w := by
    simp [Instr.sliceBounds, run_sliceBound, hq, Result.andThen]
  simp only [Instr.slice, Sem.run_bind, run_underlying ht, Result.andThen, h1, hsz, Sem.run_pure]
  rcases hA with rfl | ⟨g, rfl⟩
  · simp
  · by_cases h0 : c = 0
    · subst h0; simp
    · simp [h0, Addr.add]
/-- the reference's store in a world -/
def RBox (w : World) (G : Nat) (c : S.Cl) (A : Option Addr) (n cE : Nat) : Prop := w.heap[G]? = some (.cells #[.int .i64 c.term, .int .i64 c.vote, .int .i64 c.applied, .int .i64 c.active, .slice A n cE] 85 (0, 0))
theorem RBox.since {w w' : World} {G : Nat} {c : S.Cl} {A : Option Addr} {n cE : Nat} (h : RBox w G c A n cE) (hs : Since w w') : RBox w' G c A n cE := Since.at hs h
theorem RBox.c4 {w : World} {G : Nat} {c : S.Cl} {A : Option Addr} {n cE : Nat} (h : RBox w G c A n cE) : w.cell? ⟨G, 4, none⟩ = some (.slice A n cE) := block_cell (xs := [.int .i64 c.term, .int .i64 c.vote, .int .i64 c.applied, .int .i64 c.active, .slice A n cE]) h rfl
theorem RBox.c0 {w : World} {G : Nat} {c : S.Cl} {A : Option Addr} {n cE : Nat} (h : RBox w G c A n cE) : w.cell? ⟨G, 0, none⟩ = some (.int .i64 c.term) ∧ w.cell? ⟨G, 1, none⟩ = some (.int .i64 c.vote) ∧ w.cell? ⟨G, 2, none⟩ = some (.int .i64 c.applied) ∧ w.cell? ⟨G, 3, none⟩ = some (.int .i64 c.active) :=
  ⟨block_cell (xs := [.int .i64 c.term, .int .i64 c.vote, .int .i64 c.applied, .int .i64 c.active, .slice A n cE]) h rfl, block_cell (xs := [.int .i64 c.term, .int .i64 c.vote, .int .i64 c.applied, .int .i64 c.active, .slice A n cE]) h rfl, block_cell (xs := [.int .i64 c.term, .int .i64 c.vote, .int .i64 c.applied, .int .i64 c.active, .slice A n cE]) h rfl, block_cell (xs := [.int .i64 c.term, .int .i64 c.vote, .int .i64 c.applied, .int .i64 c.active, .slice A n cE]) h rfl⟩
theorem RBox.free {w : World} {G : Nat} {c : S.Cl} {A : Option Addr} {n cE : Nat} (h : RBox w G c A n cE) (j : Nat) : w.frozen? ⟨G, j, none⟩ = false := frozen_of_row w G j _ _ h
/-- a frame was done, or can't be -/
def RDoPost (w : World) (G : Nat) (c : S.Cl) (xs : List EV) (f : F.Fr) (e : Ending) (w' : World) : Prop :=
  (S.sdo ⟨c, xs.map EV.e⟩ f = none ∧ e = .returned (.bool false) ∧ Since w w') ∨
  (∃ c' w1, S.sdo ⟨c, xs.map EV.e⟩ f = some ⟨c', xs.map EV.e⟩ ∧ e = .returned (.bool true) ∧ Since w w1 ∧
    w' = (((w1.setCell ⟨G, 0, none⟩ (.int .i64 c'.term)).setCell ⟨G, 1, none⟩ (.int .i64 c'.vote)).setCell ⟨G, 2, none⟩ (.int .i64 c'.applied)).setCell ⟨G, 3, none⟩ (.int .i64 c'.active)) ∨
  (∃ w1 q A' cE' en B m cB, S.sdo ⟨c, xs.map EV.e⟩ f = some ⟨c, (xs.take q ++ [⟨en, B, m, cB⟩] : List EV).map EV.e⟩ ∧ q ≤ xs.length ∧ e = .returned (.bool true) ∧
    Bank w w1 [evsAcc A' (q + 1) cE' (xs.take q ++ [⟨en, B, m, cB⟩]), rowAcc B m cB en.data] ∧ w' = w1.setCell ⟨G, 4, none⟩ (.slice A' (q + 1) cE'))
set_option maxHeartbeats 8000000 in
set_option maxRecDepth 100000 in
theorem rDo_set (w : World) (G : Nat) (c : S.Cl) (A : Option Addr) (n cE : Nat) (xs : List EV) (B0 : Option Addr) (m0 c0 : Nat) (d : List (BitVec 8)) (hM : RBox w G c A n cE) (hr : RowRd w ⟨B0, m0, c0⟩ d) (hm : m0 ≤ 1000000000) :
    Calls Try.prog 60 #[.pointer (some ⟨G, 0, none⟩), .agg #[.int .i64 1, .slice B0 m0 c0]] w (RDoPost w G c xs ⟨1, d⟩) := by
  have HM := Lib.hid hM
  have BK0 := Lib.hid ((Bank.nil (Below.refl w.heap.size w)).box #[.int .i64 1, .slice B0 m0 c0] 46 (by simp))
  have HR := Lib.hid (Since.row BK0.out.since hr)
  clear hM hr
  go_enter Try.func60, Try.ntmps60
  go_wp2_with fail
  have k0 := BK0.out.cell 0 rfl 0 rfl
  obtain ⟨F0, hF0⟩ : ∃ F0, F0 = w.heap.size := ⟨_, rfl⟩
  rw [← hF0] at k0 BK0
  rw [← hF0]
  generalize w.alloc (.cells #[.int .i64 1, .slice B0 m0 c0] 46) = wa at *
  refine (rNew_any B0 m0 c0 d wa HR.out (by omega)).mono ?_
  rintro e w2 ⟨R, Bd, cB, rfl, hR, hq, hBd, hb⟩
  have H0 := Lib.hid (show Held w w2 (fun w s => RefN w R s Bd m0 cB d) (some d) R Bd _ from Held.start (Q := fun w s => RefN w R s Bd m0 cB d) BK0.out ⟨0, false, hq⟩ hb hR hq.lt hBd (fun w w' s row h hg hR hA => refN_grownS h hg hR hA))
  have k0 := H0.out.bank.cell 0 rfl 0 rfl
  clear hq hBd hb hR BK0 hF0
  obtain ⟨s0, hs0⟩ : ∃ s0 : M.Rdr, s0 = some d := ⟨_, rfl⟩
  obtain ⟨n0, hn0⟩ : ∃ n, n = (M.rdNumber s0).1 := ⟨_, rfl⟩
  obtain ⟨s1, hs1⟩ : ∃ s, s = (M.rdNumber s0).2 := ⟨_, rfl⟩
  obtain ⟨n1, hn1⟩ : ∃ n, n = (M.rdNumber s1).1 := ⟨_, rfl⟩
  obtain ⟨s2, hs2⟩ : ∃ s, s = (M.rdNumber s1).2 := ⟨_, rfl⟩
  obtain ⟨n2, hn2⟩ : ∃ n, n = (M.rdNumber s2).1 := ⟨_, rfl⟩
  obtain ⟨s3, hs3⟩ : ∃ s, s = (M.rdNumber s2).2 := ⟨_, rfl⟩
  obtain ⟨n3, hn3⟩ : ∃ n, n = (M.rdNumber s3).1 := ⟨_, rfl⟩
  obtain ⟨s4, hs4⟩ : ∃ s, s = (M.rdNumber s3).2 := ⟨_, rfl⟩
  have HRD := Lib.hid (show S.rd4 (some d) = (⟨n0, n1, n2, n3⟩, s4) by rw [← hs0]; simp only [S.rd4, hn0, hn1, hn2, hn3, hs1, hs2, hs3, hs4])
  have HN0 := Lib.hid (show (M.rdNumber s0).1 = n0 from hn0.symm); have HS1 := Lib.hid (show (M.rdNumber s0).2 = s1 from hs1.symm)
  have HN1 := Lib.hid (show (M.rdNumber s1).1 = n1 from hn1.symm); have HS2 := Lib.hid (show (M.rdNumber s1).2 = s2 from hs2.symm)
  have HN2 := Lib.hid (show (M.rdNumber s2).1 = n2 from hn2.symm); have HS3 := Lib.hid (show (M.rdNumber s2).2 = s3 from hs3.symm)
  have HN3 := Lib.hid (show (M.rdNumber s3).1 = n3 from hn3.symm); have HS4 := Lib.hid (show (M.rdNumber s3).2 = s4 from hs4.symm)
  rw [← hs0] at H0
  clear hs0 hn0 hs1 hn1 hs2 hn2 hs3 hn3 hs4
  go_wp2_with fail
  refine (num_heldR H0.out).mono ?_
  rintro e u1 ⟨rfl, hH⟩
  rw [HS1.out] at hH
  rw [HN0.out]
  have H1 := Lib.hid (hH.box #[.int .i64 n0, .int .i64 0, .int .i64 0, .int .i64 0] 83 (by simp))
  clear hH H0 HS1 HN0 k0
  go_wp2_with fail
  refine (num_heldR H1.out).mono ?_
  rintro e u2 ⟨rfl, hH⟩
  rw [HS2.out] at hH
  rw [HN1.out]
  have y0 := hH.bank.cell 0 rfl 1 rfl
  have y1 := hH.bank.free 0 rfl 1
  have H2 := Lib.hid (hH.set 0 rfl 1 (.int .i64 n1))
  clear hH H1 HS2 HN1
  go_wp2_with fail
  refine (num_heldR H2.out).mono ?_
  rintro e u3 ⟨rfl, hH⟩
  rw [HS3.out] at hH
  rw [HN2.out]
  have y0 := hH.bank.cell 0 rfl 2 rfl
  have y1 := hH.bank.free 0 rfl 2
  have H3 := Lib.hid (hH.set 0 rfl 2 (.int .i64 n2))
  clear hH H2 HS3 HN2
  go_wp2_with fail
  refine (num_heldR H3.out).mono ?_
  rintro e u4 ⟨rfl, hH⟩
  rw [HS4.out] at hH
  rw [HN3.out]
  have y0 := hH.bank.cell 0 rfl 3 rfl
  have y1 := hH.bank.free 0 rfl 3
  have H4 := Lib.hid (hH.set 0 rfl 3 (.int .i64 n3))
  clear hH H3 HS4 HN3
  go_wp2_with fail
  refine (done_heldR H4.out).mono ?_
  rintro e v1 ⟨rfl, hH⟩
  have H5 := Lib.hid hH
  clear hH H4 y0 y1
  by_cases hs : s4 = some []
  · have hd : decide (s4 = some []) = true := by simp [hs]
    rw [hd]
    have HS4 := Lib.hid hs
    have y0 := H5.out.bank.cell 0 rfl 0 rfl
    have y1 := H5.out.bank.cell 0 rfl 1 rfl
    have y2 := H5.out.bank.cell 0 rfl 2 rfl
    have y3 := H5.out.bank.cell 0 rfl 3 rfl
    clear hs hd
    go_wp2_with fail
    refine (rMay_any ⟨n0, n1, n2, n3⟩ v1).mono ?_
    rintro e v2 ⟨rfl, hs⟩
    have S2 := Lib.hid (H5.out.bank.since.add hs)
    have B2 := Lib.hid (H5.out.bank.call hs)
    clear hs H5 y0 y1 y2 y3
    obtain ⟨b, hb⟩ : ∃ b, b = S.may ⟨n0, n1, n2, n3⟩ := ⟨_, rfl⟩
    rw [← hb]
    have HB := Lib.hid hb
    clear hb
    cases b with
    | false =>
      go_wp2
      go_ret
      refine .inl ⟨?_, rfl, S2.out⟩
      unfold S.sdo S.sset
      rw [if_pos rfl, if_neg]
      rw [HRD.out]
      intro h
      have h2 : S.may ⟨n0, n1, n2, n3⟩ = true := h.2
      rw [← HB.out] at h2
      cases h2
    | true =>
      have y0 := B2.out.cell 0 rfl 0 rfl
      have y1 := B2.out.cell 0 rfl 1 rfl
      have y2 := B2.out.cell 0 rfl 2 rfl
      have y3 := B2.out.cell 0 rfl 3 rfl
      have hz := HM.out.since S2.out
      obtain ⟨z1, z2, z3, z4⟩ := hz.c0
      have f0 := hz.free 0
      have f1 := hz.free 1
      have f2 := hz.free 2
      have f3 := hz.free 3
      clear hz
      go_wp2
      go_ret
      refine .inr (.inl ⟨⟨n0, n1, n2, n3⟩, v2, ?_, rfl, S2.out, rfl⟩)
      unfold S.sdo S.sset
      rw [if_pos rfl, if_pos (by rw [HRD.out]; exact ⟨HS4.out, HB.out.symm⟩), HRD.out]
  · have hd : decide (s4 = some []) = false := by simp [hs]
    rw [hd]
    have HN := Lib.hid hs
    have S2 := Lib.hid H5.out.bank.since
    clear hs hd H5
    go_wp2
    go_ret
    refine .inl ⟨?_, rfl, S2.out⟩
    unfold S.sdo S.sset
    rw [if_pos rfl, if_neg]
    rw [HRD.out]
    exact fun h => HN.out h.1
end Go.Proofs.Ytfpjmeknjhhakaa.K
