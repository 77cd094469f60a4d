/- The contract of StoreNone. -/
import Derived.Test.YtfpjmeknjhhakaaSqStoDeed
namespace Go.Proofs.Ytfpjmeknjhhakaa.K
open Go Go.RowKit Go.Maps

theorem keepFull (w0 w : World) (D R : Nat) (room : Int) (fs : List F.Fr) (sf Z : Nat) (st : S.St) (L : List Acc) (d : S.Cl) (h : LS w0 w D R room fs sf Z st L) (hm : S.may d = true) (hb : room < ((F.pbytes fs).length + 41 : Int)) (hr : (F.pbytes fs).length ≤ 8000000) (hx : st.l.length ≤ 700000) :
    Calls Try.prog 35 #[.pointer (some ⟨Z, 0, none⟩), .agg #[.int .i64 d.term, .int .i64 d.vote, .int .i64 d.applied, .int .i64 d.active]] w fun e w' => e = .returned (.int .i64 5) ∧ LS w0 w' D R room fs sf Z st L := by
  obtain ⟨o, A, cE, xs, h1, h2, h3, h4, h5, h6⟩ := h
  have hl : xs.length = st.l.length := by rw [h1, List.length_map]
  have h41 : (F.pbytes [S.kept d]).length = 41 := by simp [F.pbytes, F.one_length, S.kept, S.cdata_length]
  refine (keep_any w0 w D R room o Z st.c A cE xs L d h2 hm (by omega) (by omega)).mono ?_
  rintro e w' (⟨k1, _⟩ | ⟨_, _, k1, k2⟩ | ⟨_, k1, _⟩)
  · exfalso; omega
  · exact ⟨k1, o, A, cE, xs, h1, k2, h3, h4, h5, h6⟩
  · exfalso; omega
theorem appFull (w0 w : World) (D R : Nat) (room : Int) (fs : List F.Fr) (sf Z : Nat) (st : S.St) (L : List Acc) (i : Int) (E : Option Addr) (n cn : Nat) (es : List M.Ent) (h : LS w0 w D R room fs sf Z st L)
    (hl : es.length = n) (hE : EntsRd w E es) (hok : ∀ e ∈ es, e.Ok) (hd : ∀ e ∈ es, e.data.length ≤ 200000) (hb : room < ((F.pbytes fs).length + (F.pbytes (S.puts i es)).length : Int)) (hr : (F.pbytes fs).length + (F.pbytes (S.puts i es)).length ≤ 8388608) (hx : st.l.length + n ≤ 800000) (hne : es ≠ []) (hi : 1 ≤ i ∧ i ≤ (st.l.length : Int) + 1) :
    Calls Try.prog 36 #[.pointer (some ⟨Z, 0, none⟩), .int .i64 i, .slice E n cn] w fun e w' => e = .returned (.int .i64 5) ∧ LS w0 w' D R room fs sf Z st L := by
  obtain ⟨o, A, cE, xs, h1, h2, h3, h4, h5, h6⟩ := h
  have hxl : xs.length = st.l.length := by rw [h1, List.length_map]
  refine (sApp_any w0 w D R room o Z st.c A cE xs L i E n cn es h2 hl hE hok hd (by omega) (by omega) (by omega)).mono ?_
  rintro e w' (⟨k1, k2, k3⟩ | ⟨k1, k2, k3, k4⟩ | ⟨k1, k2, k3⟩)
  · exfalso; omega
  · exact absurd k2 hne
  · rcases k3 with ⟨k1, _⟩ | ⟨_, _, k1, k2⟩ | ⟨_, k1, _⟩
    · exfalso; omega
    · exact ⟨k1, o, A, cE, xs, h1, k2, h3, h4, h5, h6⟩
    · exfalso; omega
theorem deed_lit (w : World) (d : Deed) (A : Option Addr) (n c : Nat) (hE : EntsRd w A d.es) (hl : d.es.length = n) (hn : n ≤ 9000000000000) : DeedsRd (w.alloc (.cells (deedL d A n c).toArray 68)) (some ⟨w.heap.size, 0, none⟩) [d] := by
  intro i hi
  obtain rfl : i = 0 := by simp at hi; omega
  have hb := heap_alloc_new w (.cells (deedL d A n c).toArray 68)
  exact ⟨w.heap.size, 0, rfl, A, n, c, block_cell hb rfl, block_cell hb rfl, block_cell hb rfl, block_cell hb rfl, block_cell hb rfl, block_cell hb rfl, block_cell hb rfl, hE.since (Since.alloc (Below.refl _ _) _), hl, hn⟩
def NonePost (w : World) (e : Ending) (w' : World) : Prop := e = .returned (.bool true) ∧ Since w w'
set_option maxHeartbeats 8000000 in
set_option maxRecDepth 100000 in
theorem StoreNone_any (d : Deed) (A : Option Addr) (n c : Nat) (w : World) (hE : EntsRd w A d.es) (hl : d.es.length = n) (hn : n ≤ 9000000000000) :
    Calls Try.prog 9 #[.agg #[.int .i64 d.kind, .int .i64 d.cell.term, .int .i64 d.cell.vote, .int .i64 d.cell.applied, .int .i64 d.cell.active, .int .i64 d.a, .slice A n c]] w (NonePost w) := by
  have BK0 := Lib.hid ((Bank.nil (Below.refl w.heap.size w)).box #[.int .i64 d.kind, .int .i64 d.cell.term, .int .i64 d.cell.vote, .int .i64 d.cell.applied, .int .i64 d.cell.active, .int .i64 d.a, .slice A n c] 68 (by simp))
  have HE := Lib.hid hE; have HL := Lib.hid hl
  clear hE hl
  go_enter Try.func9, Try.ntmps9
  go_wp2_with fail
  refine (awake22_any _).mono ?_
  rintro e w1 ⟨rfl, hs1⟩
  obtain ⟨X, hX⟩ : ∃ X, X = w.heap.size := ⟨_, rfl⟩
  rw [← hX] at BK0
  rw [← hX]
  have BK1 := Lib.hid (BK0.out.call hs1)
  clear hs1 BK0 hX
  have x0 := BK1.out.cell 0 rfl 0 rfl
  have x1 := BK1.out.cell 0 rfl 1 rfl
  have x2 := BK1.out.cell 0 rfl 2 rfl
  have x3 := BK1.out.cell 0 rfl 3 rfl
  have x4 := BK1.out.cell 0 rfl 4 rfl
  have x5 := BK1.out.cell 0 rfl 5 rfl
  have x6 := BK1.out.cell 0 rfl 6 rfl
  have HLT := Lib.hid (light_any (some ⟨w1.heap.size, 0, none⟩) 1 1 [d] _ (deed_lit w1 d A n c (HE.out.since BK1.out.since) HL.out hn) rfl (by omega))
  go_wp2_with fail
  refine HLT.out.mono ?_
  rintro e w2 ⟨rfl, rfl⟩
  clear x0 x1 x2 x3 x4 x5 x6 HLT
  have BK2 := Lib.hid (BK1.out.alloc (.cells (deedL d A n c).toArray 68))
  clear BK1
  obtain ⟨b, hb⟩ : ∃ b, b = light [d] := ⟨_, rfl⟩
  rw [← hb]
  clear hb
  cases b with
  | false =>
    have HFIN := Lib.hid BK2.out.since
    clear BK2
    go_wp2
    go_ret
    exact ⟨rfl, HFIN.out⟩
  | true =>
  generalize w1.alloc (.cells (deedL d A n c).toArray 68) = w2 at *
  have bk3 := (BK2.out.box #[.pointer none, .int .i64 0, .int .i64 0, .int .i64 0, .int .i64 0, .slice none 0 0] 72 (by simp)).box #[.pointer none, .pointer (some ⟨w2.heap.size, 0, none⟩)] 56 (by simp)
  rw [World.size_alloc] at bk3
  have BK3 := Lib.hid bk3
  clear bk3 BK2
  go_wp2_with fail
  generalize (w2.alloc (.cells #[.pointer none, .int .i64 0, .int .i64 0, .int .i64 0, .int .i64 0, .slice none 0 0] 72)).alloc (.cells #[.pointer none, .pointer (some ⟨w2.heap.size, 0, none⟩)] 56) = w3 at *
  generalize w2.heap.size = Z at *
  refine wp_loop_rounds 3 ?_
  rw [rounds_succ]
  have l0 := BK3.out.cell 0 rfl 0 rfl
  have x1 := BK3.out.cell 2 rfl 1 rfl
  have x2 := BK3.out.cell 2 rfl 2 rfl
  have x3 := BK3.out.cell 2 rfl 3 rfl
  have x4 := BK3.out.cell 2 rfl 4 rfl
  go_wp2_with fail
  clear l0 x1 x2 x3 x4
  refine (keep_nil w3 d.cell).mono ?_
  rintro e w4 ⟨rfl, hs⟩
  have BK4 := Lib.hid (BK3.out.call hs)
  clear hs BK3
  have x5 := BK4.out.cell 2 rfl 5 rfl
  have x6 := BK4.out.cell 2 rfl 6 rfl
  go_wp2_with fail
  clear x5 x6
  refine (sApp_nil w4 d.a (.slice A n c)).mono ?_
  rintro e w' ⟨rfl, rfl⟩
  go_wp2_with fail
  refine (sSync_nil w4).mono ?_
  rintro e w' ⟨rfl, rfl⟩
  go_wp2_with fail
  refine (sEnts_nil w4).mono ?_
  rintro e w' ⟨rfl, rfl⟩
  go_wp2_with fail
  refine (sCell_nil w4).mono ?_
  rintro e w5 ⟨rfl, hs⟩
  have BK5 := Lib.hid (BK4.out.call hs)
  clear hs BK4
  go_wp2_with fail
  rw [rounds_succ]
  have l1 := BK5.out.cell 0 rfl 1 rfl
  have x1 := BK5.out.cell 2 rfl 1 rfl
  have x2 := BK5.out.cell 2 rfl 2 rfl
  have x3 := BK5.out.cell 2 rfl 3 rfl
  have x4 := BK5.out.cell 2 rfl 4 rfl
  go_wp2_with fail
  clear l1 x1 x2 x3 x4
  refine (keep_empty Z w5 d.cell (BK5.out.cell 1 rfl 0 rfl)).mono ?_
  rintro e w6 ⟨rfl, hs⟩
  have BK6 := Lib.hid (BK5.out.call hs)
  clear hs BK5
  have x5 := BK6.out.cell 2 rfl 5 rfl
  have x6 := BK6.out.cell 2 rfl 6 rfl
  go_wp2_with fail
  clear x5 x6
  refine (sApp_empty Z w6 d.a (.slice A n c) (BK6.out.cell 1 rfl 0 rfl)).mono ?_
  rintro e w' ⟨rfl, rfl⟩
  go_wp2_with fail
  refine (sSync_empty Z w6 (BK6.out.cell 1 rfl 0 rfl)).mono ?_
  rintro e w' ⟨rfl, rfl⟩
  go_wp2_with fail
  refine (sEnts_empty Z w6 (BK6.out.cell 1 rfl 0 rfl)).mono ?_
  rintro e w' ⟨rfl, rfl⟩
  go_wp2_with fail
  refine (sCell_empty Z w6 (BK6.out.cell 1 rfl 0 rfl)).mono ?_
  rintro e w7 ⟨rfl, hs⟩
  have BK7 := Lib.hid (BK6.out.call hs)
  clear hs BK6
  go_wp2_with fail
  rw [rounds_succ]
  go_wp2_with fail
  refine (open_nil w7).mono ?_
  rintro e w8 ⟨rfl, hs⟩
  have S8 := Lib.hid (BK7.out.since.add hs)
  clear hs BK7
  go_wp2_with fail
  refine (newL w w8 [] 0 (Bank.nil S8.out) (by omega)).mono ?_
  rintro e w9 ⟨D, R, rfl, h9⟩
  have HO := Lib.hid (openL w w9 D R 0 [] 0 [] [] S.zero 0 h9 (by simp) sread_nil rfl (Nat.le_refl _))
  clear h9 S8
  go_wp2_with fail
  refine HO.out.mono ?_
  rintro e w10 ⟨Z2, rfl, h10⟩
  have HK := Lib.hid (keepFull w w10 D R 0 [] 0 Z2 S.zero [] ⟨1, 0, 0, 0⟩ h10 (by decide) (by simp [F.pbytes]) (by simp [F.pbytes]) (by simp [S.zero]))
  clear h10 HO
  go_wp2_with fail
  refine HK.out.mono ?_
  rintro e w11 ⟨rfl, h11⟩
  have H11 := Lib.hid h11
  clear h11 HK
  go_wp2_with fail
  refine (ack_any 1 w11).mono ?_
  rintro e w12 ⟨rfl, hs12⟩
  have H12 := Lib.hid ((H11.out.call hs12).call (Since.alloc (Below.refl w12.heap.size w12) (.cells ([1].flatMap ackCells).toArray 81)))
  have HA := Lib.hid (appFull w _ D R 0 [] 0 Z2 S.zero [] 1 (some ⟨w12.heap.size, 0, none⟩) 1 1 [ackE 1] H12.out rfl (acks_rd w12 [1] _ rfl) (by intro e he; simp at he; subst he; exact ack_ok _ ⟨by omega, by omega⟩) (by intro e he; simp at he; subst he; simp [ackE]) (by
    simp [S.puts, S.put, F.pbytes, F.one_length, S.edata_length, ackE]) (by
    simp [S.puts, S.put, F.pbytes, F.one_length, S.edata_length, ackE]) (by simp [S.zero]) (by simp) (by simp [S.zero]))
  clear H11 H12 hs12
  go_wp2_with fail
  refine HA.out.mono ?_
  rintro e w13 ⟨rfl, h13⟩
  have H13 := Lib.hid h13
  clear h13 HA
  go_wp2_with fail
  refine (syncL w w13 D R 0 [] 0 Z2 S.zero [] H13.out).mono ?_
  rintro e w14 ⟨rfl, h14⟩
  have hb := heap_alloc_new w14 (.cells #[.int .i64 0, .int .i64 0, .int .i64 0, .int .i64 0, .slice none 0 0] 85)
  have HLK := Lib.hid (like_eq w _ D R 0 [] _ Z2 S.zero [] w14.heap.size none 0 0 (h14.call (Since.alloc (Below.refl _ _) (.cells #[.int .i64 0, .int .i64 0, .int .i64 0, .int .i64 0, .slice none 0 0] 85))) ⟨block_cell hb rfl, block_cell hb rfl, block_cell hb rfl, block_cell hb rfl, block_cell hb rfl⟩ rfl (EntsRd.nil _ _) (by omega) (by intro e he; cases he))
  have S14 := Lib.hid (h14.since.alloc (.cells #[.int .i64 0, .int .i64 0, .int .i64 0, .int .i64 0, .slice none 0 0] 85))
  clear h14 hb H13
  go_wp2_with fail
  refine HLK.out.mono ?_
  rintro e w15 ⟨rfl, hs15⟩
  have HFIN := Lib.hid (show NonePost w (.returned (.bool true)) w15 from ⟨rfl, S14.out.add hs15⟩)
  clear hs15 HLK S14
  go_wp2
  go_ret
  exact HFIN.out
end Go.Proofs.Ytfpjmeknjhhakaa.K
