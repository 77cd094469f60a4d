/- The contract of disk's Append. -/
import Derived.Test.YtfpjmeknjhhakaaSqDskCut
namespace Go.Proofs.Ytfpjmeknjhhakaa.K
open Go Go.RowKit Go.Maps

/-- bytes put behind a row of the bank's, beside a block of its own -/
theorem wpList_append_side {P : Program} {w0 w : World} {R : Nat} {ob : Obj} {L : List Acc} {ops : Array Oper} {rest : List Oper} {o : Oper} {a : Act} {Q : Exit → Act → World → Prop} (h : Side w0 w R ob L) (hgd : o.guard = Option.none) (s y : Operand) (t : TypeId)
    (ho : o.op = .call { callee := .builtin .append, args := #[s, y], argTypes := #[t, t] })
    (hz : (P.info? 5).map (fun i => (i.zero, i.size, i.bytes)) = some (some (.int .u8 0), 1, 1)) (ht : P.underlying t = some (.slice 5)) (k : Nat) (A : Option Addr) (n cap : Nat) (bs : List (BitVec 8)) (hs : a.eval s = .slice A n cap) (hk : L[k]? = some (rowAcc A n cap bs))
    (ao : Option Addr) (m c : Nat) (news : List (BitVec 8)) (hx : a.eval y = .slice ao m c) (hr : RowRd w ⟨ao, m, c⟩ news) (hb : n + m ≤ 140737488355328)
    (hK : ∀ A' n' c' w', n' = n + m → Side w0 w' R ob (L.set k (rowAcc A' n' c' (bs ++ news))) → wpList P ops Q rest (a.put o.dst (.slice A' n' c')) w') : wpList P ops Q (o :: rest) a w := by
  obtain ⟨i0, hi, hz0, hz1, hz2⟩ := info_parts hz
  obtain ⟨r1, r2, r3⟩ := hr.src
  refine wpList_plain hgd fun K hK' => ?_
  cases ao with
  | none =>
    obtain ⟨hm, _⟩ := r1 rfl
    replace hm : m = 0 := hm
    subst hm
    have hn : news = [] := Rd.empty hr.rd
    subst hn
    have hrun := run_append_owned_none (P := P) w w0.heap.size t o.type 5 i0 1 ht hi (.slice A n cap) n (bv bs) (h.bank.at k hk)
    have hc : c = 0 := hr.none rfl
    subst hc
    unfold Oper.wp execOp
    simp only [ho, resolve, invoke, builtin, Sem.run_bind, Sem.run_pure, Result.andThen_ok, List.map_toArray, List.map_cons, List.map_nil, hs, hx, hrun]
    refine hK' _ _ (hK A n cap w rfl ?_)
    rw [List.append_nil]
    have : L.set k (rowAcc A n cap bs) = L := by
      apply List.ext_getElem?
      intro j
      rw [List.getElem?_set]
      split
      · rename_i e; subst e; split
        · exact hk.symm
        · rename_i hlt; rw [List.getElem?_eq_none (by omega)]
      · rfl
    rw [this]
    exact h
  | some ad =>
    obtain ⟨A', c', w', hr, h2, h3, h4⟩ := run_append_bankG (P := P) h.bank t o.type 5 i0 _ 1 1 ht hi hz0 hz1 hz2 rfl (by decide) k A n cap (bv bs) hk ad m c (bv news) r2 (r3 ad rfl) (bv_one _) (by unfold maxLen; omega) (by omega)
    rw [← bv_append] at h2
    unfold Oper.wp execOp
    simp only [ho, resolve, invoke, builtin, Sem.run_bind, Sem.run_pure, Result.andThen_ok, List.map_toArray, List.map_cons, List.map_nil, hs, hx, hr]
    exact hK' _ _ (hK A' _ c' w' rfl (h.put k hk h2 h3 h4))
theorem grownBy_setBlock (w : World) (g : Nat) (o : Obj) : w.grownBy (Go.ChangeMaps.setBlock w g o) (some g) :=
  ⟨rfl, rfl, rfl, by show w.heap.size ≤ (w.heap.setIfInBounds g o).size; simp, fun k hk hne => by
    show (w.heap.setIfInBounds g o)[k]? = _
    rw [Array.getElem?_setIfInBounds, if_neg (fun e => hne (by rw [e]))]⟩
theorem setBlock_at {w : World} {g : Nat} (o : Obj) (h : g < w.heap.size) : (Go.ChangeMaps.setBlock w g o).heap[g]? = some o := by
  show (w.heap.setIfInBounds g o)[g]? = _
  rw [Array.getElem?_setIfInBounds, if_pos rfl, if_pos h]
def AppPost (w0 : World) (D R : Nat) (room : Int) (o : Option Fil) (L : List Acc) (m : Nat) (bs : List (BitVec 8)) (e : Ending) (w' : World) : Prop :=
  (8388608 < olen o + m ∧ e = .returned (.int .i64 3) ∧ Dk w0 w' D R room o L) ∨
  (¬ 8388608 < olen o + m ∧ room < ((olen o + m : Nat) : Int) ∧ e = .returned (.int .i64 5) ∧ Dk w0 w' D R room o L) ∨
  (¬ 8388608 < olen o + m ∧ ¬ room < ((olen o + m : Nat) : Int) ∧ e = .returned (.int .i64 0) ∧ ∃ g A c, Dk w0 w' D R room (some ⟨g, A, olen o + m, c, obytes o ++ bs, osafe o⟩) L)
set_option maxHeartbeats 2000000 in
set_option maxRecDepth 100000 in
theorem appF_any (w0 w : World) (D R : Nat) (room : Int) (f : Fil) (L : List Acc) (B : Option Addr) (m c : Nat) (bs : List (BitVec 8)) (h : Dk w0 w D R room (some f) L) (hr : RowRd w ⟨B, m, c⟩ bs) (hn : f.n ≤ 100000000) (hm : m ≤ 100000000) :
    Calls Try.prog 29 #[.pointer (some ⟨D, 0, none⟩), .string storeS, .slice B m c] w (AppPost w0 D R room (some f) L m bs) := by
  have H0 := Lib.hid h
  have S0 := Lib.hid (Since.alloc (Below.refl w.heap.size w) (.cells #[.string storeS] 9))
  have HR := Lib.hid hr
  have HKN := Lib.hid (known_any D R room w h.disk)
  have HRT := Lib.hid (right_store w.heap.size 1 (w.alloc (.cells #[.string storeS] 9)) (by rw [World.cell?_alloc_new]; rfl))
  have ht := Try.underlying129
  have hk := Try.underlying9
  have hsz : storeS.size ≤ maxLen := by decide
  have HLK := Lib.hid (fun w' (h : Dk w0 w' D R room (some f) L) => look_one (P := Try.prog) ht hk hsz (v := f.ptr) h.one)
  have HPT := Lib.hid (fun w' A n c bs sf (h : Dk w0 w' D R room (some ⟨f.g, A, n, c, bs, sf⟩) L) => put_again (P := Try.prog) ht hk hsz f.ptr h.one)
  have k8 : (f.n : Int) + (m : Int) ≤ 9223372036854775807 := by omega
  have k9 : (-9223372036854775808 : Int) ≤ (f.n : Int) + (m : Int) := by omega
  clear h hr ht hk hsz
  go_enter Try.func29, Try.ntmps29
  go_wp2_with (go_at_call 53; refine HKN.out.mono ?_; rintro e w' ⟨rfl, rfl⟩)
  refine HRT.out.mono ?_
  rintro e w2 ⟨rfl, hs2⟩
  have H2 := Lib.hid (H0.out.call (S0.out.add hs2))
  have R2 := Lib.hid (Since.row (S0.out.add hs2) HR.out)
  clear hs2 H0 S0 HR HRT HKN
  have c0 := H2.out.c0
  have c1 := H2.out.c1
  have f0 := H2.out.f0
  have f1 := H2.out.f1
  have l1 := HLK.out w2 H2.out
  unfold Fil.ptr at l1
  generalize storeS = s at *
  by_cases h8 : 8388608 < f.n + m
  · have i8 : (8388608 : Int) < (f.n : Int) + (m : Int) := by omega
    have HFIN := Lib.hid (show AppPost w0 D R room (some f) L m bs (.returned (.int .i64 3)) w2 from .inl ⟨h8, rfl, H2.out⟩)
    clear H2 HPT HLK
    go_wp2
    go_ret
    exact HFIN.out
  · have i8 : ¬ (8388608 : Int) < (f.n : Int) + (m : Int) := by omega
    have d8 : decide ((8388608 : Int) < (f.n : Int) + (m : Int)) = false := by simpa using i8
    go_wp2_with fail
    have hwr : IntKind.i64.wrap ((f.n : Int) + (m : Int)) = (f.n : Int) + (m : Int) := IntWalk.i64_in _ (by omega)
    have rc1 := cell_regrown c1
    have HU := Lib.hid (fun dq osq => used_some w0 _ D R room f L (H2.out.call (below_regrown w2 dq osq)) (by omega))
    clear c0 c1 f0 f1 l1
    refine wp_region_quiet_below (by kernel_rfl) (by kernel_rfl) ?_
    repeat (refine @wpQuiet_step _ _ _ _ _ _ _ ?_; intro K hK; go_simp; first | (refine hK _ ?_; clear hK K) | (apply Exists.intro; refine ⟨fun _ => ?_, hK _ ?_⟩; (with_reducible exact Calls.regrown_of (HU.out _ _)); clear hK K))
    refine wpQuiet_nil ?_
    intro _ hw'
    obtain ⟨⟨dq, osq⟩, hw''⟩ := hw'
    subst hw''
    have hd3 := H2.out.call (below_regrown w2 dq osq)
    have hr3 := Since.row (below_regrown w2 dq osq) R2.out
    have H3 := Lib.hid hd3
    have R3 := Lib.hid hr3
    clear rc1 HU H2 R2 hd3 hr3 hwr
    by_cases h9 : room < ((f.n + m : Nat) : Int)
    · have i9 : room < (f.n : Int) + (m : Int) := by omega
      have HFIN := Lib.hid (fun w' hw => (show AppPost w0 D R room (some f) L m bs (.returned (.int .i64 5)) w' from .inr (.inl ⟨h8, h9, rfl, H3.out.call hw⟩)))
      clear HPT HLK
      go_wp2
      go_ret
      exact HFIN.out _ (Below.refl _ _)
    · have i9 : ¬ room < (f.n : Int) + (m : Int) := by omega
      have d9 : decide (room < (f.n : Int) + (m : Int)) = false := by simpa using i9
      have f0 := H3.out.f0
      have H8 := Lib.hid h8
      have H9 := Lib.hid h9
      go_wp2_with (at_builtin; go_loud (refine wpList_append_side H3.out.side rfl _ _ 27 rfl infoByte Try.underlying27 2 f.A f.n f.c f.bs rfl rfl _ _ _ _ rfl R3.out (by omega) ?_; intro A' n' c' w4 hn' hB; dsimp only [List.set, filAccs, List.cons_append, List.nil_append] at hB; have h5 := hB.boxSet 1 rfl 0 (.slice A' n' c'); have h6 : Dk w0 _ D R room (some ⟨f.g, A', n', c', f.bs ++ bs, f.safe⟩) L := h5; have f0 := hB.bank.cell 1 rfl 0 rfl; have z0 := hB.bank.free 1 rfl 0; have c0 := hB.bank.cell 0 rfl 0 rfl; have c1 := h6.c0; have p1 := HPT.out _ _ _ _ _ _ h6; unfold Fil.ptr at p1; have H6 := Lib.hid h6; have HN := Lib.hid hn'; clear hB hn' h5 h6 H3 R3 HPT HLK))
      go_ret
      have hn2 := HN.out
      subst hn2
      exact .inr (.inr ⟨H8.out, Int.not_lt.2 H9.out, rfl, f.g, A', c', H6.out⟩)
/-- a file comes into the map -/
theorem Dk.first {w0 w : World} {D R : Nat} {room : Int} {f : Fil} {L : List Acc} (h : Dk w0 w D R room none (f.box :: f.row :: L)) : Dk w0 (Go.ChangeMaps.setBlock w R (.map (oneEs storeS (some f.ptr)) 1)) D R room (some f) L :=
  h.side.over (grownBy_setBlock w R _) (setBlock_at _ h.side.lt)
theorem Dk.none' {w0 w : World} {D R : Nat} {room : Int} {o : Option Fil} {L : List Acc} (h : Dk w0 w D R room o L) : Dk w0 w D R room o (rowAcc none 0 0 [] :: L) :=
  (h.side.none 5 1).perm ((List.Perm.swap _ _ _).trans (.cons _ (List.perm_middle.symm)))
set_option maxHeartbeats 2000000 in
set_option maxRecDepth 100000 in
theorem appN_any (w0 w : World) (D R : Nat) (room : Int) (L : List Acc) (B : Option Addr) (m c : Nat) (bs : List (BitVec 8)) (h : Dk w0 w D R room none L) (hr : RowRd w ⟨B, m, c⟩ bs) (hm : m ≤ 100000000) :
    Calls Try.prog 29 #[.pointer (some ⟨D, 0, none⟩), .string storeS, .slice B m c] w (AppPost w0 D R room none L m bs) := by
  have H0 := Lib.hid h
  have S0 := Lib.hid (Since.alloc (Below.refl w.heap.size w) (.cells #[.string storeS] 9))
  have HR := Lib.hid hr
  have HKN := Lib.hid (known_any D R room w h.disk)
  have HRT := Lib.hid (right_store w.heap.size 1 (w.alloc (.cells #[.string storeS] 9)) (by rw [World.cell?_alloc_new]; rfl))
  have ht := Try.underlying129
  have hk := Try.underlying9
  have hsz : storeS.size ≤ maxLen := by decide
  have HLK := Lib.hid (fun w' (h : Dk w0 w' D R room none L) => look_nothing (P := Try.prog) ht hk hsz (z := .pointer none) (by kernel_rfl) h.one)
  have HPT := Lib.hid (fun w' g L' (h : Dk w0 w' D R room none L') => put_first (P := Try.prog) ht hk hsz (.pointer (some ⟨g, 0, none⟩)) h.one)
  clear h hr ht hk hsz
  go_enter Try.func29, Try.ntmps29
  go_wp2_with (go_at_call 53; refine HKN.out.mono ?_; rintro e w' ⟨rfl, rfl⟩)
  refine HRT.out.mono ?_
  rintro e w2 ⟨rfl, hs2⟩
  have h2 := H0.out.call (S0.out.add hs2)
  have R2 := Lib.hid (Since.row (Since.alloc (S0.out.add hs2) (.cells #[.slice none 0 0, .int .i64 0] 137)) HR.out)
  have H2 := Lib.hid (h2.none'.box #[.slice none 0 0, .int .i64 0] 137 (by simp))
  clear hs2 H0 S0 HR HRT HKN
  have c0 := h2.c0
  have l1 := HLK.out w2 h2
  clear h2
  generalize hst : storeS = s at *
  by_cases h8 : 8388608 < m
  · have i8 : (8388608 : Int) < (m : Int) := by omega
    have HFIN := Lib.hid (show AppPost w0 D R room none L m bs (.returned (.int .i64 3)) _ from .inl ⟨by show 8388608 < 0 + m; omega, rfl, H2.out.sub (.cons _ (.cons _ (List.Sublist.refl _)))⟩)
    clear H2 HPT HLK hst
    go_wp2
    go_ret
    exact HFIN.out
  · have i8 : ¬ (8388608 : Int) < (m : Int) := by omega
    have d8 : decide ((8388608 : Int) < (m : Int)) = false := by simpa using i8
    have HST := Lib.hid hst
    clear hst
    go_wp2_with fail
    have hd2 := H2.out
    have hwr : IntKind.i64.wrap (m : Int) = (m : Int) := IntWalk.i64_in _ (by omega)
    have c1 := hd2.c1
    have rc1 := cell_regrown c1
    have HU := Lib.hid (fun dq osq => used_none w0 _ D R room _ (H2.out.call (below_regrown (w2.alloc (.cells #[.slice none 0 0, .int .i64 0] 137)) dq osq)))
    clear c0 c1 l1 hd2
    refine wp_region_quiet_below (by kernel_rfl) (by kernel_rfl) ?_
    repeat (refine @wpQuiet_step _ _ _ _ _ _ _ ?_; intro K hK; go_simp; first | (refine hK _ ?_; clear hK K) | (apply Exists.intro; refine ⟨fun _ => ?_, hK _ ?_⟩; (with_reducible exact Calls.regrown_of (HU.out _ _)); clear hK K))
    refine wpQuiet_nil ?_
    intro _ hw'
    obtain ⟨⟨dq, osq⟩, hw''⟩ := hw'
    subst hw''
    have hb3 := below_regrown (w2.alloc (.cells #[.slice none 0 0, .int .i64 0] 137)) dq osq
    have hd3 := H2.out.call hb3
    have hr3 := Since.row hb3 R2.out
    have H3 := Lib.hid hd3
    have R3 := Lib.hid hr3
    clear rc1 HU H2 R2 hd3 hr3 hwr hb3
    have H8 := Lib.hid h8
    by_cases h9 : room < (m : Int)
    · have HFIN := Lib.hid (fun w' hw => (show AppPost w0 D R room none L m bs (.returned (.int .i64 5)) w' from .inr (.inl ⟨by show ¬ 8388608 < 0 + m; have h8 := H8.out; omega, by show room < ((0 + m : Nat) : Int); omega, rfl, (H3.out.call hw).sub (.cons _ (.cons _ (List.Sublist.refl _)))⟩)))
      clear HPT HLK
      go_wp2
      go_ret
      exact HFIN.out _ (Below.refl _ _)
    · have d9 : decide (room < (m : Int)) = false := by simpa using h9
      have f0 := H3.out.cell 0 rfl 0 rfl
      have H9 := Lib.hid h9
      go_wp2_with (at_builtin; go_loud (refine wpList_append_side H3.out.side rfl _ _ 27 rfl infoByte Try.underlying27 2 none 0 0 [] rfl rfl _ _ _ _ rfl R3.out (by omega) ?_; intro A' n' c' w4 hn' hB; dsimp only [List.set, filAccs, List.cons_append, List.nil_append] at hB; have h5 := hB.boxSet 1 rfl 0 (.slice A' n' c'); have h6 : Dk w0 _ D R room none (Fil.box ⟨w2.heap.size, A', n', c', bs, 0⟩ :: Fil.row ⟨w2.heap.size, A', n', c', bs, 0⟩ :: L) := h5; have f0 := hB.bank.cell 1 rfl 0 rfl; have z0 := hB.bank.free 1 rfl 0; have c0 := hB.bank.cell 0 rfl 0 rfl; have c1 := h6.c0; have p1 := HPT.out _ w2.heap.size _ h6; have h7 := h6.first; rw [HST.out] at h7; have H6 := Lib.hid h7; clear h7; have HN := Lib.hid hn'; clear hB hn' h5 h6 H3 R3 HPT HLK))
      go_ret
      have hn2 := HN.out
      subst hn2
      exact .inr (.inr ⟨by show ¬ 8388608 < 0 + m; have h8 := H8.out; omega, by show ¬ room < ((0 + m : Nat) : Int); have h9 := H9.out; omega, rfl, w2.heap.size, A', c', H6.out⟩)
end Go.Proofs.Ytfpjmeknjhhakaa.K
