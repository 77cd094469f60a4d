/- The contract of letter's read. -/
import Derived.Test.YtdmpphioflcofaaLqLetReadS
import Derived.Deep.DeepCutAuto
namespace Go.Proofs.Ytdmpphioflcofaa.K
open Go Go.RowKit

def zeroLL : List Value := [.int .u8 0, .int .i64 0, .int .i64 0, .int .i64 0, .int .i64 0, .int .i64 0, .bool false, .int .i64 0, .int .i64 0, .slice none 0 0]
/-- a letter was read, or a wrong panicked with -/
def ReadPost (w0 : World) (L : List Acc) (o : Option M.Let) (e : Ending) (w' : World) : Prop :=
  (∃ l xs A n c, o = some l ∧ e = .returned (.agg (letL l A n c).toArray) ∧ l.ents = xs.map EV.e ∧ n = xs.length ∧ Bank w0 w' (evsAcc A n c xs :: (evRows xs ++ L))) ∨ (o = none ∧ e = .panicked wrongP ∧ Bank w0 w' L)
theorem lread_eq {b : List (BitVec 8)} {ns : List Int} {s : M.Rdr} {es : List M.Ent} {s2 : M.Rdr} (h1 : M.rdNums (some b) 10 = (ns, s)) (h2 : M.rdEnts s (ns.getD 9 0).toNat = (es, s2)) :
    M.lread b = if M.lfits ns = true ∧ s2 = some [] ∧ M.lright (M.lof ns es) = true then some (M.lof ns es) else none := by
  unfold M.lread
  rw [h1]
  simp only [h2]
theorem lread_unfit {b : List (BitVec 8)} {ns : List Int} {s : M.Rdr} (h1 : M.rdNums (some b) 10 = (ns, s)) (h : M.lfits ns = false) : M.lread b = none := by
  unfold M.lread
  rw [h1]
  simp [h]
set_option maxHeartbeats 8000000 in
set_option maxRecDepth 100000 in
theorem read_any (w0 w : World) (P : Nat) (A0 : Option Addr) (b : List (BitVec 8)) (L : List Acc) (h : Held w0 w (fun w s => PrgN w P s A0) (some b) P A0 L) :
    Calls Try.prog 34 #[.pointer (some ⟨P, 0, none⟩)] w (ReadPost w0 L (M.lread b)) := by
  have H0 := Lib.hid ((h.box #[.int .u8 0, .int .i64 0, .int .i64 0, .int .i64 0, .int .i64 0, .int .i64 0, .bool false, .int .i64 0, .int .i64 0, .slice none 0 0] 25 (by decide)).box #[.int .i64 0, .int .i64 0, .int .i64 0, .int .i64 0, .int .i64 0, .int .i64 0, .int .i64 0, .int .i64 0, .int .i64 0, .int .i64 0] 119 (by decide))
  rw [World.size_alloc] at H0
  have hcv := fun w (n : Int) => conv_kindL (P := Try.prog) w 3 22 n Try.underlying3 Try.underlying22
  clear h
  go_enter Try.func34, Try.ntmps34
  go_wp2_with fail
  generalize (w.alloc (.cells #[.int .u8 0, .int .i64 0, .int .i64 0, .int .i64 0, .int .i64 0, .int .i64 0, .bool false, .int .i64 0, .int .i64 0, .slice none 0 0] 25)).alloc (.cells #[.int .i64 0, .int .i64 0, .int .i64 0, .int .i64 0, .int .i64 0, .int .i64 0, .int .i64 0, .int .i64 0, .int .i64 0, .int .i64 0] 119) = w1 at *
  generalize w.heap.size = X at *
  go_loopw [6] (fun i wr => ∃ k : Nat, k ≤ 10 ∧ i = .int .i64 (k : Int) ∧ Held w0 wr (fun w s => PrgN w P s A0) (M.rdNums (some b) k).2 P A0 (boxAcc (X + 1) 119 (arrL (M.rdNums (some b) k).1) :: boxAcc X 25 zeroLL :: L)) (fun i _ => 10 - (intOf i).toNat)
  case atStart => exact ⟨0, by omega, rfl, H0.out⟩
  case round =>
    clear H0
    obtain ⟨k, hk, rfl, hH⟩ := hrel
    have k0 : (0 : Int) ≤ (k : Int) := by omega
    have H1 := Lib.hid hH
    clear hH
    rcases Nat.lt_or_ge k 10 with h1 | h1
    · have i1 : (k : Int) < 10 := by omega
      go_wp2_with fail
      refine (pNumber_any P _ A0 wr H1.out.q H1.out.lt.2).mono ?_
      rintro e w2 ⟨rfl, hq, hg⟩
      have H2 := Lib.hid (H1.out.step hq hg)
      clear hq hg H1
      obtain ⟨v, hv⟩ : ∃ v, v = (M.rdNumber (M.rdNums (some b) k).2).1 := ⟨_, rfl⟩
      rw [← hv]
      have HV := Lib.hid hv
      clear hv
      have y0 := H2.out.bank.cell 0 rfl k (arrL_at _ k h1)
      have y1 := H2.out.bank.free 0 rfl k
      have H3 := Lib.hid (H2.out.set 0 rfl k (.int .i64 v))
      clear H2
      go_wp2_with fail
      go_roundw
      case rel =>
        refine ⟨k + 1, by omega, by go_num, ?_⟩
        have h := H3.out
        have e2 := arrL_set (M.rdNums (some b) k).1 k v (M.rdNums_length _ _)
        rw [HV.out] at e2 h
        have h2 : Held w0 _ _ _ P A0 (boxAcc (X + 1) 119 ((arrL (M.rdNums (some b) k).1).set k (.int .i64 (M.rdNumber (M.rdNums (some b) k).2).1)) :: boxAcc X 25 zeroLL :: L) := h
        rw [e2] at h2
        rw [HV.out]
        exact h2
      case measure => simp [intOf]; omega
    · have i1 : ¬ (k : Int) < 10 := by omega
      obtain rfl : k = 10 := by omega
      obtain ⟨ns, hns⟩ : ∃ ns, ns = (M.rdNums (some b) 10).1 := ⟨_, rfl⟩
      obtain ⟨s, hs⟩ : ∃ s, s = (M.rdNums (some b) 10).2 := ⟨_, rfl⟩
      have HRD := Lib.hid (show M.rdNums (some b) 10 = (ns, s) by rw [hns, hs])
      obtain ⟨n0, n1, n2, n3, n4, n5, n6, n7, n8, n9, rfl⟩ := ten_of (show ns.length = 10 by rw [hns]; exact M.rdNums_length _ _)
      rw [← hns, ← hs] at H1
      clear hns hs
      have BAD : Hid (∀ w', Since wr w' → M.lfits [n0, n1, n2, n3, n4, n5, n6, n7, n8, n9] = false → ReadPost w0 L (M.lread b) (.panicked wrongP) w') := Lib.hid (fun w' hw hb => .inr ⟨lread_unfit HRD.out hb, rfl, (H1.out.bank.call hw).drop.drop⟩)
      have x0 := H1.out.bank.cell 0 rfl 0 rfl
      go_wp2_with fail
      clear x0
      refine (within_any n0 0 255 wr).mono ?_
      rintro e w2 (⟨h0, rfl, hs⟩ | ⟨h0, rfl, hs⟩)
      rotate_left
      · have HFIN := Lib.hid (BAD.out w2 hs (by unfold M.lfits; simp [h0]))
        clear h0 hs
        go_wp2
        exact ⟨rfl, HFIN.out⟩
      have S2 := Lib.hid hs
      have H2 := Lib.hid (H1.out.call hs)
      have HW0 := Lib.hid h0
      clear h0 hs H1
      have x6 := H2.out.bank.cell 0 rfl 6 rfl
      go_wp2_with fail
      clear x6
      refine (within_any n6 0 1 w2).mono ?_
      rintro e w3 (⟨h0, rfl, hs⟩ | ⟨h0, rfl, hs⟩)
      rotate_left
      · have HFIN := Lib.hid (BAD.out w3 (S2.out.add hs) (by unfold M.lfits; simp [h0]))
        clear h0 hs
        go_wp2
        exact ⟨rfl, HFIN.out⟩
      have S3 := Lib.hid (S2.out.add hs)
      have H3 := Lib.hid (H2.out.call hs)
      have HW6 := Lib.hid h0
      clear h0 hs H2 S2
      have x9 := H3.out.bank.cell 0 rfl 9 rfl
      go_wp2_with fail
      clear x9
      refine (within_any n9 0 4 w3).mono ?_
      rintro e w4 (⟨h0, rfl, hs⟩ | ⟨h0, rfl, hs⟩)
      rotate_left
      · have HFIN := Lib.hid (BAD.out w4 (S3.out.add hs) (by unfold M.lfits; simp [h0]))
        clear h0 hs
        go_wp2
        exact ⟨rfl, HFIN.out⟩
      have H4 := Lib.hid (H3.out.call hs)
      have HFIT := Lib.hid (show M.lfits [n0, n1, n2, n3, n4, n5, n6, n7, n8, n9] = true by unfold M.lfits; have e0 := HW0.out; have e6 := HW6.out; simp [e0, e6, h0])
      obtain ⟨q9, h9, rfl⟩ : ∃ q : Nat, q ≤ 4 ∧ n9 = (q : Int) := by
        have := (M.wi_iff _ _ _).1 h0
        exact ⟨n9.toNat, by omega, by omega⟩
      clear h0 hs H3 S3 HW0 HW6 BAD
      have x0 := H4.out.bank.cell 0 rfl 0 rfl
      have x1 := H4.out.bank.cell 0 rfl 1 rfl
      have x2 := H4.out.bank.cell 0 rfl 2 rfl
      have x3 := H4.out.bank.cell 0 rfl 3 rfl
      have x4 := H4.out.bank.cell 0 rfl 4 rfl
      have x5 := H4.out.bank.cell 0 rfl 5 rfl
      have x6 := H4.out.bank.cell 0 rfl 6 rfl
      have x7 := H4.out.bank.cell 0 rfl 7 rfl
      have x8 := H4.out.bank.cell 0 rfl 8 rfl
      have x9 := H4.out.bank.cell 0 rfl 9 rfl
      have p9 : X + 1 < w4.heap.size := block_lt_of_cell x9
      have p9' := Nat.ne_of_lt p9
      have p9'' := Ne.symm p9'
      go_wp2_with fail
      clear x0 x1 x2 x3 x4 x5 x6 x7 x8 x9
      have H5 := Lib.hid ((H4.out.box #[B8 (BitVec.ofInt 8 n0), .int .i64 n1, .int .i64 n2, .int .i64 n3, .int .i64 n4, .int .i64 n5, .bool (n6 == 1), .int .i64 n7, .int .i64 n8, .slice none 0 0] 25 (by simp)).nil6 48 6)
      clear H4 p9 p9' p9''
      generalize w4.alloc (.cells #[B8 (BitVec.ofInt 8 n0), .int .i64 n1, .int .i64 n2, .int .i64 n3, .int .i64 n4, .int .i64 n5, .bool (n6 == 1), .int .i64 n7, .int .i64 n8, .slice none 0 0] 25) = w5 at *
      generalize w4.heap.size = Y at *
      go_loopw [46] (fun i wr => ∃ (q : Nat) (xs : List EV) (A : Option Addr) (c : Nat), q ≤ q9 ∧ i = .int .i64 (q : Int) ∧ xs.length = q ∧ xs.map EV.e = (M.rdEnts s q).1 ∧ Held w0 wr (fun w s => PrgN w P s A0) (M.rdEnts s q).2 P A0 (evsAcc A q c xs :: boxAcc Y 25 [B8 (BitVec.ofInt 8 n0), .int .i64 n1, .int .i64 n2, .int .i64 n3, .int .i64 n4, .int .i64 n5, .bool (n6 == 1), .int .i64 n7, .int .i64 n8, .slice A q c] :: boxAcc (X + 1) 119 (arrL [n0, n1, n2, n3, n4, n5, n6, n7, n8, (q9 : Int)]) :: boxAcc X 25 zeroLL :: (evRows xs ++ L))) (fun i _ => q9 - (intOf i).toNat)
      case atStart => exact ⟨0, [], none, 0, by omega, rfl, rfl, rfl, H5.out⟩
      case round =>
        clear H5
        obtain ⟨q, xs, A, c, hq, rfl, hxl, hxs, hH⟩ := hrel
        have H6 := Lib.hid hH
        have HXL := Lib.hid hxl
        have HXS := Lib.hid hxs
        clear hH hxl hxs
        have q0 : (0 : Int) ≤ (q : Int) := by omega
        rcases Nat.lt_or_ge q q9 with h2 | h2
        · have i2 : (q : Int) < (q9 : Int) := by omega
          obtain ⟨en, hen⟩ : ∃ en, en = (M.rdEntry (M.rdEnts s q).2).1 := ⟨_, rfl⟩
          obtain ⟨sq, hsq⟩ : ∃ sq, sq = (M.rdEntry (M.rdEnts s q).2).2 := ⟨_, rfl⟩
          have HEN := Lib.hid (show M.rdEntry (M.rdEnts s q).2 = (en, sq) by rw [hen, hsq])
          clear hen hsq
          go_upto_region 13 with fail
          have hH := H6.out.drew
          have x9 := hH.bank.cell 1 rfl 9 rfl
          have p9 := block_lt_of_cell x9
          have p9' := Nat.ne_of_lt p9
          have p9'' := Ne.symm p9'
          go_region_law (first
            | (go_simp; go_at_call 72; refine (entry_held hH HEN.out).mono ?_; rintro e w6 ⟨B, m, c6, rfl, hH⟩; have x9 := hH.bank.cell 2 rfl 9 rfl; have p9 := block_lt_of_cell x9; have p9' := Nat.ne_of_lt p9; have p9'' := Ne.symm p9'; have hH := hH.call ((Below.refl _ _).alloc (Nat.le_refl _) (.cells (entL en.term en.version en.server en.kind en.good B m c6).toArray 48)))
            | (refine step_append_held hH rfl (.tmp 49) (.tmp 52) 23 rfl 48 _ 6 64 infoEntry Try.underlying23 rfl (by decide) 1 A q c (xs.flatMap EV.cells) rfl rfl _ 1 1 (entL en.term en.version en.server en.kind en.good B m c6) rfl rfl (cells_lit1 _ (entL en.term en.version en.server en.kind en.good B m c6) _) (entL_oneL _ _ _ _ _ _ _ _) (by unfold maxLen; omega) (by omega) ?_; intro A' n' c' w7 hn' hH; have y9 := hH.bank.cell 2 rfl 9 rfl; have z9 := hH.bank.free 2 rfl 9)
            | fail "arm")
          all_goals
            subst hn'
            have H8 := Lib.hid (hH.set 2 rfl 9 (.slice A' (q + 1) c'))
            clear hH x9 y9 z9 p9 p9' p9'' H6
            go_wp2_with fail
            go_roundw
            case rel =>
              refine ⟨q + 1, xs ++ [⟨en, B, m, c6⟩], A', c', by omega, by go_num, by rw [List.length_append, HXL.out]; rfl, by rw [List.map_append, HXS.out, M.rdEnts, HEN.out]; rfl, ?_⟩
              have h := H8.out
              rw [evRows_snoc, M.rdEnts, HEN.out]
              have e1 : evsAcc A' (q + 1) c' (xs ++ [⟨en, B, m, c6⟩]) = ⟨.slice A' (q + 1) c', q + 1, 48, 6, xs.flatMap EV.cells ++ entL en.term en.version en.server en.kind en.good B m c6⟩ := by
                  rw [evsAcc, List.flatMap_append]; simp [EV.cells]
              exact Held.perm (L := (rowAcc B m c6 en.data :: ([evsAcc A' (q + 1) c' (xs ++ [⟨en, B, m, c6⟩]), boxAcc Y 25 [B8 (BitVec.ofInt 8 n0), .int .i64 n1, .int .i64 n2, .int .i64 n3, .int .i64 n4, .int .i64 n5, .bool (n6 == 1), .int .i64 n7, .int .i64 n8, .slice A' (q + 1) c'], boxAcc (X + 1) 119 (arrL [n0, n1, n2, n3, n4, n5, n6, n7, n8, (q9 : Int)]), boxAcc X 25 zeroLL] ++ (evRows xs ++ L)))) (by rw [e1]; exact h) List.perm_middle.symm
            case measure => simp [intOf]; omega
        · have i2 : ¬ (q : Int) < (q9 : Int) := by omega
          obtain rfl : q = q9 := by omega
          obtain ⟨es, hes⟩ : ∃ es, es = (M.rdEnts s q).1 := ⟨_, rfl⟩
          obtain ⟨s2, hs2⟩ : ∃ s2, s2 = (M.rdEnts s q).2 := ⟨_, rfl⟩
          have hre : M.rdEnts s q = (es, s2) := by rw [hes, hs2]
          have HLR := Lib.hid (lread_eq HRD.out (show M.rdEnts s ([n0, n1, n2, n3, n4, n5, n6, n7, n8, (q : Int)].getD 9 0).toNat = (es, s2) from hre))
          have HES := Lib.hid (show xs.map EV.e = es by rw [HXS.out, hes])
          rw [← hs2] at H6
          clear hes hs2 hre HXS
          go_wp2_with fail
          refine (pDoneN P _ A0 wr H6.out.q).mono ?_
          rintro e w6 ⟨rfl, rfl⟩
          go_wp2_with fail
          refine (must_lit wr.heap.size [decide (s2 = some [])] 1 1 _ _ wr rfl rfl rfl (by omega)).mono ?_
          rintro e w6 (⟨h0, rfl, hs⟩ | ⟨h0, rfl, hs⟩)
          rotate_left
          · have hne : ¬ s2 = some [] := by simpa using h0
            have HFIN := Lib.hid (show ReadPost w0 L (M.lread b) (.panicked wrongP) w6 from .inr ⟨by rw [HLR.out, if_neg (fun h => hne h.2.1)], rfl, ((H6.out.bank.call hs).sub (.cons _ (.cons _ (.cons _ (.cons _ (List.sublist_append_right _ _))))))⟩)
            clear h0 hs hne
            go_wp2
            exact ⟨rfl, HFIN.out⟩
          have HS2 := Lib.hid (show s2 = some [] by simpa using h0)
          have BK := Lib.hid (H6.out.bank.call hs)
          clear h0 hs H6
          have x0 := BK.out.cell 1 rfl 0 rfl
          have x1 := BK.out.cell 1 rfl 1 rfl
          have x2 := BK.out.cell 1 rfl 2 rfl
          have x3 := BK.out.cell 1 rfl 3 rfl
          have x4 := BK.out.cell 1 rfl 4 rfl
          have x5 := BK.out.cell 1 rfl 5 rfl
          have x6 := BK.out.cell 1 rfl 6 rfl
          have x7 := BK.out.cell 1 rfl 7 rfl
          have x8 := BK.out.cell 1 rfl 8 rfl
          have x9 := BK.out.cell 1 rfl 9 rfl
          have HRDS := Lib.hid (show EntsRd w6 A es by rw [← HES.out]; exact evs_rd BK.out (.head _) (fun x hx => by simp only [List.mem_cons, List.mem_append]; refine .inr (.inr (.inr (.inr (.inl ?_)))); exact List.mem_map.2 ⟨x, by simpa using hx, rfl⟩) HXL.out)
          have HLEN := Lib.hid (show es.length = q by rw [← HES.out, List.length_map, HXL.out])
          go_wp2_with fail
          clear x0 x1 x2 x3 x4 x5 x6 x7 x8 x9
          refine (lcheck_any ⟨BitVec.ofInt 8 n0, n1, n2, n3, n4, n5, n6 == 1, n7, n8, es⟩ A q c w6 HLEN.out (by omega) HRDS.out).mono ?_
          rintro e w7 (⟨h0, rfl, hs⟩ | ⟨h0, rfl, hs⟩)
          rotate_left
          · have HFIN := Lib.hid (show ReadPost w0 L (M.lread b) (.panicked wrongP) w7 from .inr ⟨(by
              rw [HLR.out, if_neg (fun h => ?_)]
              have h3 : M.lright ⟨BitVec.ofInt 8 n0, n1, n2, n3, n4, n5, n6 == 1, n7, n8, es⟩ = true := h.2.2
              rw [h0] at h3; cases h3), rfl, ((BK.out.call hs).sub (.cons _ (.cons _ (.cons _ (.cons _ (List.sublist_append_right _ _))))))⟩)
            clear h0 hs
            go_wp2
            exact ⟨rfl, HFIN.out⟩
          have BK7 := Lib.hid (BK.out.call hs)
          have HOK := Lib.hid (show M.lread b = some ⟨BitVec.ofInt 8 n0, n1, n2, n3, n4, n5, n6 == 1, n7, n8, es⟩ by
            rw [HLR.out, if_pos ⟨HFIT.out, HS2.out, h0⟩]; rfl)
          clear h0 hs BK
          have x0 := BK7.out.cell 1 rfl 0 rfl
          have x1 := BK7.out.cell 1 rfl 1 rfl
          have x2 := BK7.out.cell 1 rfl 2 rfl
          have x3 := BK7.out.cell 1 rfl 3 rfl
          have x4 := BK7.out.cell 1 rfl 4 rfl
          have x5 := BK7.out.cell 1 rfl 5 rfl
          have x6 := BK7.out.cell 1 rfl 6 rfl
          have x7 := BK7.out.cell 1 rfl 7 rfl
          have x8 := BK7.out.cell 1 rfl 8 rfl
          have x9 := BK7.out.cell 1 rfl 9 rfl
          have HRES := Lib.hid (BK7.out.boxAt 3 rfl).2
          have HFIN := Lib.hid (show ReadPost w0 L (M.lread b) (.returned (.agg (letL ⟨BitVec.ofInt 8 n0, n1, n2, n3, n4, n5, n6 == 1, n7, n8, es⟩ A q c).toArray)) (w7.setRow X (letL ⟨BitVec.ofInt 8 n0, n1, n2, n3, n4, n5, n6 == 1, n7, n8, es⟩ A q c).toArray) from
            .inl ⟨⟨BitVec.ofInt 8 n0, n1, n2, n3, n4, n5, n6 == 1, n7, n8, es⟩, xs, A, q, c, HOK.out, rfl, HES.out.symm, HXL.out.symm, (BK7.out.boxRow 3 rfl (letL ⟨BitVec.ofInt 8 n0, n1, n2, n3, n4, n5, n6 == 1, n7, n8, es⟩ A q c) rfl (by simp [zeroLL])).sub (.cons_cons _ (.cons _ (.cons _ (.cons _ (List.Sublist.refl _)))))⟩)
          go_wp2_with (with_reducible refine wpList_store_row rfl 25 (.tmp 2) (.tmp 63) rfl X (letL ⟨BitVec.ofInt 8 n0, n1, n2, n3, n4, n5, n6 == 1, n7, n8, es⟩ A q c).toArray rfl rfl 25 _ HRES.out (infoLetL _ _ _ _) rfl (letL_one _ _ _ _) ?_)
          refine bodyPost_ret (v := .agg (letL ⟨BitVec.ofInt 8 n0, n1, n2, n3, n4, n5, n6 == 1, n7, n8, es⟩ A q c).toArray) ?_ rfl HFIN.out
          exact results_cell_row rfl _ _ X 25 _ (0, 0) _ rfl (setRow_heap _ _ _ _ _ _ HRES.out) Try.underlying25 rfl (infoLetL _ _ _ _)
end Go.Proofs.Ytdmpphioflcofaa.K
