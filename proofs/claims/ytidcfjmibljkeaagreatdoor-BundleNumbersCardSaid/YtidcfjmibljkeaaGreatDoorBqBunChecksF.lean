/- The law BundleChecks answers true. -/
import Derived.Test.YtidcfjmibljkeaaGreatDoorBq9
namespace Go.Proofs.YtidcfjmibljkeaaGreatDoor.K
open Go Go.RowKit

theorem lentB_from (w0 : World) (A : Option Addr) (n c : Nat) (bs : List (BitVec 8)) (hr : RowRd w0 ⟨A, n, c⟩ bs) (hn2 : n ≤ 140737488000000) {w : World} (h : Since w0 w) :
    Calls Tryz.prog 8 #[.slice A n c] w fun e w' => ∃ g, e = .returned (.slice (some ⟨g, 0, none⟩) n (n + 12)) ∧ w.heap.size ≤ g ∧ w'.heap[g]? = some (.cells (lentL bs).toArray 5 (0, 0)) ∧ Since w w' :=
  LentBytes_any A n c bs w (h.row hr).rd hr.len hn2 hr.none
set_option maxHeartbeats 16000000 in
set_option maxRecDepth 100000 in
theorem BundleChecks_any (key : List (BitVec 8)) (b : M.Bun) (K : Option Addr) (kn kc : Nat) (A : Option Addr) (n c : Nat) (B : Option Addr) (m d : Nat) (C : Option Addr) (k l : Nat) (w : World) (hkr : RowRd w ⟨K, kn, kc⟩ key) (h : BunIn w b A n c B m d C k l) (hkn : kn ≤ 1000000000000000) (hn : n ≤ 1000000000000000) (hm : m ≤ 1000000000000000) (hk : k ≤ 1000000000000000) (hK : HasK w) (hF : HasF w) :
    Calls Tryz.prog 4 #[.slice K kn kc, .agg #[.int .i64 b.ver, .slice A n c, .slice B m d, .slice C k l]] w fun e w' => e = .returned (.bool true) ∧ Since w w' := by
  have H := Lib.hid h; have HKR := Lib.hid hkr; have HK := Lib.hid hK; have HF := Lib.hid hF
  have BK0 := Lib.hid ((Bank.nil (Below.refl w.heap.size w)).box #[.int .i64 b.ver, .slice A n c, .slice B m d, .slice C k l] 26 (by simp))
  clear h hkr hK hF
  go_enter Tryz.func4, Tryz.ntmps4
  by_cases hk1 : (3000 : Int) < (kn : Int)
  · go_wp2_with fail
    generalize w.alloc (.cells #[.int .i64 b.ver, .slice A n c, .slice B m d, .slice C k l] 26) = w1 at *
    refine (awake19_any w1 (HK.out.below BK0.out.since) (HF.out.below BK0.out.since)).mono ?_
    rintro e w2 ⟨rfl, hs⟩
    have HFIN := Lib.hid (BK0.out.call hs).since
    clear hs
    go_wp2_with fail
    go_ret
    exact ⟨rfl, HFIN.out⟩
  · go_wp2_with fail
    generalize hX1 : w.alloc (.cells #[.int .i64 b.ver, .slice A n c, .slice B m d, .slice C k l] 26) = w1 at *
    clear hX1
    refine (great_any b.ver A n c B m d C k l w1 hn hm hk).mono ?_
    rintro e w2 ⟨rfl, hs⟩
    have BK2 := Lib.hid (BK0.out.call hs)
    clear hs BK0
    by_cases hg : 3000 < n + m + k
    · rw [decide_eq_true hg]
      clear hg
      go_wp2_with fail
      refine (awake19_any w2 (HK.out.below BK2.out.since) (HF.out.below BK2.out.since)).mono ?_
      rintro e w3 ⟨rfl, hs⟩
      have HFIN := Lib.hid (BK2.out.call hs).since
      clear hs
      go_wp2_with fail
      go_ret
      exact ⟨rfl, HFIN.out⟩
    · rw [decide_eq_false hg]
      have y0 := BK2.out.cell 0 rfl 0 rfl
      have y1 := BK2.out.cell 0 rfl 1 rfl
      have y2 := BK2.out.cell 0 rfl 2 rfl
      have y3 := BK2.out.cell 0 rfl 3 rfl
      have hn' : n ≤ 3000 := by omega
      have hm' : m ≤ 3000 := by omega
      have hk' : k ≤ 3000 := by omega
      have hkn' : kn ≤ 3000 := by omega
      clear hg hk1 hn hm hk hkn
      go_wp2_with fail
      refine (LentBundle_any b A n c B m d C k l w2 (H.out.since BK2.out.since) (by omega) (by omega) (by omega)).mono ?_
      rintro e w3 ⟨gA, gB, gC, rfl, hB⟩
      have BK3 := Lib.hid (bank_under BK2.out hB)
      clear hB y0 y1 y2 y3 BK2
      go_wp2_with fail
      refine (lentB_from w K kn kc key HKR.out (by omega) BK3.out.since).mono ?_
      rintro e w4 ⟨gK, rfl, hge, ho, hs⟩
      have BK4 := Lib.hid ((BK3.out.made hs (own_of_block ho hge (by rw [lentL_length, HKR.out.len]; unfold maxLen; dsimp only; omega))).box #[.int .i64 b.ver, .slice (some ⟨gA, 0, none⟩) n (n + 12), .slice (some ⟨gB, 0, none⟩) m (m + 12), .slice (some ⟨gC, 0, none⟩) k (k + 12)] 26 (by simp))
      have HLB : Hid (∀ w', Since (w4.alloc (.cells #[.int .i64 b.ver, .slice (some ⟨gA, 0, none⟩) n (n + 12), .slice (some ⟨gB, 0, none⟩) m (m + 12), .slice (some ⟨gC, 0, none⟩) k (k + 12)] 26)) w' → BunIn w' b (some ⟨gA, 0, none⟩) n (n + 12) (some ⟨gB, 0, none⟩) m (m + 12) (some ⟨gC, 0, none⟩) k (k + 12)) := Lib.hid (fun w' hw => BunIn.since ⟨lent_row (BK4.out.boxAt 4 rfl).2 H.out.code.len, lent_row (BK4.out.boxAt 3 rfl).2 H.out.dig.len, lent_row (BK4.out.boxAt 2 rfl).2 H.out.tag.len⟩ hw)
      have HIN : Hid (∀ w', Since (w4.alloc (.cells #[.int .i64 b.ver, .slice (some ⟨gA, 0, none⟩) n (n + 12), .slice (some ⟨gB, 0, none⟩) m (m + 12), .slice (some ⟨gC, 0, none⟩) k (k + 12)] 26)) w' → RowRd w' ⟨some ⟨gK, 0, none⟩, kn, kn + 12⟩ key) := Lib.hid (fun w' hw => Since.row hw (lent_row (BK4.out.boxAt 1 rfl).2 HKR.out.len))
      clear hs ho hge BK3
      go_wp2_with fail
      generalize hX4 : w4.heap.size = X4 at *
      generalize w4.alloc (.cells #[.int .i64 b.ver, .slice (some ⟨gA, 0, none⟩) n (n + 12), .slice (some ⟨gB, 0, none⟩) m (m + 12), .slice (some ⟨gC, 0, none⟩) k (k + 12)] 26) = w5 at *
      clear hX4
      refine (pputB_any b (some ⟨gA, 0, none⟩) n (n + 12) (some ⟨gB, 0, none⟩) m (m + 12) (some ⟨gC, 0, none⟩) k (k + 12) w5 (HLB.out w5 (Below.refl _ _)) (by omega) (by omega) (by omega)).mono ?_
      rintro e w6 ⟨A6, N6, c6, rfl, hN6, ho, hs⟩
      have BK6 := Lib.hid (BK4.out.madeB hs ho)
      have S56 := Lib.hid hs
      have HN6 := Lib.hid hN6
      have y0 := BK6.out.cell 1 rfl 0 rfl
      have y1 := BK6.out.cell 1 rfl 1 rfl
      have y2 := BK6.out.cell 1 rfl 2 rfl
      have y3 := BK6.out.cell 1 rfl 3 rfl
      clear hs ho hN6 BK4
      go_wp2_with fail
      clear y0 y1 y2 y3
      refine (pputB_any b (some ⟨gA, 0, none⟩) n (n + 12) (some ⟨gB, 0, none⟩) m (m + 12) (some ⟨gC, 0, none⟩) k (k + 12) w6 (HLB.out w6 S56.out) (by omega) (by omega) (by omega)).mono ?_
      rintro e w7 ⟨A7, N7, c7, rfl, hN7, ho, hs⟩
      have BK7 := Lib.hid (BK6.out.madeB hs ho)
      have S57 := Lib.hid (Since.add S56.out hs)
      have HN7 := Lib.hid hN7
      have y0 := BK7.out.cell 7 rfl 0 rfl
      have y1 := BK7.out.cell 7 rfl 1 rfl
      have y2 := BK7.out.cell 7 rfl 2 rfl
      have y3 := BK7.out.cell 7 rfl 3 rfl
      clear hs ho hN7 BK6 S56
      go_wp2_with fail
      clear y0 y1 y2 y3
      refine (rputB_any b A n c B m d C k l w7 (H.out.since BK7.out.since) (by omega) (by omega) (by omega)).mono ?_
      rintro e w8 ⟨A8, N8, c8, rfl, hN8, ho, hs⟩
      have BK8 := Lib.hid (BK7.out.madeB hs ho)
      have S58 := Lib.hid (Since.add S57.out hs)
      have HN8 := Lib.hid hN8
      clear hs ho hN8 BK7 S57
      obtain ⟨ee, hee⟩ : ∃ ee : Int, ee = (M.bwrong b : Int) := ⟨_, rfl⟩
      rw [← hee]
      clear hee
      have hlc : b.code.length = n := H.out.code.len
      have hld : b.dig.length = m := H.out.dig.len
      have hlt : b.tag.length = k := H.out.tag.len
      have hpl : (M.bput b).length ≤ 100000 := by
        unfold M.bput
        split
        · unfold M.bbytes; simp only [List.length_append, M.bpart_length, M.blob_length]; omega
        · simp
      have HP6 := Lib.hid (show N6 ≤ 100000 by rw [HN6.out]; exact hpl)
      have HP7 := Lib.hid (show N7 ≤ 100000 by rw [HN7.out]; exact hpl)
      clear hlc hld hlt hpl
      go_upto_region 7 with fail
      go_cut [57] (fun s wx => s = .bool false ∧ Bank w wx [rowAcc A8 N8 c8 (M.bput b), rowAcc A7 N7 c7 (M.bput b), rowAcc A6 N6 c6 (M.bput b), boxAcc X4 26 [.int .i64 b.ver, .slice (some ⟨gA, 0, none⟩) n (n + 12), .slice (some ⟨gB, 0, none⟩) m (m + 12), .slice (some ⟨gC, 0, none⟩) k (k + 12)], boxAcc gK 5 (lentL key), boxAcc gC 5 (lentL b.tag), boxAcc gB 5 (lentL b.dig), boxAcc gA 5 (lentL b.code), boxAcc w.heap.size 26 [.int .i64 b.ver, .slice A n c, .slice B m d, .slice C k l]])
      case first =>
        have hB : Bank w w8.drew [rowAcc A8 N8 c8 (M.bput b), rowAcc A7 N7 c7 (M.bput b), rowAcc A6 N6 c6 (M.bput b), boxAcc X4 26 [.int .i64 b.ver, .slice (some ⟨gA, 0, none⟩) n (n + 12), .slice (some ⟨gB, 0, none⟩) m (m + 12), .slice (some ⟨gC, 0, none⟩) k (k + 12)], boxAcc gK 5 (lentL key), boxAcc gC 5 (lentL b.tag), boxAcc gB 5 (lentL b.dig), boxAcc gA 5 (lentL b.code), boxAcc w.heap.size 26 [.int .i64 b.ver, .slice A n c, .slice B m d, .slice C k l]] := BK8.out.drew
        have x0 := hB.cell 3 rfl 0 rfl
        have x1 := hB.cell 3 rfl 1 rfl
        have x2 := hB.cell 3 rfl 2 rfl
        have x3 := hB.cell 3 rfl 3 rfl
        have y0 := hB.cell 8 rfl 0 rfl
        have y1 := hB.cell 8 rfl 1 rfl
        have y2 := hB.cell 8 rfl 2 rfl
        have y3 := hB.cell 8 rfl 3 rfl
        go_region_law (first
          | (go_simp; go_at_call 19; refine (same_made (hB.row 2 rfl) (hB.row 0 rfl) (by have := HP6.out; omega) (Below.refl _ _)).mono ?_; rintro e w9 ⟨rfl, hs9⟩; have hB := hB.call hs9; clear hs9; have x0 := hB.cell 3 rfl 0 rfl; have y0 := hB.cell 8 rfl 0 rfl; have x1 := hB.cell 3 rfl 1 rfl; have y1 := hB.cell 8 rfl 1 rfl; have x2 := hB.cell 3 rfl 2 rfl; have y2 := hB.cell 8 rfl 2 rfl; have x3 := hB.cell 3 rfl 3 rfl; have y3 := hB.cell 8 rfl 3 rfl; skip)
          | (go_simp; go_at_call 20; refine (pcheckB_any key b (some ⟨gK, 0, none⟩) kn (kn + 12) (some ⟨gA, 0, none⟩) n (n + 12) (some ⟨gB, 0, none⟩) m (m + 12) (some ⟨gC, 0, none⟩) k (k + 12) _ (lent_row (hB.boxAt 4 rfl).2 HKR.out.len) ⟨lent_row (hB.boxAt 7 rfl).2 H.out.code.len, lent_row (hB.boxAt 6 rfl).2 H.out.dig.len, lent_row (hB.boxAt 5 rfl).2 H.out.tag.len⟩ (by omega) (by omega) (by omega) (by omega) (HK.out.below hB.since) (HF.out.below hB.since)).mono ?_; rintro e w10 ⟨rfl, hs10⟩; have hB := hB.call hs10; clear hs10; have x0 := hB.cell 3 rfl 0 rfl; have y0 := hB.cell 8 rfl 0 rfl; have x1 := hB.cell 3 rfl 1 rfl; have y1 := hB.cell 8 rfl 1 rfl; have x2 := hB.cell 3 rfl 2 rfl; have y2 := hB.cell 8 rfl 2 rfl; have x3 := hB.cell 3 rfl 3 rfl; have y3 := hB.cell 8 rfl 3 rfl; skip)
          | (go_simp; go_at_call 21; refine (rcheckB_any key b K kn kc A n c B m d C k l _ (Since.row hB.since HKR.out) (H.out.since hB.since) (by omega) (by omega) (by omega) (by omega)).mono ?_; rintro e w11 ⟨rfl, hs11⟩; have hB := hB.call hs11; clear hs11; have x0 := hB.cell 3 rfl 0 rfl; have y0 := hB.cell 8 rfl 0 rfl; have x1 := hB.cell 3 rfl 1 rfl; have y1 := hB.cell 8 rfl 1 rfl; have x2 := hB.cell 3 rfl 2 rfl; have y2 := hB.cell 8 rfl 2 rfl; have x3 := hB.cell 3 rfl 3 rfl; have y3 := hB.cell 8 rfl 3 rfl; skip)
          | fail "arm")
        all_goals
          have HFIN := Lib.hid hB
          clear hB x0 x1 x2 x3 y0 y1 y2 y3
          go_wp2_with fail
          go_meet
          exact ⟨rfl, HFIN.out⟩
      case rest =>
        obtain ⟨rfl, hB⟩ := hcut
        have BK9 := Lib.hid hB
        have x0 := hB.cell 3 rfl 0 rfl
        have x1 := hB.cell 3 rfl 1 rfl
        have x2 := hB.cell 3 rfl 2 rfl
        have x3 := hB.cell 3 rfl 3 rfl
        have y0 := hB.cell 8 rfl 0 rfl
        have y1 := hB.cell 8 rfl 1 rfl
        have y2 := hB.cell 8 rfl 2 rfl
        have y3 := hB.cell 8 rfl 3 rfl
        clear hB BK8
        go_wp2_with fail
        clear x0 x1 x2 x3 y0 y1 y2 y3
        refine (KeptBundle_any b gA gB gC n m k A c B d C l wc (BK9.out.boxAt 7 rfl).2 (BK9.out.boxAt 6 rfl).2 (BK9.out.boxAt 5 rfl).2 (H.out.since BK9.out.since) (by omega) (by omega) (by omega)).mono ?_
        rintro e w10 ⟨rfl, hs⟩
        have BK10 := Lib.hid (BK9.out.call hs)
        clear hs BK9
        go_wp2_with fail
        refine (kept_made (BK10.out.boxAt 4 rfl).2 (Since.row BK10.out.since HKR.out) (by omega) (Below.refl _ _)).mono ?_
        rintro e w11 ⟨rfl, hs⟩
        have BK11 := Lib.hid (BK10.out.call hs)
        clear hs BK10
        go_wp2_with fail
        have BP := Lib.hid (show Bank w w11 [rowAcc A7 N7 c7 (M.bput b), rowAcc A6 N6 c6 (M.bput b)] from BK11.out.sub (.cons _ (.cons_cons _ (.cons_cons _ (List.nil_sublist _)))))
        refine (apart_lit [(⟨A6, N6, c6⟩, M.bput b), (⟨A7, N7, c7⟩, M.bput b)] _ 2 2 rfl rfl BP.out (by simp) (by intro p hp; simp at hp; rcases hp with rfl | rfl <;> first | exact Nat.le_trans HP6.out (by omega) | exact Nat.le_trans HP7.out (by omega))).mono ?_
        rintro e w12 ⟨rfl, hs⟩
        have S12 := Lib.hid hs
        clear hs BK11 BP
        go_wp2_with fail
        refine (awake19_any w12 (HK.out.below S12.out) (HF.out.below S12.out)).mono ?_
        rintro e w13 ⟨rfl, hs⟩
        have HFIN := Lib.hid (Since.add S12.out hs)
        clear hs
        go_wp2_with fail
        go_ret
        exact ⟨rfl, HFIN.out⟩
end Go.Proofs.YtidcfjmibljkeaaGreatDoor.K
