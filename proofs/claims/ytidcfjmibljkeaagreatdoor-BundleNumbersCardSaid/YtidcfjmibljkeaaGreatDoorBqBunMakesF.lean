/- The law BundleMakes answers true. -/
import Derived.Test.YtidcfjmibljkeaaGreatDoorBqBunGetsF
import Derived.Test.YtidcfjmibljkeaaGreatDoorBqKitOver
namespace Go.Proofs.YtidcfjmibljkeaaGreatDoor.K
open Go Go.RowKit

theorem Bank.over {w0 w w' : World} {p : Acc} {L : List Acc} {X : Nat} (h : Bank w0 w (p :: L)) (hX : p.v.ownBlock = some X) (hg : w.grownBy w' (some X)) : Bank w0 w' L :=
  Bank.other h.drop hg (h.lt (List.mem_cons_self ..) hX).1 (fun q hq e => (List.pairwise_cons.1 h.sep).1 q hq X hX e)
theorem bmake_lens (key : List (BitVec 8)) (v : Int) (code : List (BitVec 8)) : (M.bmake key v code).code.length ≤ code.length ∧ (M.bmake key v code).dig.length ≤ 32 ∧ (M.bmake key v code).tag.length ≤ 32 := by
  by_cases h : M.bmakeE v code = 0
  · rw [show M.bmake key v code = M.bseal key v code from if_pos h]
    exact ⟨Nat.le_refl _, Nat.le_refl _, Nat.le_refl _⟩
  · rw [show M.bmake key v code = M.zeroBun from if_neg h]
    exact ⟨Nat.zero_le _, Nat.zero_le _, Nat.zero_le _⟩
set_option maxHeartbeats 16000000 in
set_option maxRecDepth 100000 in
theorem BundleMakes_any (key code : List (BitVec 8)) (v : Int) (K : Option Addr) (kn kc : Nat) (A : Option Addr) (n c : Nat) (w : World) (hk : RowRd w ⟨K, kn, kc⟩ key) (hc : RowRd w ⟨A, n, c⟩ code) (hK : HasK w) (hF : HasF w) :
    Calls Tryz.prog 3 #[.slice K kn kc, .int .i64 v, .slice A n c] w fun e w' => e = .returned (.bool true) ∧ Since w w' := by
  have HKY := Lib.hid hk; have HC := Lib.hid hc; have HK := Lib.hid hK; have HF := Lib.hid hF
  have HLK := Lib.hid (show key.length = kn from hk.len); have HLC := Lib.hid (show code.length = n from hc.len)
  clear hk hc hK hF
  go_enter Tryz.func3, Tryz.ntmps3
  by_cases h1 : 3000 < kn
  · have i1 : (3000 : Int) < (kn : Int) := by omega
    go_wp2_with fail
    refine (awake19_any w HK.out HF.out).mono ?_
    rintro e w2 ⟨rfl, hs⟩
    have HFIN := Lib.hid hs
    clear hs
    go_wp2_with fail
    go_ret
    exact ⟨rfl, HFIN.out⟩
  have i1 : ¬ (3000 : Int) < (kn : Int) := by omega
  by_cases h2 : 3000 < n
  · have i2 : (3000 : Int) < (n : Int) := by omega
    go_wp2_with fail
    refine (awake19_any w HK.out HF.out).mono ?_
    rintro e w2 ⟨rfl, hs⟩
    have HFIN := Lib.hid hs
    clear hs
    go_wp2_with fail
    go_ret
    exact ⟨rfl, HFIN.out⟩
  have i2 : ¬ (3000 : Int) < (n : Int) := by omega
  have d1 : decide ((3000 : Int) < (kn : Int)) = false := by simpa using i1
  have d2 : decide ((3000 : Int) < (n : Int)) = false := by simpa using i2
  go_wp2_with fail
  clear i1 i2 d1 d2
  refine (lentB_from w K kn kc key HKY.out (by omega) (Below.refl _ _)).mono ?_
  rintro e w1 ⟨gK, rfl, hge, ho, hs⟩
  have BK0 := Lib.hid (show Bank w w1 [boxAcc gK 5 (lentL key)] from (Bank.nil (Below.refl w.heap.size w)).made hs (own_of_block ho hge (by rw [lentL_length, HLK.out]; unfold maxLen; omega)))
  clear hs ho hge
  go_wp2_with fail
  refine (lentB_from w A n c code HC.out (by omega) BK0.out.since).mono ?_
  rintro e w1' ⟨gC, rfl, hge, ho, hs⟩
  have BK1 := Lib.hid (show Bank w w1' [boxAcc gC 5 (lentL code), boxAcc gK 5 (lentL key)] from BK0.out.made hs (own_of_block ho hge (by rw [lentL_length, HLC.out]; unfold maxLen; omega)))
  clear hs ho hge BK0
  have hgC := BK1.out.boxAt 0 rfl
  have hgK := BK1.out.boxAt 1 rfl
  have HINK : Hid (∀ w', Since w1' w' → RowRd w' ⟨some ⟨gK, 0, none⟩, kn, kn + 12⟩ key) := Lib.hid (fun w' hw => Since.row hw (lent_row hgK.2 HLK.out))
  have HINC : Hid (∀ w', Since w1' w' → RowRd w' ⟨some ⟨gC, 0, none⟩, n, n + 12⟩ code) := Lib.hid (fun w' hw => Since.row hw (lent_row hgC.2 HLC.out))
  have HGK := Lib.hid hgK.2; have HGC := Lib.hid hgC.2
  have S1 := Lib.hid BK1.out.since
  clear hgC hgK
  go_wp2_with fail
  have hbl := bmake_lens key v code
  rw [HLC.out] at hbl
  obtain ⟨b, hbd⟩ : ∃ b, b = M.bmake key v code := ⟨_, rfl⟩
  have HBD := Lib.hid hbd
  obtain ⟨ee, hee⟩ : ∃ ee : Int, ee = (M.bmakeE v code : Int) := ⟨_, rfl⟩
  have HEE := Lib.hid hee
  rw [← hbd] at hbl
  clear hbd hee
  refine (pmakeB_any key code v (some ⟨gK, 0, none⟩) (some ⟨gC, 0, none⟩) kn (kn + 12) n (n + 12) w1' (HINK.out _ (Below.refl _ _)) (HINC.out _ (Below.refl _ _)) (by omega) (by omega) (HK.out.below S1.out) (HF.out.below S1.out)).mono ?_
  rintro e w2 ⟨x, rfl, A2, n2, c2, B2, m2, d2, C2, k2, l2, rfl, hn2, hm2, hk2, hB⟩
  rw [← HEE.out]
  rw [← HBD.out] at hn2 hm2 hk2 hB ⊢
  have HN2 := Lib.hid hn2; have HM2 := Lib.hid hm2; have HK2 := Lib.hid hk2
  have z1 : n2 ≤ 3000 := by omega
  have z2 : m2 ≤ 3000 := by omega
  have z3 : k2 ≤ 3000 := by omega
  have BK2 := Lib.hid ((bank_under BK1.out hB).box #[.int .i64 b.ver, .slice A2 n2 c2, .slice B2 m2 d2, .slice C2 k2 l2] 26 (by simp))
  have S2 := Lib.hid (Since.alloc hB.since (.cells #[.int .i64 b.ver, .slice A2 n2 c2, .slice B2 m2 d2, .slice C2 k2 l2] 26))
  clear hn2 hm2 hk2 hB BK1
  go_wp2_with fail
  generalize hX2 : w2.heap.size = X2 at *
  generalize w2.alloc (.cells #[.int .i64 b.ver, .slice A2 n2 c2, .slice B2 m2 d2, .slice C2 k2 l2] 26) = w3 at *
  clear hX2
  refine (pmakeB_any key code v (some ⟨gK, 0, none⟩) (some ⟨gC, 0, none⟩) kn (kn + 12) n (n + 12) w3 (HINK.out _ S2.out) (HINC.out _ S2.out) (by omega) (by omega) (HK.out.below BK2.out.since) (HF.out.below BK2.out.since)).mono ?_
  rintro e w4 ⟨x, rfl, A4, n4, c4, B4, m4, d4, C4, k4, l4, rfl, hn4, hm4, hk4, hB⟩
  rw [← HEE.out]
  rw [← HBD.out] at hn4 hm4 hk4 hB ⊢
  have HN4 := Lib.hid hn4; have HM4 := Lib.hid hm4; have HK4 := Lib.hid hk4
  have z4 : n4 ≤ 3000 := by omega
  have z5 : m4 ≤ 3000 := by omega
  have z6 : k4 ≤ 3000 := by omega
  have BK4 := Lib.hid ((bank_under BK2.out hB).box #[.int .i64 b.ver, .slice A4 n4 c4, .slice B4 m4 d4, .slice C4 k4 l4] 26 (by simp))
  have S4 := Lib.hid (Since.add S2.out (Since.alloc hB.since (.cells #[.int .i64 b.ver, .slice A4 n4 c4, .slice B4 m4 d4, .slice C4 k4 l4] 26)))
  clear hn4 hm4 hk4 hB BK2 S2
  go_wp2_with fail
  generalize hX4 : w4.heap.size = X4 at *
  generalize w4.alloc (.cells #[.int .i64 b.ver, .slice A4 n4 c4, .slice B4 m4 d4, .slice C4 k4 l4] 26) = w5 at *
  clear hX4
  refine (rmake_any key code v K A kn kc n c w5 (Since.row BK4.out.since HKY.out) (Since.row BK4.out.since HC.out) (by omega) (by omega)).mono ?_
  rintro e w6 ⟨x, rfl, A6, n6, c6, B6, m6, d6, C6, k6, l6, rfl, hn6, hm6, hk6, hB⟩
  rw [← HEE.out]
  rw [← HBD.out] at hn6 hm6 hk6 hB ⊢
  have BK6 := Lib.hid ((bank_under BK4.out hB).box #[.int .i64 b.ver, .slice A6 n6 c6, .slice B6 m6 d6, .slice C6 k6 l6] 26 (by simp))
  have S6 := Lib.hid (Since.add S4.out (Since.alloc hB.since (.cells #[.int .i64 b.ver, .slice A6 n6 c6, .slice B6 m6 d6, .slice C6 k6 l6] 26)))
  clear hn6 hm6 hk6 hB BK4 S4
  generalize hX6 : w6.heap.size = X6 at *
  have x0 := BK6.out.cell 8 rfl 0 rfl
  have x1 := BK6.out.cell 8 rfl 1 rfl
  have x2 := BK6.out.cell 8 rfl 2 rfl
  have x3 := BK6.out.cell 8 rfl 3 rfl
  go_wp2_with fail
  clear x0 x1 x2 x3
  generalize w6.alloc (.cells #[.int .i64 b.ver, .slice A6 n6 c6, .slice B6 m6 d6, .slice C6 k6 l6] 26) = w7 at *
  refine (SameBundle_eq b A2 n2 c2 B2 m2 d2 C2 k2 l2 A6 n6 c6 B6 m6 d6 C6 k6 l6 w7 ⟨BK6.out.row 11 rfl, BK6.out.row 10 rfl, BK6.out.row 9 rfl⟩ ⟨BK6.out.row 3 rfl, BK6.out.row 2 rfl, BK6.out.row 1 rfl⟩ (by omega) (by omega) (by omega)).mono ?_
  rintro e w8 ⟨rfl, hs⟩
  have BK8 := Lib.hid (BK6.out.call hs)
  have S8 := Lib.hid (Since.add S6.out hs)
  clear hs BK6 S6
  go_wp2_with fail
  refine (kept_made HGK.out (Since.row S1.out HKY.out) (by omega) S8.out).mono ?_
  rintro e w9 ⟨rfl, hs⟩
  have BK9 := Lib.hid (BK8.out.call hs)
  have S9 := Lib.hid (Since.add S8.out hs)
  clear hs BK8 S8
  go_wp2_with fail
  refine (kept_made HGC.out (Since.row S1.out HC.out) (by omega) S9.out).mono ?_
  rintro e wA ⟨rfl, hs⟩
  have BKA := Lib.hid (BK9.out.call hs)
  clear hs BK9 S9
  go_wp2_with fail
  refine (OverBytes_any gK kn (key ++ marks 1 0 12) 5 wA (BKA.out.boxAt 13 rfl).2 (by rw [List.length_append, HLK.out]; simp [marks]) (by omega)).mono ?_
  rintro e wB ⟨rfl, hgr⟩
  have BKB := Lib.hid (Bank.over (BKA.out.pick [13, 0, 1, 2, 3, 4, 5, 6, 7, 8, 9, 10, 11, 12] (by decide) (boxAcc gK 5 (lentL key) :: [boxAcc X6 26 [.int .i64 b.ver, .slice A6 n6 c6, .slice B6 m6 d6, .slice C6 k6 l6], rowAcc C6 k6 l6 b.tag, rowAcc B6 m6 d6 b.dig, rowAcc A6 n6 c6 b.code, boxAcc X4 26 [.int .i64 b.ver, .slice A4 n4 c4, .slice B4 m4 d4, .slice C4 k4 l4], rowAcc C4 k4 l4 b.tag, rowAcc B4 m4 d4 b.dig, rowAcc A4 n4 c4 b.code, boxAcc X2 26 [.int .i64 b.ver, .slice A2 n2 c2, .slice B2 m2 d2, .slice C2 k2 l2], rowAcc C2 k2 l2 b.tag, rowAcc B2 m2 d2 b.dig, rowAcc A2 n2 c2 b.code, boxAcc gC 5 (lentL code)]) rfl) rfl hgr)
  clear hgr BKA
  go_wp2_with fail
  refine (OverBytes_any gC n (code ++ marks 1 0 12) 5 wB (BKB.out.boxAt 12 rfl).2 (by rw [List.length_append, HLC.out]; simp [marks]) (by omega)).mono ?_
  rintro e wC ⟨rfl, hgr⟩
  have BKC := Lib.hid (Bank.over (BKB.out.pick [12, 0, 1, 2, 3, 4, 5, 6, 7, 8, 9, 10, 11] (by decide) (boxAcc gC 5 (lentL code) :: [boxAcc X6 26 [.int .i64 b.ver, .slice A6 n6 c6, .slice B6 m6 d6, .slice C6 k6 l6], rowAcc C6 k6 l6 b.tag, rowAcc B6 m6 d6 b.dig, rowAcc A6 n6 c6 b.code, boxAcc X4 26 [.int .i64 b.ver, .slice A4 n4 c4, .slice B4 m4 d4, .slice C4 k4 l4], rowAcc C4 k4 l4 b.tag, rowAcc B4 m4 d4 b.dig, rowAcc A4 n4 c4 b.code, boxAcc X2 26 [.int .i64 b.ver, .slice A2 n2 c2, .slice B2 m2 d2, .slice C2 k2 l2], rowAcc C2 k2 l2 b.tag, rowAcc B2 m2 d2 b.dig, rowAcc A2 n2 c2 b.code]) rfl) rfl hgr)
  clear hgr BKB
  have x0 := BKC.out.cell 8 rfl 0 rfl
  have x1 := BKC.out.cell 8 rfl 1 rfl
  have x2 := BKC.out.cell 8 rfl 2 rfl
  have x3 := BKC.out.cell 8 rfl 3 rfl
  have y0 := BKC.out.cell 0 rfl 0 rfl
  have y1 := BKC.out.cell 0 rfl 1 rfl
  have y2 := BKC.out.cell 0 rfl 2 rfl
  have y3 := BKC.out.cell 0 rfl 3 rfl
  go_wp2_with fail
  clear x0 x1 x2 x3 y0 y1 y2 y3
  refine (SameBundle_eq b A2 n2 c2 B2 m2 d2 C2 k2 l2 A6 n6 c6 B6 m6 d6 C6 k6 l6 wC ⟨BKC.out.row 11 rfl, BKC.out.row 10 rfl, BKC.out.row 9 rfl⟩ ⟨BKC.out.row 3 rfl, BKC.out.row 2 rfl, BKC.out.row 1 rfl⟩ (by omega) (by omega) (by omega)).mono ?_
  rintro e wD ⟨rfl, hs⟩
  have BKD := Lib.hid (BKC.out.call hs)
  clear hs BKC
  have x0 := BKD.out.cell 8 rfl 0 rfl
  have x1 := BKD.out.cell 8 rfl 1 rfl
  have x2 := BKD.out.cell 8 rfl 2 rfl
  have x3 := BKD.out.cell 8 rfl 3 rfl
  have y0 := BKD.out.cell 4 rfl 0 rfl
  have y1 := BKD.out.cell 4 rfl 1 rfl
  have y2 := BKD.out.cell 4 rfl 2 rfl
  have y3 := BKD.out.cell 4 rfl 3 rfl
  have q1 : X4 < wD.heap.size := block_lt_of_cell y0
  have q2 := Nat.ne_of_lt q1
  have q3 := Ne.symm q2
  have BKE := Lib.hid (((BKD.out.box #[.int .i64 b.ver, .slice A2 n2 c2, .slice B2 m2 d2, .slice C2 k2 l2] 26 (by simp)).box #[.int .i64 b.ver, .slice A4 n4 c4, .slice B4 m4 d4, .slice C4 k4 l4] 26 (by simp)).box #[.slice (some ⟨wD.heap.size, 0, none⟩) 1 1, .slice (some ⟨wD.heap.size + 1, 0, none⟩) 1 1] 34 (by simp))
  rw [World.size_alloc, World.size_alloc] at BKE
  go_wp2_with fail
  clear x0 x1 x2 x3 y0 y1 y2 y3 q1 q2 q3
  generalize hX9 : wD.heap.size = X9 at *
  generalize ((wD.alloc (.cells #[.int .i64 b.ver, .slice A2 n2 c2, .slice B2 m2 d2, .slice C2 k2 l2] 26)).alloc (.cells #[.int .i64 b.ver, .slice A4 n4 c4, .slice B4 m4 d4, .slice C4 k4 l4] 26)).alloc (.cells #[.slice (some ⟨X9, 0, none⟩) 1 1, .slice (some ⟨X9 + 1, 0, none⟩) 1 1] 34) = wE at *
  clear hX9
  refine (ApartBundles_any (X9 + 1 + 1) X9 (X9 + 1) b.ver b.ver A2 B2 C2 A4 B4 C4 n2 c2 m2 d2 k2 l2 n4 c4 m4 d4 k4 l4 b.code b.dig b.tag b.code b.dig b.tag wE (BKE.out.pick [0, 2, 1, 14, 13, 12, 10, 9, 8] (by decide) _ rfl) (by omega)).mono ?_
  rintro e wF ⟨rfl, hs⟩
  have SB := Lib.hid hs
  clear hs BKE
  go_wp2_with fail
  refine (awake19_any wF (HK.out.below SB.out) (HF.out.below SB.out)).mono ?_
  rintro e wG ⟨rfl, hs⟩
  have HFIN := Lib.hid (Since.add SB.out hs)
  clear hs
  go_wp2_with fail
  go_ret
  exact ⟨rfl, HFIN.out⟩
end Go.Proofs.YtidcfjmibljkeaaGreatDoor.K
