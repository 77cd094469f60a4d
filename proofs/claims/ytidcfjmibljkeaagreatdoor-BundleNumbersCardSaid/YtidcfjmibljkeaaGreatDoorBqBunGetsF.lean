/- The law BundleGets answers true. -/
import Derived.Test.YtidcfjmibljkeaaGreatDoorBqBunChecksF
import Derived.Test.YtidcfjmibljkeaaGreatDoorBqBunPubG
import Derived.Test.YtidcfjmibljkeaaGreatDoorBqApartBun
import Derived.Test.YtidcfjmibljkeaaGreatDoorBqBunStep
namespace Go.Proofs.YtidcfjmibljkeaaGreatDoor.K
open Go Go.RowKit

theorem bget_lens (l : List (BitVec 8)) : (M.bget l).code.length ≤ l.length ∧ (M.bget l).dig.length ≤ l.length ∧ (M.bget l).tag.length ≤ l.length := by
  by_cases h : M.bgetE l = 0
  · have h2 := congrArg List.length (M.bget_put l h).2
    rw [M.bbytes_length] at h2
    omega
  · have e : M.bget l = M.zeroBun := by unfold M.bget; rw [if_neg h]
    rw [e]
    exact ⟨Nat.zero_le _, Nat.zero_le _, Nat.zero_le _⟩
theorem Bank.pick {w0 w : World} {L : List Acc} (h : Bank w0 w L) (ix : List Nat) (hn : ix.Nodup) (M : List Acc) (hM : M.map some = ix.map fun i => L[i]?) : Bank w0 w M := by
  have hlen : M.length = ix.length := by have := congrArg List.length hM; simpa using this
  have hat : ∀ a (ha : a < M.length), L[ix[a]'(by omega)]? = some M[a] := fun a ha => by
    have h2 := congrArg (fun l : List (Option Acc) => l[a]?) hM
    simp only [List.getElem?_map, List.getElem?_eq_getElem ha, List.getElem?_eq_getElem (show a < ix.length by omega), Option.map_some, Option.some.injEq] at h2
    exact h2.symm
  refine ⟨h.since, fun p hp => ?_, List.pairwise_iff_getElem.2 fun a b ha hb hab => h.sepAt (hat a ha) (hat b hb) fun e => ?_⟩
  · obtain ⟨a, ha, rfl⟩ := List.mem_iff_getElem.1 hp
    exact h.own _ (List.mem_of_getElem? (hat a ha))
  · exact List.pairwise_iff_getElem.1 hn a b (by omega) (by omega) hab e
set_option maxHeartbeats 16000000 in
set_option maxRecDepth 100000 in
theorem BundleGets_any (bb : List (BitVec 8)) (B : Option Addr) (m d : Nat) (w : World) (hb : RowRd w ⟨B, m, d⟩ bb) (hK : HasK w) (hF : HasF w) :
    Calls Tryz.prog 5 #[.slice B m d] w fun e w' => e = .returned (.bool true) ∧ Since w w' := by
  have HB := Lib.hid hb; have HK := Lib.hid hK; have HF := Lib.hid hF
  have HLB := Lib.hid (show bb.length = m from hb.len)
  clear hb hK hF
  go_enter Tryz.func5, Tryz.ntmps5
  by_cases h1 : 3000 < m
  · have i1 : (3000 : Int) < (m : Int) := by omega
    go_wp2_with fail
    refine (awake19_any w HK.out HF.out).mono ?_
    rintro e w2 ⟨rfl, hs⟩
    have HFIN := Lib.hid hs
    clear hs
    go_wp2_with fail
    go_ret
    exact ⟨rfl, HFIN.out⟩
  have i1 : ¬ (3000 : Int) < (m : Int) := by omega
  go_wp2_with fail
  clear i1
  refine (lentB_from w B m d bb HB.out (by omega) (Below.refl _ _)).mono ?_
  rintro e w1 ⟨gK, rfl, hge, ho, hs⟩
  have BK1 := Lib.hid ((Bank.nil (Below.refl w.heap.size w)).made hs (own_of_block ho hge (by rw [lentL_length, HLB.out]; unfold maxLen; omega)))
  have HIN : Hid (∀ w', Since w1 w' → RowRd w' ⟨some ⟨gK, 0, none⟩, m, m + 12⟩ bb) := Lib.hid (fun w' hw => Since.row hw (lent_row ho HLB.out))
  have HKB := Lib.hid ho; have S1 := Lib.hid hs
  clear hs ho hge
  go_wp2_with fail
  have hbl := bget_lens bb
  rw [HLB.out] at hbl
  obtain ⟨b, hbd⟩ : ∃ b, b = M.bget bb := ⟨_, rfl⟩
  have HBD := Lib.hid hbd
  obtain ⟨ee, hee⟩ : ∃ ee : Int, ee = (M.bgetE bb : Int) := ⟨_, rfl⟩
  have HEE := Lib.hid hee
  rw [← hbd] at hbl
  clear hbd hee
  refine (pgetB_any (some ⟨gK, 0, none⟩) m (m + 12) bb w1 (HIN.out _ (Below.refl _ _)) (by omega)).mono ?_
  rintro e w2 ⟨x, rfl, A2, n2, c2, B2, m2, d2, C2, k2, l2, rfl, hn2, hm2, hk2, hB⟩
  rw [← HEE.out]
  rw [← HBD.out] at hn2 hm2 hk2 hB ⊢
  have HN2 := Lib.hid hn2; have HM2 := Lib.hid hm2; have HK2 := Lib.hid hk2
  have z1 : n2 ≤ 3000 := by omega
  have z2 : m2 ≤ 3000 := by omega
  have z3 : k2 ≤ 3000 := by omega
  have BK2 := Lib.hid ((bank_under BK1.out hB).box #[.int .i64 b.ver, .slice A2 n2 c2, .slice B2 m2 d2, .slice C2 k2 l2] 26 (by simp))
  have S2 := Lib.hid (Since.alloc hB.since (.cells #[.int .i64 b.ver, .slice A2 n2 c2, .slice B2 m2 d2, .slice C2 k2 l2] 26))
  clear hn2 hm2 hk2 hB BK1
  go_wp2_with fail
  generalize hX2 : w2.heap.size = X2 at *
  generalize w2.alloc (.cells #[.int .i64 b.ver, .slice A2 n2 c2, .slice B2 m2 d2, .slice C2 k2 l2] 26) = w3 at *
  clear hX2
  refine (pgetB_any (some ⟨gK, 0, none⟩) m (m + 12) bb w3 (HIN.out _ S2.out) (by omega)).mono ?_
  rintro e w4 ⟨x, rfl, A4, n4, c4, B4, m4, d4, C4, k4, l4, rfl, hn4, hm4, hk4, hB⟩
  rw [← HEE.out]
  rw [← HBD.out] at hn4 hm4 hk4 hB ⊢
  have HN4 := Lib.hid hn4; have HM4 := Lib.hid hm4; have HK4 := Lib.hid hk4
  have z4 : n4 ≤ 3000 := by omega
  have z5 : m4 ≤ 3000 := by omega
  have z6 : k4 ≤ 3000 := by omega
  have BK4 := Lib.hid ((bank_under BK2.out hB).box #[.int .i64 b.ver, .slice A4 n4 c4, .slice B4 m4 d4, .slice C4 k4 l4] 26 (by simp))
  have S4 := Lib.hid (Since.add S2.out (Since.alloc hB.since (.cells #[.int .i64 b.ver, .slice A4 n4 c4, .slice B4 m4 d4, .slice C4 k4 l4] 26)))
  clear hn4 hm4 hk4 hB BK2 S2
  go_wp2_with fail
  generalize hX4 : w4.heap.size = X4 at *
  generalize w4.alloc (.cells #[.int .i64 b.ver, .slice A4 n4 c4, .slice B4 m4 d4, .slice C4 k4 l4] 26) = w5 at *
  clear hX4
  refine (rgetB_any B m d bb w5 (Since.row BK4.out.since HB.out) (by omega)).mono ?_
  rintro e w6 ⟨x, rfl, A6, n6, c6, B6, m6, d6, C6, k6, l6, rfl, hn6, hm6, hk6, hB⟩
  rw [← HEE.out]
  rw [← HBD.out] at hn6 hm6 hk6 hB ⊢
  have BK6 := Lib.hid ((bank_under BK4.out hB).box #[.int .i64 b.ver, .slice A6 n6 c6, .slice B6 m6 d6, .slice C6 k6 l6] 26 (by simp))
  have S6 := Lib.hid (Since.add S4.out (Since.alloc hB.since (.cells #[.int .i64 b.ver, .slice A6 n6 c6, .slice B6 m6 d6, .slice C6 k6 l6] 26)))
  clear hn6 hm6 hk6 hB BK4 S4
  generalize hX6 : w6.heap.size = X6 at *
  have x0 := BK6.out.cell 8 rfl 0 rfl
  have x1 := BK6.out.cell 8 rfl 1 rfl
  have x2 := BK6.out.cell 8 rfl 2 rfl
  have x3 := BK6.out.cell 8 rfl 3 rfl
  go_wp2_with fail
  clear x0 x1 x2 x3
  generalize w6.alloc (.cells #[.int .i64 b.ver, .slice A6 n6 c6, .slice B6 m6 d6, .slice C6 k6 l6] 26) = w7 at *
  refine (SameBundle_eq b A2 n2 c2 B2 m2 d2 C2 k2 l2 A6 n6 c6 B6 m6 d6 C6 k6 l6 w7 ⟨BK6.out.row 11 rfl, BK6.out.row 10 rfl, BK6.out.row 9 rfl⟩ ⟨BK6.out.row 3 rfl, BK6.out.row 2 rfl, BK6.out.row 1 rfl⟩ (by omega) (by omega) (by omega)).mono ?_
  rintro e w8 ⟨rfl, hs⟩
  have BK8 := Lib.hid (BK6.out.call hs)
  have S8 := Lib.hid (Since.add S6.out hs)
  clear hs BK6 S6
  go_wp2_with fail
  refine (kept_made HKB.out (Since.row S1.out HB.out) (by omega) S8.out).mono ?_
  rintro e w9 ⟨rfl, hs⟩
  have BK9 := Lib.hid (BK8.out.call hs)
  clear hs BK8 S8
  have x0 := BK9.out.cell 8 rfl 0 rfl
  have x1 := BK9.out.cell 8 rfl 1 rfl
  have x2 := BK9.out.cell 8 rfl 2 rfl
  have x3 := BK9.out.cell 8 rfl 3 rfl
  have y0 := BK9.out.cell 4 rfl 0 rfl
  have y1 := BK9.out.cell 4 rfl 1 rfl
  have y2 := BK9.out.cell 4 rfl 2 rfl
  have y3 := BK9.out.cell 4 rfl 3 rfl
  have q1 : X4 < w9.heap.size := block_lt_of_cell y0
  have q2 := Nat.ne_of_lt q1
  have q3 := Ne.symm q2
  have BKA := Lib.hid (((BK9.out.box #[.int .i64 b.ver, .slice A2 n2 c2, .slice B2 m2 d2, .slice C2 k2 l2] 26 (by simp)).box #[.int .i64 b.ver, .slice A4 n4 c4, .slice B4 m4 d4, .slice C4 k4 l4] 26 (by simp)).box #[.slice (some ⟨w9.heap.size, 0, none⟩) 1 1, .slice (some ⟨w9.heap.size + 1, 0, none⟩) 1 1] 34 (by simp))
  rw [World.size_alloc, World.size_alloc] at BKA
  go_wp2_with fail
  clear x0 x1 x2 x3 y0 y1 y2 y3 q1 q2 q3
  generalize hX9 : w9.heap.size = X9 at *
  generalize ((w9.alloc (.cells #[.int .i64 b.ver, .slice A2 n2 c2, .slice B2 m2 d2, .slice C2 k2 l2] 26)).alloc (.cells #[.int .i64 b.ver, .slice A4 n4 c4, .slice B4 m4 d4, .slice C4 k4 l4] 26)).alloc (.cells #[.slice (some ⟨X9, 0, none⟩) 1 1, .slice (some ⟨X9 + 1, 0, none⟩) 1 1] 34) = wA at *
  clear hX9
  refine (ApartBundles_any (X9 + 1 + 1) X9 (X9 + 1) b.ver b.ver A2 B2 C2 A4 B4 C4 n2 c2 m2 d2 k2 l2 n4 c4 m4 d4 k4 l4 b.code b.dig b.tag b.code b.dig b.tag wA (BKA.out.pick [0, 2, 1, 14, 13, 12, 10, 9, 8] (by decide) _ rfl) (by omega)).mono ?_
  rintro e wB ⟨rfl, hs⟩
  have SB := Lib.hid hs
  clear hs BKA
  go_wp2_with fail
  refine (awake19_any wB (HK.out.below SB.out) (HF.out.below SB.out)).mono ?_
  rintro e wC ⟨rfl, hs⟩
  have HFIN := Lib.hid (Since.add SB.out hs)
  clear hs
  go_wp2_with fail
  go_ret
  exact ⟨rfl, HFIN.out⟩
end Go.Proofs.YtidcfjmibljkeaaGreatDoor.K
