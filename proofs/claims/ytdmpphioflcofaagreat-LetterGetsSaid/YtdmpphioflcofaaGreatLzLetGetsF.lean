/- The law LetterGets answers true. -/
import Derived.Test.YtdmpphioflcofaaGreatLz9
import Derived.Test.YtdmpphioflcofaaGreatLzRefLPut
import Derived.Test.YtdmpphioflcofaaGreatLzApartLetT
namespace Go.Proofs.YtdmpphioflcofaaGreat.K
open Go Go.RowKit

theorem lentBL_from (w0 : World) (A : Option Addr) (n c : Nat) (bs : List (BitVec 8)) (hr : RowRd w0 ⟨A, n, c⟩ bs) (hn2 : n ≤ 140737488000000) {w : World} (h : Since w0 w) :
    Calls Tryz.prog 6 #[.slice A n c] w fun e w' => ∃ g, e = .returned (.slice (some ⟨g, 0, none⟩) n (n + 12)) ∧ w.heap.size ≤ g ∧ w'.heap[g]? = some (.cells (bv (bs ++ marks 1 0 12)).toArray 5 (0, 0)) ∧ Below w.heap.size w w' :=
  LentBytes_any A n c bs w (Since.row h hr).rd hr.len hn2 (fun e => hr.none e)
/-- a letter that was got, its cells written out, its entries in memory of their own -/
def LGotB (w : World) (bs : List (BitVec 8)) (e : Ending) (w' : World) : Prop :=
  ∃ x ee A k c xs, x = M.lget bs ∧ ee = (M.lgetE bs : Int) ∧ e = .returned (.tuple #[.agg #[B8 x.kind, .int .i64 x.src, .int .i64 x.dst, .int .i64 x.term, .int .i64 x.index, .int .i64 x.was, .bool x.ok, .int .i64 x.commit, .int .i64 x.version, .slice A k c], .int .i64 ee]) ∧ x.ents = xs.map EV.e ∧ xs.length = k ∧ Bank w w' (evsAcc A k c xs :: evRows xs)
theorem lGetB_any (A : Option Addr) (n c : Nat) (bs : List (BitVec 8)) (w : World) (hr : RowRd w ⟨A, n, c⟩ bs) (hn : n ≤ 1000000000000) :
    Calls Tryz.prog 7 #[.slice A n c] w (LGotB w bs) := by
  refine (lGet_any A n c bs w hr hn).mono ?_
  rintro e w' ⟨l, xs, A', k, c', hl, rfl, hx, hk, hB⟩
  exact ⟨l, _, A', k, c', xs, hl, rfl, rfl, hx, hk.symm, hB⟩
theorem evs_bank {w0 w : World} {L T : List Acc} {A : Option Addr} {n c : Nat} {xs : List EV} (h : Bank w0 w (T ++ (evsAcc A n c xs :: evRows xs) ++ L)) (hn : xs.length = n) : EntsRd w A (xs.map EV.e) :=
  evs_rd h (List.mem_append_left _ (List.mem_append_right _ (List.mem_cons_self ..))) (fun x hx => List.mem_append_left _ (List.mem_append_right _ (List.mem_cons_of_mem _ (List.mem_map.2 ⟨x, List.mem_reverse.2 hx, rfl⟩)))) hn
theorem ev_len {w0 w : World} {L : List Acc} (h : Bank w0 w L) {x : EV} (hx : x.acc ∈ L) : x.e.data.length = x.n := (RowRd.of_row (h.own _ hx)).len
theorem besL_of {w0 w : World} {S g0 g1 X2 X4 : Nat} {x0 x1 : M.Let} {A0 : Option Addr} {n0 c0 : Nat} {A1 : Option Addr} {n1 c1 : Nat} {e0 e1 : List EV} {cs cs' : List Value}
    (h : Bank w0 w (boxAcc S 35 [.slice (some ⟨g0, 0, none⟩) 1 1, .slice (some ⟨g1, 0, none⟩) 1 1] :: boxAcc g1 28 (letL x1 A1 n1 c1) :: boxAcc g0 28 (letL x0 A0 n0 c0) :: (boxAcc X4 28 cs :: (evsAcc A1 n1 c1 e1 :: evRows e1) ++ (boxAcc X2 28 cs' :: evsAcc A0 n0 c0 e0 :: evRows e0)))) :
    Bank w0 w (BesL S g0 g1 x0 x1 A0 n0 c0 A1 n1 c1 e0 e1) := by
  have h1 := h.sub (L' := boxAcc S 35 [.slice (some ⟨g0, 0, none⟩) 1 1, .slice (some ⟨g1, 0, none⟩) 1 1] :: boxAcc g1 28 (letL x1 A1 n1 c1) :: boxAcc g0 28 (letL x0 A0 n0 c0) :: (evsAcc A1 n1 c1 e1 :: (evRows e1 ++ (evsAcc A0 n0 c0 e0 :: evRows e0))))
    (.cons_cons _ (.cons_cons _ (.cons_cons _ (.cons _ (.cons_cons _ (List.Sublist.append (List.Sublist.refl _) (List.sublist_cons_self _ _)))))))
  refine h1.permA' (.cons _ ((List.Perm.swap _ _ _).trans (.cons _ (.cons _ ?_))))
  refine (List.Perm.cons _ List.perm_middle).trans ((List.Perm.swap _ _ _).trans (.cons _ (.cons _ ?_)))
  refine List.perm_append_comm.trans ?_
  rw [List.map_append]
  exact List.Perm.append (by rw [evRows, List.map_reverse]; exact List.reverse_perm _) (by rw [evRows, List.map_reverse]; exact List.reverse_perm _)
set_option maxHeartbeats 16000000 in
set_option maxRecDepth 100000 in
theorem LetterGets_any (bb : List (BitVec 8)) (B : Option Addr) (m d : Nat) (w : World) (hb : RowRd w ⟨B, m, d⟩ bb) :
    Calls Tryz.prog 3 #[.slice B m d] w (SaidB w true) := by
  have HB := Lib.hid hb
  have HLB := Lib.hid (show bb.length = m from hb.len)
  have HSM := Lib.hid (lget_small bb)
  clear hb
  go_enter Tryz.func3, Tryz.ntmps3
  by_cases h1 : 8000 < m
  · have i1 : (8000 : Int) < (m : Int) := by omega
    go_wp2_with fail
    refine (awake24_any w).mono ?_
    rintro e w2 ⟨rfl, hs⟩
    have HFIN := Lib.hid hs
    clear hs
    go_wp2_with fail
    go_ret
    exact ⟨rfl, HFIN.out⟩
  have i1 : ¬ (8000 : Int) < (m : Int) := by omega
  go_wp2_with fail
  clear i1
  refine (lentBL_from w B m d bb HB.out (by omega) (Below.refl _ _)).mono ?_
  rintro e w1 ⟨gK, rfl, hge, ho, hs⟩
  have HIN : Hid (∀ w', Since w1 w' → RowRd w' ⟨some ⟨gK, 0, none⟩, m, m + 12⟩ bb) := Lib.hid (fun w' hw => Since.row hw (lent_row ho HLB.out))
  have HKB := Lib.hid ho; have S1 := Lib.hid hs
  clear hs ho hge
  go_wp2_with fail
  refine (lGetB_any (some ⟨gK, 0, none⟩) m (m + 12) bb w1 (HIN.out _ (Below.refl _ _)) (by omega)).mono ?_
  rintro e w2 ⟨x, ee, A2, k2, c2, e2, hx, hee, rfl, hen2, hk2, hB⟩
  have HX := Lib.hid hx; have HEE := Lib.hid hee; have HE2 := Lib.hid hen2; have HK2 := Lib.hid hk2
  have BK2 := Lib.hid (hB.box #[B8 x.kind, .int .i64 x.src, .int .i64 x.dst, .int .i64 x.term, .int .i64 x.index, .int .i64 x.was, .bool x.ok, .int .i64 x.commit, .int .i64 x.version, .slice A2 k2 c2] 28 (by simp))
  clear hx hee hen2 hk2 hB
  go_wp2_with fail
  generalize hX2 : w2.heap.size = X2 at *
  generalize w2.alloc (.cells #[B8 x.kind, .int .i64 x.src, .int .i64 x.dst, .int .i64 x.term, .int .i64 x.index, .int .i64 x.was, .bool x.ok, .int .i64 x.commit, .int .i64 x.version, .slice A2 k2 c2] 28) = w3 at *
  clear hX2
  have HG2 := Lib.hid (BK2.out.boxAt 0 rfl).2
  have HR2 := Lib.hid (show EntsRd w3 A2 x.ents by rw [HE2.out]; exact evs_bank (T := [_]) (L := []) (by rw [List.append_nil]; exact BK2.out) HK2.out)
  refine (lGetB_any (some ⟨gK, 0, none⟩) m (m + 12) bb w3 (HIN.out _ BK2.out.since) (by omega)).mono ?_
  rintro e w4 ⟨y, ff, A4, k4, c4, e4, hy, hff, rfl, hen4, hk4, hB⟩
  obtain rfl : x = y := by rw [HX.out, hy]
  obtain rfl : ee = ff := by rw [HEE.out, hff]
  have S34 := Lib.hid hB.since
  have HE4 := Lib.hid hen4; have HK4 := Lib.hid hk4
  have BK4 := Lib.hid ((bank_under' BK2.out hB).box #[B8 x.kind, .int .i64 x.src, .int .i64 x.dst, .int .i64 x.term, .int .i64 x.index, .int .i64 x.was, .bool x.ok, .int .i64 x.commit, .int .i64 x.version, .slice A4 k4 c4] 28 (by simp))
  have S35a := Lib.hid (Since.alloc S34.out (.cells #[B8 x.kind, .int .i64 x.src, .int .i64 x.dst, .int .i64 x.term, .int .i64 x.index, .int .i64 x.was, .bool x.ok, .int .i64 x.commit, .int .i64 x.version, .slice A4 k4 c4] 28))
  clear hy hff hen4 hk4 hB BK2 S34
  go_wp2_with fail
  generalize hX4 : w4.heap.size = X4 at *
  generalize w4.alloc (.cells #[B8 x.kind, .int .i64 x.src, .int .i64 x.dst, .int .i64 x.term, .int .i64 x.index, .int .i64 x.was, .bool x.ok, .int .i64 x.commit, .int .i64 x.version, .slice A4 k4 c4] 28) = w5 at *
  clear hX4
  have HG4 := Lib.hid (BK4.out.boxAt 0 rfl).2
  have S35 := Lib.hid (show Since w3 w5 from S35a.out)
  have SW5 := Lib.hid (S1.out.trans (BK4.out.since.mono S1.out.size))
  refine (rLGet_any B m d bb w5 (Since.row SW5.out HB.out) (by omega)).mono ?_
  rintro e w6 hG
  obtain ⟨y, ff, A6, k6, c6, hy, hff, rfl, hk6, hE6, hs⟩ := LGotL.of hG
  obtain rfl : x = y := by rw [HX.out, hy]
  obtain rfl : ee = ff := by rw [HEE.out, hff]
  have BK6 := Lib.hid ((BK4.out.call hs).box #[B8 x.kind, .int .i64 x.src, .int .i64 x.dst, .int .i64 x.term, .int .i64 x.index, .int .i64 x.was, .bool x.ok, .int .i64 x.commit, .int .i64 x.version, .slice A6 k6 c6] 28 (by simp))
  have S57 := Lib.hid (Since.alloc hs (.cells #[B8 x.kind, .int .i64 x.src, .int .i64 x.dst, .int .i64 x.term, .int .i64 x.index, .int .i64 x.was, .bool x.ok, .int .i64 x.commit, .int .i64 x.version, .slice A6 k6 c6] 28))
  have HR6 := Lib.hid (hE6.since (Since.alloc (Below.refl _ _) (.cells #[B8 x.kind, .int .i64 x.src, .int .i64 x.dst, .int .i64 x.term, .int .i64 x.index, .int .i64 x.was, .bool x.ok, .int .i64 x.commit, .int .i64 x.version, .slice A6 k6 c6] 28)))
  have HK6 := Lib.hid hk6
  obtain ⟨x0, x1, x2, x3, x4, x5, x6, x7, x8, x9⟩ := box10 (Since.at (S35.out.add S57.out) HG2.out)
  obtain ⟨y0, y1, y2, y3, y4, y5, y6, y7, y8, y9⟩ := box10 (BK6.out.boxAt 0 rfl).2
  clear hG hy hff hk6 hE6 hs BK4
  go_wp2_with fail
  clear x0 x1 x2 x3 x4 x5 x6 x7 x8 x9 y0 y1 y2 y3 y4 y5 y6 y7 y8 y9
  have S37 := Lib.hid (S35.out.add S57.out)
  have BK7 := Lib.hid (BK6.out.drop)
  clear BK6
  generalize w6.alloc (.cells #[B8 x.kind, .int .i64 x.src, .int .i64 x.dst, .int .i64 x.term, .int .i64 x.index, .int .i64 x.was, .bool x.ok, .int .i64 x.commit, .int .i64 x.version, .slice A6 k6 c6] 28) = w7 at *
  have hk26 : k2 = k6 := by have h2 := HK6.out; rw [HE2.out, List.length_map, HK2.out] at h2; exact h2
  have hk24 : k2 = k4 := by have h2 := HK2.out; have h4 := HK4.out; have h5 := congrArg List.length (HE2.out.symm.trans HE4.out); rw [List.length_map, List.length_map, h2, h4] at h5; exact h5
  subst hk26
  subst hk24
  have hk4' : k2 ≤ 4 := by have h5 := HSM.out.1; rw [← HX.out, HK6.out] at h5; exact h5
  have hdat : ∀ e ∈ x.ents, e.data.length ≤ m := fun e he => by have h5 := HSM.out.2 e (by rw [← HX.out]; exact he); have h6 := HLB.out; omega
  have HDT := Lib.hid hdat
  clear hdat
  refine (SameLetter_eq x A2 k2 c2 A6 c6 w7 HK6.out (HR2.out.since S37.out) HR6.out (by omega) (fun e he => Nat.le_trans (HDT.out e he) (by omega))).mono ?_
  rintro e w8 ⟨rfl, hs⟩
  have BK8 := Lib.hid (BK7.out.call hs)
  have S38 := Lib.hid (S37.out.add hs)
  have S58 := Lib.hid (S57.out.add hs)
  clear hs BK7 S37 S57
  go_wp2_with fail
  refine (kept_made HKB.out (Since.row S1.out HB.out) (by omega) BK8.out.since).mono ?_
  rintro e w9 ⟨rfl, hs⟩
  have BK9 := Lib.hid (BK8.out.call hs)
  have S39 := Lib.hid (S38.out.add hs)
  have S59 := Lib.hid (S58.out.add hs)
  clear hs BK8 S38 S58
  obtain ⟨x0, x1, x2, x3, x4, x5, x6, x7, x8, x9⟩ := box10 (Since.at S39.out HG2.out)
  obtain ⟨y0, y1, y2, y3, y4, y5, y6, y7, y8, y9⟩ := box10 (Since.at S59.out HG4.out)
  have q1 : X4 < w9.heap.size := block_lt_of_cell y0
  have q2 := Nat.ne_of_lt q1
  have q3 := Ne.symm q2
  have BKA := Lib.hid (((BK9.out.box #[B8 x.kind, .int .i64 x.src, .int .i64 x.dst, .int .i64 x.term, .int .i64 x.index, .int .i64 x.was, .bool x.ok, .int .i64 x.commit, .int .i64 x.version, .slice A2 k2 c2] 28 (by simp)).box #[B8 x.kind, .int .i64 x.src, .int .i64 x.dst, .int .i64 x.term, .int .i64 x.index, .int .i64 x.was, .bool x.ok, .int .i64 x.commit, .int .i64 x.version, .slice A4 k2 c4] 28 (by simp)).box #[.slice (some ⟨w9.heap.size, 0, none⟩) 1 1, .slice (some ⟨w9.heap.size + 1, 0, none⟩) 1 1] 35 (by simp))
  rw [World.size_alloc, World.size_alloc] at BKA
  go_wp2_with fail
  clear x0 x1 x2 x3 x4 x5 x6 x7 x8 x9 y0 y1 y2 y3 y4 y5 y6 y7 y8 y9 q1 q2 q3
  generalize hX9 : w9.heap.size = X9 at *
  generalize ((w9.alloc (.cells #[B8 x.kind, .int .i64 x.src, .int .i64 x.dst, .int .i64 x.term, .int .i64 x.index, .int .i64 x.was, .bool x.ok, .int .i64 x.commit, .int .i64 x.version, .slice A2 k2 c2] 28)).alloc (.cells #[B8 x.kind, .int .i64 x.src, .int .i64 x.dst, .int .i64 x.term, .int .i64 x.index, .int .i64 x.was, .bool x.ok, .int .i64 x.commit, .int .i64 x.version, .slice A4 k2 c4] 28)).alloc (.cells #[.slice (some ⟨X9, 0, none⟩) 1 1, .slice (some ⟨X9 + 1, 0, none⟩) 1 1] 35) = wA at *
  clear hX9
  have BKB := Lib.hid (besL_of (x0 := x) (x1 := x) (g0 := X9) (g1 := X9 + 1) (A0 := A2) (n0 := k2) (c0 := c2) (A1 := A4) (n1 := k2) (c1 := c4) (e0 := e2) (e1 := e4) BKA.out)
  have hlen : ∀ v ∈ e2 ++ e4, v.n ≤ 1000000000 := fun v hv => by
    have hacc : v.acc ∈ BesL (X9 + 1 + 1) X9 (X9 + 1) x x A2 k2 c2 A4 k2 c4 e2 e4 := List.mem_cons_of_mem _ (List.mem_cons_of_mem _ (List.mem_cons_of_mem _ (List.mem_cons_of_mem _ (List.mem_cons_of_mem _ (List.mem_map_of_mem hv)))))
    have h5 := ev_len BKB.out hacc
    have h6 : v.e ∈ x.ents := by
      rcases List.mem_append.1 hv with h | h
      · rw [HE2.out]; exact List.mem_map_of_mem h
      · rw [HE4.out]; exact List.mem_map_of_mem h
    have h7 := HDT.out _ h6
    omega
  have HLEN := Lib.hid hlen
  clear hlen BKA
  refine (ApartLetters_any (X9 + 1 + 1) X9 (X9 + 1) x x A2 k2 c2 A4 k2 c4 e2 e4 wA BKB.out HK2.out HK4.out (by omega) (by omega) HLEN.out).mono ?_
  rintro e wB ⟨rfl, hs⟩
  have SB := Lib.hid (S1.out.trans (hs.mono S1.out.size))
  clear hs BKB
  go_wp2_with fail
  refine (awake24_any wB).mono ?_
  rintro e wC ⟨rfl, hs⟩
  have HFIN := Lib.hid (Since.add SB.out hs)
  clear hs
  go_wp2_with fail
  go_ret
  exact ⟨rfl, HFIN.out⟩
end Go.Proofs.YtdmpphioflcofaaGreat.K
