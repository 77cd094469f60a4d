/- The law LetterBack answers true. -/
import Derived.Test.YtdmpphioflcofaaLqLetGet
import Derived.Test.YtdmpphioflcofaaLqLetPutsF
import Derived.Test.YtdmpphioflcofaaLqKitCopyD
namespace Go.Proofs.Ytdmpphioflcofaa.K
open Go Go.RowKit

theorem ents_mem_le (es : List M.Ent) : ∀ e ∈ es, e.data.length ≤ (M.ents es).length := by
  induction es with
  | nil => intro e he; cases he
  | cons x es ih =>
    intro e he
    simp only [M.ents, List.flatMap_cons, List.length_append, M.ent_length]
    rcases List.mem_cons.1 he with rfl | he
    · omega
    · have := ih e he
      simp only [M.ents] at this
      omega
/-- what is got of few bytes is small -/
theorem lget_small (bb : List (BitVec 8)) : (M.lget bb).ents.length ≤ 4 ∧ ∀ e ∈ (M.lget bb).ents, e.data.length ≤ bb.length := by
  by_cases h : M.lgetE bb = 0
  · obtain ⟨h1, h2⟩ := M.lget_put bb h
    refine ⟨(M.lright_small _ h1).2.2.2.2.2.2.2, fun e he => ?_⟩
    have h3 := ents_mem_le _ e he
    have h4 : (M.lbytes (M.lget bb)).length = bb.length := by rw [h2]
    rw [M.lbytes, List.length_append] at h4
    omega
  · rw [(M.lget_bad bb h).2]
    exact ⟨by decide, fun e he => by cases he⟩
theorem rowRd_cutL {w : World} {b o n c : Nat} {bs : List (BitVec 8)} (h : RowRd w ⟨some ⟨b, o, none⟩, n, c⟩ bs) (len c' : Nat) (hl : len ≤ n) : RowRd w ⟨some ⟨b, o, none⟩, len, c'⟩ (bs.take len) := by
  have hN : bs.length = n := h.len
  refine ⟨fun j hj => ?_, by show _ = len; rw [List.length_take]; omega, fun h => by cases h⟩
  rw [List.length_take] at hj
  obtain ⟨b', o', e, hc⟩ := h.rd j (by omega)
  obtain ⟨rfl, rfl⟩ : b = b' ∧ o = o' := by simpa using e
  refine ⟨b, o, rfl, ?_⟩
  rw [hc, List.getElem_take]
/-- letter.Get, its letter's cells written out -/
def LGotL (w : World) (bs : List (BitVec 8)) (e : Ending) (w' : World) : Prop :=
  ∃ x ee A k c, x = M.lget bs ∧ ee = (M.lgetE bs : Int) ∧ e = .returned (.tuple #[.agg #[B8 x.kind, .int .i64 x.src, .int .i64 x.dst, .int .i64 x.term, .int .i64 x.index, .int .i64 x.was, .bool x.ok, .int .i64 x.commit, .int .i64 x.version, .slice A k c], .int .i64 ee]) ∧ x.ents.length = k ∧ EntsRd w' A x.ents ∧ Since w w'
theorem lGetL_any (A : Option Addr) (n c : Nat) (bs : List (BitVec 8)) (w : World) (hr : RowRd w ⟨A, n, c⟩ bs) (hn : n ≤ 1000000000000) :
    Calls Try.prog 15 #[.slice A n c] w (LGotL w bs) := by
  refine (lGet_any A n c bs w hr hn).mono ?_
  rintro e w' ⟨l, xs, A', k, c', hl, rfl, hx, hk, hB⟩
  refine ⟨l, _, A', k, c', hl, rfl, rfl, by rw [hx, List.length_map, hk], ?_, hB.since⟩
  rw [hx]
  exact evs_rd hB (.head _) (fun x hx => List.mem_cons_of_mem _ (List.mem_map.2 ⟨x, by simpa using hx, rfl⟩)) hk.symm
theorem SameLetter_zero (x : M.Let) (hx : x = M.zeroLet) (A : Option Addr) (k c : Nat) (w : World) (hk : x.ents.length = k) :
    Calls Try.prog 16 #[.agg #[B8 x.kind, .int .i64 x.src, .int .i64 x.dst, .int .i64 x.term, .int .i64 x.index, .int .i64 x.was, .bool x.ok, .int .i64 x.commit, .int .i64 x.version, .slice A k c], .agg #[.int .u8 0, .int .i64 0, .int .i64 0, .int .i64 0, .int .i64 0, .int .i64 0, .bool false, .int .i64 0, .int .i64 0, .slice none 0 0]] w (SaidB w true) := by
  subst hx
  have h0 : k = 0 := hk.symm
  subst h0
  exact SameLetter_eq M.zeroLet A 0 c none 0 w rfl (EntsRd.nil _ _) (EntsRd.nil _ _) (by omega) (fun e he => by cases he)
theorem lgetE_four (bs : List (BitVec 8)) (h : M.lread bs = none) : M.lgetE bs = 4 := by rw [M.lgetE, h]; rfl
set_option maxHeartbeats 16000000 in
set_option maxRecDepth 100000 in
theorem LetterBack_any (l : M.Let) (A : Option Addr) (n c : Nat) (z : Int) (A0 : Option Addr) (m0 d0 : Nat) (bb : List (BitVec 8)) (w : World) (hE : EntsRd w A l.ents) (hl : l.ents.length = n) (hn : n ≤ 1000000000000000) (hD : ∀ e ∈ l.ents, e.data.length ≤ 9223372036854775807) (hok : (∀ e ∈ l.ents, e.data.length ≤ 1000000000000) → l.Ok) (hb : RowRd w ⟨A0, m0, d0⟩ bb) :
    Calls Try.prog 4 #[.agg #[B8 l.kind, .int .i64 l.src, .int .i64 l.dst, .int .i64 l.term, .int .i64 l.index, .int .i64 l.was, .bool l.ok, .int .i64 l.commit, .int .i64 l.version, .slice A n c], .int .i64 z, .slice A0 m0 d0] w (SaidB w true) := by
  have HE := Lib.hid hE; have HL := Lib.hid hl; have HD := Lib.hid hD; have HOK0 := Lib.hid hok; have HB := Lib.hid hb
  have BK0 := Lib.hid ((Bank.nil (Below.refl w.heap.size w)).box #[B8 l.kind, .int .i64 l.src, .int .i64 l.dst, .int .i64 l.term, .int .i64 l.index, .int .i64 l.was, .bool l.ok, .int .i64 l.commit, .int .i64 l.version, .slice A n c] 25 (by simp))
  clear hE hl hD hok hb
  go_enter Try.func4, Try.ntmps4
  go_wp2_with fail
  generalize w.alloc (.cells #[B8 l.kind, .int .i64 l.src, .int .i64 l.dst, .int .i64 l.term, .int .i64 l.index, .int .i64 l.was, .bool l.ok, .int .i64 l.commit, .int .i64 l.version, .slice A n c] 25) = w1 at *
  generalize w.heap.size = X at *
  refine (awake24_any w1).mono ?_
  rintro e w2 ⟨rfl, hs⟩
  have BK2 := Lib.hid (BK0.out.call hs)
  clear hs BK0
  have x0 := BK2.out.cell 0 rfl 0 rfl
  have x1 := BK2.out.cell 0 rfl 1 rfl
  have x2 := BK2.out.cell 0 rfl 2 rfl
  have x3 := BK2.out.cell 0 rfl 3 rfl
  have x4 := BK2.out.cell 0 rfl 4 rfl
  have x5 := BK2.out.cell 0 rfl 5 rfl
  have x6 := BK2.out.cell 0 rfl 6 rfl
  have x7 := BK2.out.cell 0 rfl 7 rfl
  have x8 := BK2.out.cell 0 rfl 8 rfl
  have x9 := BK2.out.cell 0 rfl 9 rfl
  go_wp2_with fail
  clear x0 x1 x2 x3 x4 x5 x6 x7 x8 x9
  refine (LetterOf_any l A n c w2 (HE.out.since BK2.out.since) HL.out hn HD.out).mono ?_
  rintro e w3 ⟨r, rfl, hr, hle, hs⟩
  have BK3 := Lib.hid (BK2.out.call hs)
  clear hs BK2
  by_cases h1 : 1000 < r + 1
  · have i1 : (1000 : Int) < (r : Int) + 1 := by omega
    have HFIN := Lib.hid (show SaidB w true (.returned (.bool true)) w3 from ⟨rfl, BK3.out.since⟩)
    go_wp2_with fail
    go_ret
    exact HFIN.out
  have i1 : ¬ (1000 : Int) < (r : Int) + 1 := by omega
  have hle2 := hle (by omega)
  have hn2 : n ≤ 1000 := by omega
  by_cases h2 : 8000 < m0
  · have i2 : (8000 : Int) < (m0 : Int) := by omega
    have HFIN := Lib.hid (show SaidB w true (.returned (.bool true)) w3 from ⟨rfl, BK3.out.since⟩)
    go_wp2_with fail
    go_ret
    exact HFIN.out
  have i2 : ¬ (8000 : Int) < (m0 : Int) := by omega
  have HDD := Lib.hid (esum_data HL.out hle2)
  have HOK := Lib.hid (HOK0.out (fun e he => Nat.le_trans (HDD.out e he) (by omega)))
  clear hle hle2 hn HD
  go_wp2_with fail
  clear i1 h1
  refine (lGetL_any A0 m0 d0 bb w3 (Since.row BK3.out.since HB.out) (by omega)).mono ?_
  rintro e w4 ⟨x, ee, A1, k1, c1, hx, hee, rfl, hk1, hE1, hs⟩
  have HX := Lib.hid hx; have HEE := Lib.hid hee; have HK1 := Lib.hid hk1
  have BK4 := Lib.hid ((BK3.out.call hs).box #[B8 x.kind, .int .i64 x.src, .int .i64 x.dst, .int .i64 x.term, .int .i64 x.index, .int .i64 x.was, .bool x.ok, .int .i64 x.commit, .int .i64 x.version, .slice A1 k1 c1] 25 (by simp))
  have HE1 := Lib.hid (hE1.since (Since.alloc (Below.refl _ _) (.cells #[B8 x.kind, .int .i64 x.src, .int .i64 x.dst, .int .i64 x.term, .int .i64 x.index, .int .i64 x.was, .bool x.ok, .int .i64 x.commit, .int .i64 x.version, .slice A1 k1 c1] 25)))
  have HSM := Lib.hid (lget_small bb)
  have HBL := Lib.hid (show bb.length = m0 from HB.out.len)
  have HK4 := Lib.hid (show k1 ≤ 4 by rw [← hk1, hx]; exact HSM.out.1)
  have HD1 := Lib.hid (show ∀ e ∈ x.ents, e.data.length ≤ 8000 by rw [hx]; intro e he; have h5 := HSM.out.2 e he; have h6 := HBL.out; omega)
  clear hx hee hk1 hE1 hs BK3
  have q0 := BK4.out.cell 1 rfl 0 rfl
  have q1 := block_lt_of_cell q0
  clear q0 q1
  go_wp2_with fail
  generalize w4.alloc (.cells #[B8 x.kind, .int .i64 x.src, .int .i64 x.dst, .int .i64 x.term, .int .i64 x.index, .int .i64 x.was, .bool x.ok, .int .i64 x.commit, .int .i64 x.version, .slice A1 k1 c1] 25) = w5 at *
  generalize w4.heap.size = Y at *
  refine (lPut_any x A1 k1 c1 w5 HK1.out (by have := HK4.out; omega) HE1.out (fun e he => Nat.le_trans (HD1.out e he) (by omega))).mono ?_
  rintro e w6 ⟨A2, N2, c2, rfl, hN2, hB⟩
  obtain ⟨e2, he2⟩ : ∃ e2 : Int, e2 = (M.lputE x : Int) := ⟨_, rfl⟩
  rw [← he2]
  have HE2 := Lib.hid he2
  have BK6 := Lib.hid (bank_under' BK4.out hB)
  have SE6 := Lib.hid hB.since
  clear he2 hN2 hB BK4
  have x0 := BK6.out.cell 1 rfl 0 rfl
  have x1 := BK6.out.cell 1 rfl 1 rfl
  have x2 := BK6.out.cell 1 rfl 2 rfl
  have x3 := BK6.out.cell 1 rfl 3 rfl
  have x4 := BK6.out.cell 1 rfl 4 rfl
  have x5 := BK6.out.cell 1 rfl 5 rfl
  have x6 := BK6.out.cell 1 rfl 6 rfl
  have x7 := BK6.out.cell 1 rfl 7 rfl
  have x8 := BK6.out.cell 1 rfl 8 rfl
  have x9 := BK6.out.cell 1 rfl 9 rfl
  by_cases h0 : M.lgetE bb = 0
  · have HR1 := Lib.hid (show M.lright x = true ∧ M.lbytes x = bb by rw [HX.out]; exact M.lget_put bb h0)
    have HLP := Lib.hid (show M.lput x = bb from (lput_good HR1.out.1).1.trans HR1.out.2)
    obtain rfl : ee = 0 := by rw [HEE.out, h0]; rfl
    obtain rfl : e2 = 0 := by rw [HE2.out, (lput_good HR1.out.1).2]; rfl
    clear h0
    go_wp2_with fail
    clear x0 x1 x2 x3 x4 x5 x6 x7 x8 x9
    refine (lRight_any x A1 k1 c1 w6 HK1.out (by have := HK4.out; omega) (HE1.out.since SE6.out)).mono ?_
    have HRT := HR1.out.1
    rintro e w7a ⟨rfl, hs⟩
    rw [HRT]
    have BK7a := Lib.hid (BK6.out.call hs)
    have B7 := Lib.hid (Since.row BK7a.out.since HB.out)
    rw [HLP.out] at BK7a
    clear HRT hs BK6 HLP HR1
    go_wp2_with fail
    refine (same_made B7.out (BK7a.out.row 0 rfl) (by omega) (Below.refl _ _)).mono ?_
    rintro e w7 ⟨rfl, hs⟩
    have BK7 := Lib.hid (BK7a.out.call hs)
    clear hs BK7a B7
    have x0 := BK7.out.cell 2 rfl 0 rfl
    have x1 := BK7.out.cell 2 rfl 1 rfl
    have x2 := BK7.out.cell 2 rfl 2 rfl
    have x3 := BK7.out.cell 2 rfl 3 rfl
    have x4 := BK7.out.cell 2 rfl 4 rfl
    have x5 := BK7.out.cell 2 rfl 5 rfl
    have x6 := BK7.out.cell 2 rfl 6 rfl
    have x7 := BK7.out.cell 2 rfl 7 rfl
    have x8 := BK7.out.cell 2 rfl 8 rfl
    have x9 := BK7.out.cell 2 rfl 9 rfl
    go_wp2_with fail
    clear x0 x1 x2 x3 x4 x5 x6 x7 x8 x9
    refine (lPut_any l A n c w7 HL.out (by omega) (HE.out.since BK7.out.since) (fun e he => Nat.le_trans (HDD.out e he) (by omega))).mono ?_
    rintro e w8 ⟨A3, N, c3, rfl, hN, hB⟩
    obtain ⟨g, hg⟩ : ∃ g : Int, g = (M.lputE l : Int) := ⟨_, rfl⟩
    rw [← hg]
    have HG := Lib.hid hg
    have HN := Lib.hid hN
    have BK8 := Lib.hid (bank_under' BK7.out hB)
    clear hg hN hB BK7
    have x0 := BK8.out.cell 3 rfl 0 rfl
    have x1 := BK8.out.cell 3 rfl 1 rfl
    have x2 := BK8.out.cell 3 rfl 2 rfl
    have x3 := BK8.out.cell 3 rfl 3 rfl
    have x4 := BK8.out.cell 3 rfl 4 rfl
    have x5 := BK8.out.cell 3 rfl 5 rfl
    have x6 := BK8.out.cell 3 rfl 6 rfl
    have x7 := BK8.out.cell 3 rfl 7 rfl
    have x8 := BK8.out.cell 3 rfl 8 rfl
    have x9 := BK8.out.cell 3 rfl 9 rfl
    go_wp2_with fail
    clear x0 x1 x2 x3 x4 x5 x6 x7 x8 x9
    refine (lRight_any l A n c w8 HL.out (by omega) (HE.out.since BK8.out.since)).mono ?_
    rintro e w9 ⟨rfl, hs⟩
    have BK9 := Lib.hid (BK8.out.call hs)
    clear hs BK8
    by_cases hR : M.lright l = true
    rotate_left
    · have hR' : M.lright l = false := by simpa using hR
      rw [hR']
      obtain rfl : g = 4 := by rw [HG.out, (lput_bad hR').2]; rfl
      obtain rfl : N = 0 := by rw [HN.out, (lput_bad hR').1]; rfl
      have HFIN := Lib.hid (show SaidB w true (.returned (.bool true)) w9 from ⟨rfl, BK9.out.since⟩)
      clear hR hR'
      go_wp2_with fail
      go_ret
      exact HFIN.out
    have HRR := Lib.hid hR
    have HLP := Lib.hid (lput_good hR)
    obtain rfl : g = 0 := by rw [HG.out, HLP.out.2]; rfl
    have HNL := Lib.hid (show N = (M.lbytes l).length by rw [HN.out, HLP.out.1])
    have HNB := Lib.hid (show N ≤ 40000 by rw [HN.out]; exact Nat.le_trans (lput_len l 8007 HDD.out) (by omega))
    have HN8 := Lib.hid (show 80 ≤ N by rw [HNL.out, M.lbytes, List.length_append, M.nums_length]; have h5 : (M.lnums l).length = 10 := rfl; omega)
    have hNB := HNB.out
    have hN8 := HN8.out
    rw [hR]
    have BKA := Lib.hid (show Bank w w9 [rowAcc A3 N c3 (M.lbytes l), boxAcc X 25 #[B8 l.kind, .int .i64 l.src, .int .i64 l.dst, .int .i64 l.term, .int .i64 l.index, .int .i64 l.was, .bool l.ok, .int .i64 l.commit, .int .i64 l.version, .slice A n c].toList] from by rw [← HLP.out.1]; exact BK9.out.sub (.cons_cons _ (.cons _ (.cons _ (.cons_cons _ .slnil)))))
    clear hR BK9
    go_wp2_with fail
    refine (lGetL_any A3 N c3 (M.lbytes l) w9 (BKA.out.row 0 rfl) (by omega)).mono ?_
    rintro e w10 ⟨y, h, A4, k4, c4, hy, hh, rfl, hk4, hE4, hs⟩
    have hrl := M.lread_bytes l HRR.out HOK.out
    obtain rfl : l = y := by rw [hy, M.lget, hrl]; rfl
    obtain rfl : h = 0 := by rw [hh, M.lgetE, hrl]; rfl
    obtain rfl : n = k4 := HL.out.symm.trans hk4
    have BK10 := Lib.hid ((BKA.out.call hs).box #[B8 l.kind, .int .i64 l.src, .int .i64 l.dst, .int .i64 l.term, .int .i64 l.index, .int .i64 l.was, .bool l.ok, .int .i64 l.commit, .int .i64 l.version, .slice A4 n c4] 25 (by simp))
    have HE4 := Lib.hid (hE4.since (Since.alloc (Below.refl _ _) (.cells #[B8 l.kind, .int .i64 l.src, .int .i64 l.dst, .int .i64 l.term, .int .i64 l.index, .int .i64 l.was, .bool l.ok, .int .i64 l.commit, .int .i64 l.version, .slice A4 n c4] 25)))
    clear hy hh hk4 hE4 hs hrl BKA
    go_wp2_with fail
    generalize w10.alloc (.cells #[B8 l.kind, .int .i64 l.src, .int .i64 l.dst, .int .i64 l.term, .int .i64 l.index, .int .i64 l.was, .bool l.ok, .int .i64 l.commit, .int .i64 l.version, .slice A4 n c4] 25) = w11 at *
    generalize w10.heap.size = Y2 at *
    refine (Pick_any z (N : Int) w11 (by omega) (by omega)).mono ?_
    rintro e w12 ⟨rfl, rfl⟩
    obtain ⟨kk, hkk, hkN⟩ : ∃ kk : Nat, pick z (N : Int) = (kk : Int) ∧ kk < N := ⟨(pick z (N : Int)).toNat, by have := pick_lo z (N : Int) (by omega); omega, by have := pick_lo z (N : Int) (by omega); have := pick_hi z (N : Int) (by omega); omega⟩
    rw [hkk]
    obtain ⟨gp, rfl⟩ := own_someB (BK10.out.at 1 rfl) (by show 0 < N; omega)
    have hcap := (row_room (BK10.out.at 1 rfl)).1
    have j1 : kk ≤ c3 := by omega
    have j2 : (kk : Int) ≤ (c3 : Int) := by omega
    have j0 : (0 : Int) ≤ (kk : Int) := by omega
    clear hkk hcap
    go_wp2_with fail
    refine (lGetL_any (some ⟨gp, 0, none⟩) kk c3 ((M.lbytes l).take kk) w11 (rowRd_cutL (BK10.out.row 1 rfl) kk c3 (by omega)) (by omega)).mono ?_
    rintro e w13 ⟨x5, h5, A5, k5, c5, hx5, hh5, rfl, hk5, hE5, hs⟩
    obtain rfl : h5 = 4 := by rw [hh5, lgetE_four _ (M.lread_cut l HRR.out HOK.out kk (by rw [← HNL.out]; exact hkN))]; rfl
    have BK13 := Lib.hid ((BK10.out.call hs).box #[B8 x5.kind, .int .i64 x5.src, .int .i64 x5.dst, .int .i64 x5.term, .int .i64 x5.index, .int .i64 x5.was, .bool x5.ok, .int .i64 x5.commit, .int .i64 x5.version, .slice A5 k5 c5] 25 (by simp))
    have HE13 := Lib.hid (HE4.out.since (Since.alloc hs (.cells #[B8 x5.kind, .int .i64 x5.src, .int .i64 x5.dst, .int .i64 x5.term, .int .i64 x5.index, .int .i64 x5.was, .bool x5.ok, .int .i64 x5.commit, .int .i64 x5.version, .slice A5 k5 c5] 25)))
    clear hx5 hh5 hk5 hE5 hs j0 j1 j2 BK10 HE4
    go_wp2_with fail
    generalize w13.alloc (.cells #[B8 x5.kind, .int .i64 x5.src, .int .i64 x5.dst, .int .i64 x5.term, .int .i64 x5.index, .int .i64 x5.was, .bool x5.ok, .int .i64 x5.commit, .int .i64 x5.version, .slice A5 k5 c5] 25) = w14 at *
    generalize w13.heap.size = Y3 at *
    refine (CopyBytes_any (some ⟨gp, 0, none⟩) N c3 (M.lbytes l) w14 (BK13.out.row 2 rfl) (by omega)).mono ?_
    rintro e w15 ⟨BC, cC, rfl, ho, hs⟩
    have BK15 := Lib.hid (((Bank.nil (Below.refl w14.heap.size w14)).madeB hs ho).litV #[.int .u8 0] 5 (by decide))
    have S15 := Lib.hid hs
    clear hs ho
    go_wp2_with (at_builtin; refine wpList_append_bytes BK15.out rfl _ _ 29 rfl 5 infoByte Try.underlying29 1 BC N cC (M.lbytes l) rfl rfl _ _ _ [0#8] rfl (RowRd.of_row (bs := [0#8]) (BK15.out.at 0 rfl)) (by omega) ?_; intro A' n' c' w16 hn' hB; subst hn'; have BK16 := Lib.hid (bank_under' BK13.out hB); have S16 := Lib.hid hB.since; clear hB)
    clear S15 BK15
    refine (lGetL_any A' (N + 1) c' (M.lbytes l ++ [0#8]) w16 (BK16.out.row 1 rfl) (by omega)).mono ?_
    rintro e w17 ⟨x6, h6, A6, k6, c6, hx6, hh6, rfl, hk6, hE6, hs⟩
    obtain rfl : h6 = 4 := by rw [hh6, lgetE_four _ (M.lread_more l HRR.out HOK.out [0#8] (by simp))]; rfl
    have BK17 := Lib.hid ((BK16.out.call hs).box #[B8 x6.kind, .int .i64 x6.src, .int .i64 x6.dst, .int .i64 x6.term, .int .i64 x6.index, .int .i64 x6.was, .bool x6.ok, .int .i64 x6.commit, .int .i64 x6.version, .slice A6 k6 c6] 25 (by simp))
    have HE17 := Lib.hid (show EntsRd (w17.alloc (.cells #[B8 x6.kind, .int .i64 x6.src, .int .i64 x6.dst, .int .i64 x6.term, .int .i64 x6.index, .int .i64 x6.was, .bool x6.ok, .int .i64 x6.commit, .int .i64 x6.version, .slice A6 k6 c6] 25)) A4 l.ents from HE13.out.since (S16.out.add (Since.alloc hs (.cells #[B8 x6.kind, .int .i64 x6.src, .int .i64 x6.dst, .int .i64 x6.term, .int .i64 x6.index, .int .i64 x6.was, .bool x6.ok, .int .i64 x6.commit, .int .i64 x6.version, .slice A6 k6 c6] 25))))
    clear hx6 hh6 hk6 hE6 hs BK16 HE13 S16
    have x0 := BK17.out.cell 6 rfl 0 rfl
    have x1 := BK17.out.cell 6 rfl 1 rfl
    have x2 := BK17.out.cell 6 rfl 2 rfl
    have x3 := BK17.out.cell 6 rfl 3 rfl
    have x4 := BK17.out.cell 6 rfl 4 rfl
    have x5 := BK17.out.cell 6 rfl 5 rfl
    have x6 := BK17.out.cell 6 rfl 6 rfl
    have x7 := BK17.out.cell 6 rfl 7 rfl
    have x8 := BK17.out.cell 6 rfl 8 rfl
    have x9 := BK17.out.cell 6 rfl 9 rfl
    have y0 := BK17.out.cell 4 rfl 0 rfl
    have y1 := BK17.out.cell 4 rfl 1 rfl
    have y2 := BK17.out.cell 4 rfl 2 rfl
    have y3 := BK17.out.cell 4 rfl 3 rfl
    have y4 := BK17.out.cell 4 rfl 4 rfl
    have y5 := BK17.out.cell 4 rfl 5 rfl
    have y6 := BK17.out.cell 4 rfl 6 rfl
    have y7 := BK17.out.cell 4 rfl 7 rfl
    have y8 := BK17.out.cell 4 rfl 8 rfl
    have y9 := BK17.out.cell 4 rfl 9 rfl
    go_wp2_with fail
    clear x0 x1 x2 x3 x4 x5 x6 x7 x8 x9 y0 y1 y2 y3 y4 y5 y6 y7 y8 y9
    refine (SameLetter_eq l A n c A4 c4 _ HL.out (HE.out.since BK17.out.since) HE17.out (by omega) (fun e he => Nat.le_trans (HDD.out e he) (by omega))).mono ?_
    rintro e w18 ⟨rfl, hs⟩
    have HFIN := Lib.hid (show SaidB w true (.returned (.bool true)) w18 from ⟨rfl, (BK17.out.call hs).since⟩)
    clear hs
    go_wp2_with fail
    go_ret
    exact HFIN.out
  · have HZ := Lib.hid (show x = M.zeroLet by rw [HX.out]; exact (M.lget_bad bb h0).2)
    obtain rfl : ee = 4 := by rw [HEE.out, (M.lget_bad bb h0).1]; rfl
    clear h0
    go_wp2_with fail
    clear x0 x1 x2 x3 x4 x5 x6 x7 x8 x9
    refine (SameLetter_zero x HZ.out A1 k1 c1 w6 HK1.out).mono ?_
    rintro e w7 ⟨rfl, hs⟩
    have BK7 := Lib.hid (BK6.out.call hs)
    clear hs BK6
    have x0 := BK7.out.cell 2 rfl 0 rfl
    have x1 := BK7.out.cell 2 rfl 1 rfl
    have x2 := BK7.out.cell 2 rfl 2 rfl
    have x3 := BK7.out.cell 2 rfl 3 rfl
    have x4 := BK7.out.cell 2 rfl 4 rfl
    have x5 := BK7.out.cell 2 rfl 5 rfl
    have x6 := BK7.out.cell 2 rfl 6 rfl
    have x7 := BK7.out.cell 2 rfl 7 rfl
    have x8 := BK7.out.cell 2 rfl 8 rfl
    have x9 := BK7.out.cell 2 rfl 9 rfl
    go_wp2_with fail
    clear x0 x1 x2 x3 x4 x5 x6 x7 x8 x9
    refine (lPut_any l A n c w7 HL.out (by omega) (HE.out.since BK7.out.since) (fun e he => Nat.le_trans (HDD.out e he) (by omega))).mono ?_
    rintro e w8 ⟨A3, N, c3, rfl, hN, hB⟩
    obtain ⟨g, hg⟩ : ∃ g : Int, g = (M.lputE l : Int) := ⟨_, rfl⟩
    rw [← hg]
    have HG := Lib.hid hg
    have HN := Lib.hid hN
    have BK8 := Lib.hid (bank_under' BK7.out hB)
    clear hg hN hB BK7
    have x0 := BK8.out.cell 3 rfl 0 rfl
    have x1 := BK8.out.cell 3 rfl 1 rfl
    have x2 := BK8.out.cell 3 rfl 2 rfl
    have x3 := BK8.out.cell 3 rfl 3 rfl
    have x4 := BK8.out.cell 3 rfl 4 rfl
    have x5 := BK8.out.cell 3 rfl 5 rfl
    have x6 := BK8.out.cell 3 rfl 6 rfl
    have x7 := BK8.out.cell 3 rfl 7 rfl
    have x8 := BK8.out.cell 3 rfl 8 rfl
    have x9 := BK8.out.cell 3 rfl 9 rfl
    go_wp2_with fail
    clear x0 x1 x2 x3 x4 x5 x6 x7 x8 x9
    refine (lRight_any l A n c w8 HL.out (by omega) (HE.out.since BK8.out.since)).mono ?_
    rintro e w9 ⟨rfl, hs⟩
    have BK9 := Lib.hid (BK8.out.call hs)
    clear hs BK8
    by_cases hR : M.lright l = true
    rotate_left
    · have hR' : M.lright l = false := by simpa using hR
      rw [hR']
      obtain rfl : g = 4 := by rw [HG.out, (lput_bad hR').2]; rfl
      obtain rfl : N = 0 := by rw [HN.out, (lput_bad hR').1]; rfl
      have HFIN := Lib.hid (show SaidB w true (.returned (.bool true)) w9 from ⟨rfl, BK9.out.since⟩)
      clear hR hR'
      go_wp2_with fail
      go_ret
      exact HFIN.out
    have HRR := Lib.hid hR
    have HLP := Lib.hid (lput_good hR)
    obtain rfl : g = 0 := by rw [HG.out, HLP.out.2]; rfl
    have HNL := Lib.hid (show N = (M.lbytes l).length by rw [HN.out, HLP.out.1])
    have HNB := Lib.hid (show N ≤ 40000 by rw [HN.out]; exact Nat.le_trans (lput_len l 8007 HDD.out) (by omega))
    have HN8 := Lib.hid (show 80 ≤ N by rw [HNL.out, M.lbytes, List.length_append, M.nums_length]; have h5 : (M.lnums l).length = 10 := rfl; omega)
    have hNB := HNB.out
    have hN8 := HN8.out
    rw [hR]
    have BKA := Lib.hid (show Bank w w9 [rowAcc A3 N c3 (M.lbytes l), boxAcc X 25 #[B8 l.kind, .int .i64 l.src, .int .i64 l.dst, .int .i64 l.term, .int .i64 l.index, .int .i64 l.was, .bool l.ok, .int .i64 l.commit, .int .i64 l.version, .slice A n c].toList] from by rw [← HLP.out.1]; exact BK9.out.sub (.cons_cons _ (.cons _ (.cons _ (.cons_cons _ .slnil)))))
    clear hR BK9
    go_wp2_with fail
    refine (lGetL_any A3 N c3 (M.lbytes l) w9 (BKA.out.row 0 rfl) (by omega)).mono ?_
    rintro e w10 ⟨y, h, A4, k4, c4, hy, hh, rfl, hk4, hE4, hs⟩
    have hrl := M.lread_bytes l HRR.out HOK.out
    obtain rfl : l = y := by rw [hy, M.lget, hrl]; rfl
    obtain rfl : h = 0 := by rw [hh, M.lgetE, hrl]; rfl
    obtain rfl : n = k4 := HL.out.symm.trans hk4
    have BK10 := Lib.hid ((BKA.out.call hs).box #[B8 l.kind, .int .i64 l.src, .int .i64 l.dst, .int .i64 l.term, .int .i64 l.index, .int .i64 l.was, .bool l.ok, .int .i64 l.commit, .int .i64 l.version, .slice A4 n c4] 25 (by simp))
    have HE4 := Lib.hid (hE4.since (Since.alloc (Below.refl _ _) (.cells #[B8 l.kind, .int .i64 l.src, .int .i64 l.dst, .int .i64 l.term, .int .i64 l.index, .int .i64 l.was, .bool l.ok, .int .i64 l.commit, .int .i64 l.version, .slice A4 n c4] 25)))
    clear hy hh hk4 hE4 hs hrl BKA
    go_wp2_with fail
    generalize w10.alloc (.cells #[B8 l.kind, .int .i64 l.src, .int .i64 l.dst, .int .i64 l.term, .int .i64 l.index, .int .i64 l.was, .bool l.ok, .int .i64 l.commit, .int .i64 l.version, .slice A4 n c4] 25) = w11 at *
    generalize w10.heap.size = Y2 at *
    refine (Pick_any z (N : Int) w11 (by omega) (by omega)).mono ?_
    rintro e w12 ⟨rfl, rfl⟩
    obtain ⟨kk, hkk, hkN⟩ : ∃ kk : Nat, pick z (N : Int) = (kk : Int) ∧ kk < N := ⟨(pick z (N : Int)).toNat, by have := pick_lo z (N : Int) (by omega); omega, by have := pick_lo z (N : Int) (by omega); have := pick_hi z (N : Int) (by omega); omega⟩
    rw [hkk]
    obtain ⟨gp, rfl⟩ := own_someB (BK10.out.at 1 rfl) (by show 0 < N; omega)
    have hcap := (row_room (BK10.out.at 1 rfl)).1
    have j1 : kk ≤ c3 := by omega
    have j2 : (kk : Int) ≤ (c3 : Int) := by omega
    have j0 : (0 : Int) ≤ (kk : Int) := by omega
    clear hkk hcap
    go_wp2_with fail
    refine (lGetL_any (some ⟨gp, 0, none⟩) kk c3 ((M.lbytes l).take kk) w11 (rowRd_cutL (BK10.out.row 1 rfl) kk c3 (by omega)) (by omega)).mono ?_
    rintro e w13 ⟨x5, h5, A5, k5, c5, hx5, hh5, rfl, hk5, hE5, hs⟩
    obtain rfl : h5 = 4 := by rw [hh5, lgetE_four _ (M.lread_cut l HRR.out HOK.out kk (by rw [← HNL.out]; exact hkN))]; rfl
    have BK13 := Lib.hid ((BK10.out.call hs).box #[B8 x5.kind, .int .i64 x5.src, .int .i64 x5.dst, .int .i64 x5.term, .int .i64 x5.index, .int .i64 x5.was, .bool x5.ok, .int .i64 x5.commit, .int .i64 x5.version, .slice A5 k5 c5] 25 (by simp))
    have HE13 := Lib.hid (HE4.out.since (Since.alloc hs (.cells #[B8 x5.kind, .int .i64 x5.src, .int .i64 x5.dst, .int .i64 x5.term, .int .i64 x5.index, .int .i64 x5.was, .bool x5.ok, .int .i64 x5.commit, .int .i64 x5.version, .slice A5 k5 c5] 25)))
    clear hx5 hh5 hk5 hE5 hs j0 j1 j2 BK10 HE4
    go_wp2_with fail
    generalize w13.alloc (.cells #[B8 x5.kind, .int .i64 x5.src, .int .i64 x5.dst, .int .i64 x5.term, .int .i64 x5.index, .int .i64 x5.was, .bool x5.ok, .int .i64 x5.commit, .int .i64 x5.version, .slice A5 k5 c5] 25) = w14 at *
    generalize w13.heap.size = Y3 at *
    refine (CopyBytes_any (some ⟨gp, 0, none⟩) N c3 (M.lbytes l) w14 (BK13.out.row 2 rfl) (by omega)).mono ?_
    rintro e w15 ⟨BC, cC, rfl, ho, hs⟩
    have BK15 := Lib.hid (((Bank.nil (Below.refl w14.heap.size w14)).madeB hs ho).litV #[.int .u8 0] 5 (by decide))
    have S15 := Lib.hid hs
    clear hs ho
    go_wp2_with (at_builtin; refine wpList_append_bytes BK15.out rfl _ _ 29 rfl 5 infoByte Try.underlying29 1 BC N cC (M.lbytes l) rfl rfl _ _ _ [0#8] rfl (RowRd.of_row (bs := [0#8]) (BK15.out.at 0 rfl)) (by omega) ?_; intro A' n' c' w16 hn' hB; subst hn'; have BK16 := Lib.hid (bank_under' BK13.out hB); have S16 := Lib.hid hB.since; clear hB)
    clear S15 BK15
    refine (lGetL_any A' (N + 1) c' (M.lbytes l ++ [0#8]) w16 (BK16.out.row 1 rfl) (by omega)).mono ?_
    rintro e w17 ⟨x6, h6, A6, k6, c6, hx6, hh6, rfl, hk6, hE6, hs⟩
    obtain rfl : h6 = 4 := by rw [hh6, lgetE_four _ (M.lread_more l HRR.out HOK.out [0#8] (by simp))]; rfl
    have BK17 := Lib.hid ((BK16.out.call hs).box #[B8 x6.kind, .int .i64 x6.src, .int .i64 x6.dst, .int .i64 x6.term, .int .i64 x6.index, .int .i64 x6.was, .bool x6.ok, .int .i64 x6.commit, .int .i64 x6.version, .slice A6 k6 c6] 25 (by simp))
    have HE17 := Lib.hid (show EntsRd (w17.alloc (.cells #[B8 x6.kind, .int .i64 x6.src, .int .i64 x6.dst, .int .i64 x6.term, .int .i64 x6.index, .int .i64 x6.was, .bool x6.ok, .int .i64 x6.commit, .int .i64 x6.version, .slice A6 k6 c6] 25)) A4 l.ents from HE13.out.since (S16.out.add (Since.alloc hs (.cells #[B8 x6.kind, .int .i64 x6.src, .int .i64 x6.dst, .int .i64 x6.term, .int .i64 x6.index, .int .i64 x6.was, .bool x6.ok, .int .i64 x6.commit, .int .i64 x6.version, .slice A6 k6 c6] 25))))
    clear hx6 hh6 hk6 hE6 hs BK16 HE13 S16
    have x0 := BK17.out.cell 6 rfl 0 rfl
    have x1 := BK17.out.cell 6 rfl 1 rfl
    have x2 := BK17.out.cell 6 rfl 2 rfl
    have x3 := BK17.out.cell 6 rfl 3 rfl
    have x4 := BK17.out.cell 6 rfl 4 rfl
    have x5 := BK17.out.cell 6 rfl 5 rfl
    have x6 := BK17.out.cell 6 rfl 6 rfl
    have x7 := BK17.out.cell 6 rfl 7 rfl
    have x8 := BK17.out.cell 6 rfl 8 rfl
    have x9 := BK17.out.cell 6 rfl 9 rfl
    have y0 := BK17.out.cell 4 rfl 0 rfl
    have y1 := BK17.out.cell 4 rfl 1 rfl
    have y2 := BK17.out.cell 4 rfl 2 rfl
    have y3 := BK17.out.cell 4 rfl 3 rfl
    have y4 := BK17.out.cell 4 rfl 4 rfl
    have y5 := BK17.out.cell 4 rfl 5 rfl
    have y6 := BK17.out.cell 4 rfl 6 rfl
    have y7 := BK17.out.cell 4 rfl 7 rfl
    have y8 := BK17.out.cell 4 rfl 8 rfl
    have y9 := BK17.out.cell 4 rfl 9 rfl
    go_wp2_with fail
    clear x0 x1 x2 x3 x4 x5 x6 x7 x8 x9 y0 y1 y2 y3 y4 y5 y6 y7 y8 y9
    refine (SameLetter_eq l A n c A4 c4 _ HL.out (HE.out.since BK17.out.since) HE17.out (by omega) (fun e he => Nat.le_trans (HDD.out e he) (by omega))).mono ?_
    rintro e w18 ⟨rfl, hs⟩
    have HFIN := Lib.hid (show SaidB w true (.returned (.bool true)) w18 from ⟨rfl, (BK17.out.call hs).since⟩)
    clear hs
    go_wp2_with fail
    go_ret
    exact HFIN.out
end Go.Proofs.Ytdmpphioflcofaa.K
