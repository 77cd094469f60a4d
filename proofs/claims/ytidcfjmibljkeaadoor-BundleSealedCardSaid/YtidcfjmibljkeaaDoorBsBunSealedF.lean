/- The law BundleSealed answers true. -/
import Derived.Test.YtidcfjmibljkeaaDoorBs8
import Derived.Deep.DeepCutAuto
namespace Go.Proofs.YtidcfjmibljkeaaDoor.K
open Go Go.RowKit

theorem len3 {w : World} {A : Option Addr} {n c : Nat} {bs : List (BitVec 8)} (h : RowRd w ⟨A, n, c⟩ bs) : bs.length = n := h.len
theorem SameBytes_eqB (A B : Option Addr) (n m c d : Nat) (bs : List (BitVec 8)) (w : World) (hx : RowRd w ⟨A, n, c⟩ bs) (hy : RowRd w ⟨B, m, d⟩ bs) (hn2 : n ≤ 4611686018427387904) :
    Calls Tryd.prog 7 #[.slice A n c, .slice B m d] w fun e w' => e = .returned (.bool true) ∧ Since w w' := by
  have hnm : m ≤ 4611686018427387904 := by have := hx.len; have := hy.len; simp at *; omega
  refine (SameBytes_any A B n m c d bs bs w hx.rd hy.rd hx.len hy.len hn2 hnm).mono ?_
  rintro e w1 ⟨rfl, q, rfl⟩
  exact ⟨by rw [decide_eq_true rfl], Since.drewN (Below.refl _ _) q⟩
set_option maxHeartbeats 16000000 in
set_option maxRecDepth 100000 in
theorem BundleSealed_any (key code bb : List (BitVec 8)) (v at' other : Int) (K : Option Addr) (kn kc : Nat) (A : Option Addr) (n c : Nat) (B : Option Addr) (m d : Nat) (w : World) (hk : RowRd w ⟨K, kn, kc⟩ key) (hc : RowRd w ⟨A, n, c⟩ code) (hb : RowRd w ⟨B, m, d⟩ bb)
    (hv : M.inI64 v) (hK : HasK w) (hF : HasF w) :
    Calls Tryd.prog 3 #[.slice K kn kc, .int .i64 v, .slice A n c, .int .i64 at', .int .i64 other, .slice B m d] w fun e w' => e = .returned (.bool true) ∧ Since w w' := by
  have HKY := Lib.hid hk; have HC := Lib.hid hc; have HB := Lib.hid hb; have HK := Lib.hid hK; have HF := Lib.hid hF; have HV := Lib.hid hv
  have HLC := Lib.hid (len3 hc)
  clear hk hc hb hK hF hv
  go_enter Tryd.func3, Tryd.ntmps3
  go_wp2_with fail
  refine (awake19_any w HK.out HF.out).mono ?_
  rintro e w1 ⟨rfl, hs1⟩
  have S1 := Lib.hid hs1
  clear hs1
  by_cases h1 : 3000 < kn
  · have i1 : (3000 : Int) < (kn : Int) := by omega
    go_wp2_with fail
    go_ret
    exact ⟨rfl, S1.out⟩
  have i1 : ¬ (3000 : Int) < (kn : Int) := by omega
  by_cases h2 : 3000 < n
  · have i2 : (3000 : Int) < (n : Int) := by omega
    go_wp2_with fail
    go_ret
    exact ⟨rfl, S1.out⟩
  have i2 : ¬ (3000 : Int) < (n : Int) := by omega
  by_cases h3 : 3000 < m
  · have i3 : (3000 : Int) < (m : Int) := by omega
    go_wp2_with fail
    go_ret
    exact ⟨rfl, S1.out⟩
  have i3 : ¬ (3000 : Int) < (m : Int) := by omega
  have d1 : decide ((3000 : Int) < (kn : Int)) = false := by simpa using i1
  have d2 : decide ((3000 : Int) < (n : Int)) = false := by simpa using i2
  have d3 : decide ((3000 : Int) < (m : Int)) = false := by simpa using i3
  go_wp2_with fail
  clear i1 i2 i3 d1 d2 d3
  refine (pgetB_any B m d bb w1 (Since.row S1.out HB.out) (by omega)).mono ?_
  rintro e w2 ⟨x, rfl, A2, n2, c2, B2, m2, d2, C2, k2, l2, rfl, hn2, hm2, hk2, hB⟩
  have BK2 := Lib.hid ((bank_under (Bank.nil S1.out) hB).box #[.int .i64 (M.bget bb).ver, .slice A2 n2 c2, .slice B2 m2 d2, .slice C2 k2 l2] 25 (by simp))
  have HN2 := Lib.hid hn2; have HM2 := Lib.hid hm2; have HK2 := Lib.hid hk2
  clear hn2 hm2 hk2 hB
  obtain ⟨e2, he2⟩ : ∃ e2 : Int, e2 = (M.bgetE bb : Int) := ⟨_, rfl⟩
  have HE2 := Lib.hid he2
  rw [← he2]
  clear he2
  go_upto_if 49 with fail
  go_cut [] (fun wx => Since w wx)
  case first => as_aux_lemma =>
    have x0 := BK2.out.cell 0 rfl 0 rfl
    have x1 := BK2.out.cell 0 rfl 1 rfl
    have x2 := BK2.out.cell 0 rfl 2 rfl
    have x3 := BK2.out.cell 0 rfl 3 rfl
    generalize w2.alloc (.cells #[.int .i64 (M.bget bb).ver, .slice A2 n2 c2, .slice B2 m2 d2, .slice C2 k2 l2] 25) = w3 at *
    by_cases hE : M.bgetE bb = 0
    · obtain rfl : e2 = 0 := by rw [HE2.out, hE]; rfl
      obtain ⟨hw, hbb⟩ := M.bget_put bb hE
      have hw2 := (M.bwrong_zero _).1 hw
      have HW := Lib.hid hw; have HPB := Lib.hid (show M.bput (M.bget bb) = bb by unfold M.bput; rw [if_pos hw, hbb])
      have b1 : n2 ≤ 32768 := by rw [HN2.out]; exact hw2.2.2.1
      have b2 : m2 ≤ 32768 := by rw [HM2.out, hw2.2.2.2.1]; omega
      have b3 : k2 ≤ 32768 := by rw [HK2.out, hw2.2.2.2.2]; omega
      clear hw hbb hw2 hE
      go_wp2_with fail
      refine (pputB_any (M.bget bb) A2 n2 c2 B2 m2 d2 C2 k2 l2 w3 ⟨BK2.out.row 3 rfl, BK2.out.row 2 rfl, BK2.out.row 1 rfl⟩ (by omega) (by omega) (by omega)).mono ?_
      rintro e w5 ⟨PA, PN, Pc, rfl, hPN, ho, hs⟩
      rw [HW.out]
      rw [HPB.out] at ho
      have RP := Lib.hid (RowRd.of_row ho)
      have S5 := Lib.hid (show Since w w5 from Since.add BK2.out.since hs)
      clear hPN ho hs x0 x1 x2 x3
      go_wp2_with fail
      refine (SameBytes_eqB B PA m PN d Pc bb w5 (Since.row S5.out HB.out) RP.out (by omega)).mono ?_
      rintro e w6 ⟨rfl, hb6⟩
      have S6 := Lib.hid (show Since w w6 from Since.add S5.out hb6)
      clear hb6
      go_wp2_with fail
      go_meet
      exact S6.out
    · obtain rfl : e2 = 4 := by rw [HE2.out, M.bgetE_or hE]; rfl
      have SF := Lib.hid BK2.out.since
      clear x0 x1 x2 x3 hE
      go_wp2_with fail
      go_meet
      exact SF.out
  case rest => as_aux_lemma =>
  have S3 := Lib.hid hcut
  clear hcut BK2 HN2 HM2 HK2 HE2 S1
  go_wp2_with fail
  refine (pmakeB_any key code v K A kn kc n c wc (Since.row S3.out HKY.out) (Since.row S3.out HC.out) (by omega) (by omega) (HK.out.below S3.out) (HF.out.below S3.out)).mono ?_
  rintro e w4 ⟨x, rfl, A4, n4, c4, B4, m4, d4, C4, k4, l4, rfl, hn4, hm4, hk4, hB⟩
  by_cases hE : M.bmakeE v code = 0
  · obtain ⟨b, hb⟩ : ∃ b, b = M.bseal key v code := ⟨_, rfl⟩
    have hmk : M.bmake key v code = b := by rw [hb]; exact if_pos hE
    have hver : b.ver = v := by rw [hb]; rfl
    have hcode : b.code = code := by rw [hb]; rfl
    have hdl : b.dig.length = 32 := by rw [hb]; rfl
    have htl : b.tag.length = 32 := by rw [hb]; rfl
    rw [hmk] at hn4 hm4 hk4 hB ⊢
    rw [hver, hE]
    rw [hcode, HLC.out] at hn4
    rw [hdl] at hm4
    rw [htl] at hk4
    subst hn4 hm4 hk4
    have BK4 := Lib.hid ((bank_under (Bank.nil S3.out) hB).box #[.int .i64 v, .slice A4 n4 c4, .slice B4 32 d4, .slice C4 32 l4] 25 (by simp))
    have HBV := Lib.hid hver; have HBC := Lib.hid hcode; have HBD := Lib.hid hb; have HE := Lib.hid hE; have HDL := Lib.hid hdl; have HTL := Lib.hid htl
    have F1 := Lib.hid (show M.bwrong b = 0 by rw [hb]; exact M.seal_wrong hE)
    have F2 := Lib.hid (show (M.bput b).length = 96 + n4 by rw [hb, M.seal_len hE, HLC.out])
    have F3 := Lib.hid (show M.bgetE (M.bput b) = 0 by rw [hb]; exact M.seal_getE hE)
    have F4 := Lib.hid (show M.bget (M.bput b) = b by rw [hb]; exact M.seal_get hE)
    have F5 := Lib.hid (show M.bcheckE key b = 0 by rw [hb]; exact M.seal_check hE)
    clear hB hmk hver hcode hb hE hdl htl
    have x0 := BK4.out.cell 0 rfl 0 rfl
    have x1 := BK4.out.cell 0 rfl 1 rfl
    have x2 := BK4.out.cell 0 rfl 2 rfl
    have x3 := BK4.out.cell 0 rfl 3 rfl
    go_wp2_with fail
    generalize hXM : w4.heap.size = XM at *
    generalize w4.alloc (.cells #[.int .i64 v, .slice A4 n4 c4, .slice B4 32 d4, .slice C4 32 l4] 25) = w5 at *
    clear hXM x0 x1 x2 x3
    have hcon := pputB_any b A4 n4 c4 B4 32 d4 C4 32 l4 w5 ⟨BK4.out.row 3 rfl, BK4.out.row 2 rfl, BK4.out.row 1 rfl⟩ (by omega) (by omega) (by omega)
    rw [HBV.out] at hcon
    refine hcon.mono ?_
    clear hcon
    rintro e w6 ⟨PA, PN, Pc, rfl, hPN, ho, hs⟩
    rw [F1.out]
    have BK6 := Lib.hid (BK4.out.madeB hs ho)
    rw [F2.out] at hPN
    have hPN2 : PN ≤ 4000 := by omega
    clear hPN ho hs BK4
    go_wp2_with fail
    refine (pgetB_any PA PN Pc (M.bput b) w6 (BK6.out.row 0 rfl) (by omega)).mono ?_
    rintro e w7 ⟨x, rfl, A7, n7, c7, B7, m7, d7, C7, k7, l7, rfl, hn7, hm7, hk7, hB⟩
    rw [F4.out] at hn7 hm7 hk7 hB ⊢
    rw [F3.out, HBV.out]
    rw [HBC.out, HLC.out] at hn7
    rw [HDL.out] at hm7
    rw [HTL.out] at hk7
    subst hn7 hm7 hk7
    have BK7 := Lib.hid ((bank_under BK6.out hB).box #[.int .i64 v, .slice A7 n7 c7, .slice B7 32 d7, .slice C7 32 l7] 25 (by simp))
    clear hB BK6 F3 F4
    have x0 := BK7.out.cell 5 rfl 0 rfl
    have x1 := BK7.out.cell 5 rfl 1 rfl
    have x2 := BK7.out.cell 5 rfl 2 rfl
    have x3 := BK7.out.cell 5 rfl 3 rfl
    have y0 := BK7.out.cell 0 rfl 0 rfl
    have y1 := BK7.out.cell 0 rfl 1 rfl
    have y2 := BK7.out.cell 0 rfl 2 rfl
    have y3 := BK7.out.cell 0 rfl 3 rfl
    go_wp2_with fail
    clear x0 x1 x2 x3 y0 y1 y2 y3
    generalize hXY : w7.heap.size = XY at *
    generalize w7.alloc (.cells #[.int .i64 v, .slice A7 n7 c7, .slice B7 32 d7, .slice C7 32 l7] 25) = w8 at *
    clear hXY
    have hcon := SameBundle_eq b A4 n7 c4 B4 32 d4 C4 32 l4 A7 n7 c7 B7 32 d7 C7 32 l7 w8 ⟨BK7.out.row 8 rfl, BK7.out.row 7 rfl, BK7.out.row 6 rfl⟩ ⟨BK7.out.row 3 rfl, BK7.out.row 2 rfl, BK7.out.row 1 rfl⟩ (by omega) (by omega) (by omega)
    rw [HBV.out] at hcon
    refine hcon.mono ?_
    clear hcon
    rintro e w9 ⟨rfl, hs⟩
    have BK9 := Lib.hid (BK7.out.call hs)
    have x0 := BK9.out.cell 5 rfl 0 rfl
    have x1 := BK9.out.cell 5 rfl 1 rfl
    have x2 := BK9.out.cell 5 rfl 2 rfl
    have x3 := BK9.out.cell 5 rfl 3 rfl
    clear hs BK7
    go_wp2_with fail
    clear x0 x1 x2 x3
    have hcon := pcheckB_any key b K kn kc A4 n7 c4 B4 32 d4 C4 32 l4 w9 (Since.row BK9.out.since HKY.out) ⟨BK9.out.row 8 rfl, BK9.out.row 7 rfl, BK9.out.row 6 rfl⟩ (by omega) (by omega) (by omega) (by omega) (HK.out.below BK9.out.since) (HF.out.below BK9.out.since)
    rw [HBV.out, F5.out] at hcon
    refine hcon.mono ?_
    clear hcon
    rintro e w10 ⟨rfl, hs⟩
    have BKA := Lib.hid ((BK9.out.call hs).sub (.cons _ (.cons _ (.cons _ (.cons _ (.cons _ (List.Sublist.refl _)))))))
    have x0 := BKA.out.cell 0 rfl 0 rfl
    have x1 := BKA.out.cell 0 rfl 1 rfl
    have x2 := BKA.out.cell 0 rfl 2 rfl
    have x3 := BKA.out.cell 0 rfl 3 rfl
    have RB0 := Lib.hid (show BunIn w10 b A4 n7 c4 B4 32 d4 C4 32 l4 from ⟨BKA.out.row 3 rfl, BKA.out.row 2 rfl, BKA.out.row 1 rfl⟩)
    clear hs BK9 F5
    go_upto_region 17 with fail
    go_cut [22, 23] (fun s5 s6 wx => CopyCut w [boxAcc XM 25 (bunL v A4 n7 c4 B4 32 d4 C4 32 l4), rowAcc C4 32 l4 b.tag, rowAcc B4 32 d4 b.dig, rowAcc A4 n7 c4 b.code] b v n7 s5 s6 wx)
    case first => as_aux_lemma =>
      refine wp_gen (fun a0 => a0.eval (.tmp 17) = .pointer (some ⟨XM, 0, none⟩) ∧ 200 < a0.tmps.size) ⟨rfl, of_decide_eq_true (by kernel_rfl)⟩ ?_
      rintro a0 ⟨ha17, hsz⟩ HA0
      refine wp_region_setsA (CpI w [boxAcc XM 25 (bunL v A4 n7 c4 B4 32 d4 C4 32 l4), rowAcc C4 32 l4 b.tag, rowAcc B4 32 d4 b.dig, rowAcc A4 n7 c4 b.code] b v n7 (.agg #[.int .i64 v, .slice A4 n7 c4, .slice B4 32 d4, .slice C4 32 l4])) (by kernel_rfl) ?_ ?_ ?_
      · refine ⟨false, false, false, false, false, false, false, false, _, _, _, _, _, _, 0, 0, ⟨none, 0, none, 0, none, 0⟩, ⟨none, 0, none, 0, none, 0⟩, [], [], [], [], rfl, (ch_start _).symm, ?_⟩
        constructor <;> first | (intro h; cases h; done) | (intro _; rfl) | exact BKA.out.drew
      · intro listed a' wx i hI hi
        obtain ⟨m0, m1, m2, m3, m4, m5, m6, m7, s1, s2, s3, s4, s5, s6, g4, g5, q1, q3, L1, L3, L4, L5, rfl, ha, h⟩ := hI
        have hlt := ready_lt hi
        rcases i with _ | _ | _ | _ | _ | _ | _ | _ | i
        all_goals first | (have hr := ready_after hi rfl; simp [Region.binds] at hr) | exact absurd hlt (by simp)
        · subst hr
          refine wpOp_step (o := _) rfl (fun K' hK => ?_)
          refine step_load_bun h.base rfl (.tmp 17) rfl 0 XM (by rw [ha]; exact (ch_at17 _ _ _ _ _ _ _).trans ha17) v A4 n7 c4 B4 32 d4 C4 32 l4 rfl ?_
          exact hK _ _ ⟨true, m1, m2, m3, m4, m5, m6, m7, .agg #[.int .i64 v, .slice A4 n7 c4, .slice B4 32 d4, .slice C4 32 l4], s2, s3, s4, s5, s6, g4, g5, q1, q3, L1, L3, L4, L5, rfl, by rw [ha]; exact ch_put118 _ _ _ _ _ _ _ _, { h with a0 := fun _ => rfl }⟩
        · obtain ⟨rfl, hm0⟩ := hr
          obtain rfl := h.a0 hm0
          obtain rfl := h.n1 rfl
          obtain rfl := off_of (fun h3 => (h.a3 h3).1) rfl
          obtain rfl := off_of (fun h3 => (h.a6 h3).1) rfl
          refine wpOp_step (o := _) rfl (fun K' hK => ?_)
          refine step_call1 rfl 11 (.tmp 118) 25 callCopy rfl (by rw [ha, ch_at118 _ _ _ _ _ _ _ hsz]; exact copy_cpy b A4 n7 c4 B4 d4 C4 l4 wx (cpy_in h.base) (by omega) v HBV.out) ?_
          rintro e w' ⟨q, rfl, hBq⟩
          exact ⟨_, rfl, hK _ _ ⟨m0, true, m2, false, m4, m5, false, m7, .agg #[.int .i64 v, .slice A4 n7 c4, .slice B4 32 d4, .slice C4 32 l4], q.val v n7, s3, s4, s5, s6, g4, g5, q, q3, q.rows b n7, L3, L4, L5, rfl, by rw [ha]; exact ch_put119 _ _ _ _ _ _ _ _, { h with a1 := fun _ => ⟨rfl, rfl⟩, n1 := nofun, a3 := nofun, a6 := nofun, bank := bank_under h.bank hBq }⟩⟩
        · subst hr
          refine wpOp_step (o := _) rfl (fun K' hK => ?_)
          refine step_load_bun h.base rfl (.tmp 17) rfl 0 XM (by rw [ha]; exact (ch_at17 _ _ _ _ _ _ _).trans ha17) v A4 n7 c4 B4 32 d4 C4 32 l4 rfl ?_
          exact hK _ _ ⟨m0, m1, true, m3, m4, m5, m6, m7, s1, s2, .agg #[.int .i64 v, .slice A4 n7 c4, .slice B4 32 d4, .slice C4 32 l4], s4, s5, s6, g4, g5, q1, q3, L1, L3, L4, L5, rfl, by rw [ha]; exact ch_put120 _ _ _ _ _ _ _ _, { h with a2 := fun _ => rfl }⟩
        · obtain ⟨rfl, hr⟩ := hr
          have hm1 : m1 = true := by simp [hr]
          have hm2 : m2 = true := by simp [hr]
          obtain rfl := h.a2 hm2
          obtain rfl := h.n3 rfl
          obtain rfl := off_of (fun h3 => (h.a7 h3).1) rfl
          refine wpOp_step (o := _) rfl (fun K' hK => ?_)
          refine step_call1 rfl 11 (.tmp 120) 25 callCopy rfl (by rw [ha, ch_at120 _ _ _ _ _ _ _ hsz]; exact copy_cpy b A4 n7 c4 B4 d4 C4 l4 wx (cpy_in h.base) (by omega) v HBV.out) ?_
          rintro e w' ⟨q, rfl, hBq⟩
          exact ⟨_, rfl, hK _ _ ⟨m0, m1, m2, true, m4, m5, m6, false, s1, s2, .agg #[.int .i64 v, .slice A4 n7 c4, .slice B4 32 d4, .slice C4 32 l4], q.val v n7, s5, s6, g4, g5, q1, q, L1, q.rows b n7, L4, L5, rfl, by rw [ha]; exact ch_put121 _ _ _ _ _ _ _ _, { h with a3 := fun _ => ⟨hm1, rfl, rfl⟩, n3 := nofun, a7 := nofun, bank := (bank_under h.bank hBq).ins }⟩⟩
        · subst hr
          obtain rfl := h.n4 rfl
          obtain rfl := off_of (fun h3 => (h.a6 h3).2) rfl
          refine wpOp_step (o := _) rfl (fun K' hK => ?_)
          refine step_alloc_bun h.bank rfl rfl fun g w' hB => ?_
          exact hK _ _ ⟨m0, m1, m2, m3, true, m5, false, m7, s1, s2, s3, s4, .pointer (some ⟨g, 0, none⟩), s6, g, g5, q1, q3, L1, L3, [boxAcc g 25 zeroV], L5, rfl, by rw [ha]; exact ch_put22 _ _ _ _ _ _ _ _, { h with a4 := fun _ => ⟨rfl, rfl⟩, n4 := nofun, a6 := nofun, bank := Bank.ins2 (X := [boxAcc g 25 zeroV]) hB }⟩
        · subst hr
          obtain rfl := h.n5 rfl
          obtain rfl := off_of (fun h3 => (h.a7 h3).2) rfl
          refine wpOp_step (o := _) rfl (fun K' hK => ?_)
          refine step_alloc_bun h.bank rfl rfl fun g w' hB => ?_
          exact hK _ _ ⟨m0, m1, m2, m3, m4, true, m6, false, s1, s2, s3, s4, s5, .pointer (some ⟨g, 0, none⟩), g4, g, q1, q3, L1, L3, L4, [boxAcc g 25 zeroV], rfl, by rw [ha]; exact ch_put23 _ _ _ _ _ _ _ _, { h with a5 := fun _ => ⟨rfl, rfl⟩, n5 := nofun, a7 := nofun, bank := Bank.ins3 (X := [boxAcc g 25 zeroV]) hB }⟩
        · obtain ⟨rfl, hr⟩ := hr
          have hm1 : m1 = true := by simp [hr]
          have hm3 : m3 = true := by simp [hr]
          have hm4 : m4 = true := by simp [hr]
          obtain ⟨rfl, rfl⟩ := h.a1 hm1
          obtain ⟨_, rfl, rfl⟩ := h.a3 hm3
          obtain ⟨rfl, rfl⟩ := h.a4 hm4
          refine wpOp_step (o := _) rfl (fun K' hK => ?_)
          refine step_store_mid2 g4 zeroV h.bank rfl rfl (.tmp 22) (.tmp 119) rfl (by rw [ha]; exact ch_at22 _ _ _ _ _ _ _ hsz) v q1.A n7 q1.c q1.B 32 q1.d q1.C 32 q1.l (by rw [ha]; exact ch_at119 _ _ _ _ _ _ _ hsz) fun w' hB => ?_
          exact hK _ _ ⟨m0, m1, m2, m3, m4, m5, true, m7, s1, q1.val v n7, s3, q3.val v n7, .pointer (some ⟨g4, 0, none⟩), s6, g4, g5, q1, q3, q1.rows b n7, q3.rows b n7, [boxAcc g4 25 (q1.cells v n7)], L5, rfl, ha, { h with a4 := fun _ => ⟨rfl, rfl⟩, n4 := (fun h3 => by rw [hm4] at h3; cases h3), a6 := fun _ => ⟨hm1, hm4⟩, bank := hB }⟩
        · obtain ⟨rfl, hr⟩ := hr
          have hm1 : m1 = true := by simp [hr]
          have hm3 : m3 = true := by simp [hr]
          have hm4 : m4 = true := by simp [hr]
          have hm5 : m5 = true := by simp [hr]
          obtain ⟨rfl, rfl⟩ := h.a1 hm1
          obtain ⟨_, rfl, rfl⟩ := h.a3 hm3
          obtain ⟨rfl, rfl⟩ := h.a4 hm4
          obtain ⟨rfl, rfl⟩ := h.a5 hm5
          refine wpOp_step (o := _) rfl (fun K' hK => ?_)
          refine step_store_mid3 g5 zeroV h.bank rfl rfl (.tmp 23) (.tmp 121) rfl (by rw [ha]; exact ch_at23 _ _ _ _ _ _ _ hsz) v q3.A n7 q3.c q3.B 32 q3.d q3.C 32 q3.l (by rw [ha]; exact ch_at121 _ _ _ _ _ _ _ hsz) fun w' hB => ?_
          exact hK _ _ ⟨m0, m1, m2, m3, m4, m5, m6, true, s1, q1.val v n7, s3, q3.val v n7, .pointer (some ⟨g4, 0, none⟩), .pointer (some ⟨g5, 0, none⟩), g4, g5, q1, q3, q1.rows b n7, q3.rows b n7, [boxAcc g4 25 (bif m6 then q1.cells v n7 else zeroV)], [boxAcc g5 25 (q3.cells v n7)], rfl, ha, { h with a5 := fun _ => ⟨rfl, rfl⟩, n5 := (fun h3 => by rw [hm5] at h3; cases h3), a7 := fun _ => ⟨hm3, hm5⟩, bank := hB }⟩
      · intro listed a' wx hI hn
        obtain ⟨m0, m1, m2, m3, m4, m5, m6, m7, s1, s2, s3, s4, s5, s6, g4, g5, q1, q3, L1, L3, L4, L5, rfl, ha, h⟩ := hI
        obtain rfl : m0 = true := ready_none (i := 0) hn rfl (by simp [Region.binds])
        obtain rfl : m1 = true := ready_none (i := 1) hn rfl (by simp [Region.binds])
        obtain rfl : m2 = true := ready_none (i := 2) hn rfl (by simp [Region.binds])
        obtain rfl : m3 = true := ready_none (i := 3) hn rfl (by simp [Region.binds])
        obtain rfl : m4 = true := ready_none (i := 4) hn rfl (by simp [Region.binds])
        obtain rfl : m5 = true := ready_none (i := 5) hn rfl (by simp [Region.binds])
        obtain rfl : m6 = true := ready_none (i := 6) hn rfl (by simp [Region.binds])
        obtain rfl : m7 = true := ready_none (i := 7) hn rfl (by simp [Region.binds])
        obtain ⟨rfl, rfl⟩ := h.a1 rfl
        obtain ⟨_, rfl, rfl⟩ := h.a3 rfl
        obtain ⟨rfl, rfl⟩ := h.a4 rfl
        obtain ⟨rfl, rfl⟩ := h.a5 rfl
        have HFIN := Lib.hid h.bank
        obtain rfl := HA0.out
        subst ha
        clear h hn ha17 hsz HA0
        simp only [ch, Act.put, List.setIfInBounds_toArray, List.set_cons_zero, List.set_cons_succ]
        go_wp2_with fail
        go_meet
        exact ⟨g4, g5, q1, q3, rfl, rfl, HFIN.out⟩
    case rest => as_aux_lemma =>
    obtain ⟨g4, g5, ⟨A1, c1, B1, d1, C1, l1⟩, ⟨A3, c3, B3, d3, C3, l3⟩, rfl, rfl, hB⟩ := hcut
    have BKC := Lib.hid (show Bank w wc [rowAcc C1 32 l1 b.tag, rowAcc B1 32 d1 b.dig, rowAcc A1 n7 c1 b.code, rowAcc C3 32 l3 b.tag, rowAcc B3 32 d3 b.dig, rowAcc A3 n7 c3 b.code, boxAcc g4 25 [.int .i64 v, .slice A1 n7 c1, .slice B1 32 d1, .slice C1 32 l1], boxAcc g5 25 [.int .i64 v, .slice A3 n7 c3, .slice B3 32 d3, .slice C3 32 l3], boxAcc XM 25 [.int .i64 v, .slice A4 n7 c4, .slice B4 32 d4, .slice C4 32 l4], rowAcc C4 32 l4 b.tag, rowAcc B4 32 d4 b.dig, rowAcc A4 n7 c4 b.code] from hB)
    clear hB BKA x0 x1 x2 x3 RB0
    have hp0 := pick_lo other 1073741824 (by omega)
    have hp1 := pick_hi other 1073741824 (by omega)
    obtain ⟨pk, hpk⟩ : ∃ pk : Nat, pick other 1073741824 = (pk : Int) := ⟨(pick other 1073741824).toNat, by omega⟩
    have hpk2 : pk < 1073741824 := by omega
    have PK := Lib.hid hpk
    clear hp0 hp1 hpk
    go_wp2_with fail
    refine (Pick_any other 1073741824 _ (by omega) (by omega)).mono ?_
    rintro e wd ⟨rfl, rfl⟩
    rw [PK.out]
    clear PK
    have hx := BKC.out.cell 6 rfl 0 rfl
    have hf := BKC.out.free 6 rfl 0
    have hwr : IntKind.i64.wrap (1 + (pk : Int)) = 1 + (pk : Int) := IntWalk.i64_in _ (by omega)
    go_upto_region 19 with (with_reducible refine wpList_store_one rfl 3 (.tmp 125) (.tmp 124) rfl ⟨g4, 0, none⟩ (.int .i64 (1 + (pk : Int))) _ rfl rfl rfl (by kernel_rfl) hx hf ?_)
    have BKD := Lib.hid (show Bank w (wc.setCell ⟨g4, 0, none⟩ (.int .i64 (1 + (pk : Int)))) [rowAcc C1 32 l1 b.tag, rowAcc B1 32 d1 b.dig, rowAcc A1 n7 c1 b.code, rowAcc C3 32 l3 b.tag, rowAcc B3 32 d3 b.dig, rowAcc A3 n7 c3 b.code, boxAcc g4 25 [.int .i64 (1 + (pk : Int)), .slice A1 n7 c1, .slice B1 32 d1, .slice C1 32 l1], boxAcc g5 25 [.int .i64 v, .slice A3 n7 c3, .slice B3 32 d3, .slice C3 32 l3], boxAcc XM 25 [.int .i64 v, .slice A4 n7 c4, .slice B4 32 d4, .slice C4 32 l4], rowAcc C4 32 l4 b.tag, rowAcc B4 32 d4 b.dig, rowAcc A4 n7 c4 b.code] from BKC.out.boxSet 6 rfl 0 (.int .i64 (1 + (pk : Int))))
    generalize wc.setCell ⟨g4, 0, none⟩ (.int .i64 (1 + (pk : Int))) = wd at *
    clear hx hf hwr BKC
    have hcv := fun w : World => conv_byteB (P := Tryd.prog) w 3 5 other Tryd.underlying3 Tryd.underlying5
    obtain ⟨xb, hxb⟩ : ∃ xb, xb = BitVec.ofInt 8 other := ⟨_, rfl⟩
    rw [← hxb] at hcv
    clear hxb
    have hx := BKD.out.cell 7 rfl 1 rfl
    go_upto_region 20 with (first
      | (at_builtin; refine wpList_append_bytes (BKD.out.litV #[B8 xb] 5 (by simp)) rfl (.tmp 127) (.tmp 130) 22 rfl 5 infoByte Tryd.underlying22 6 _ _ _ _ rfl rfl _ _ _ _ rfl (row_lit wd #[B8 xb] 5 [xb] 1 1 rfl rfl) (by omega) ?_; intro A5 n5 c5 w5 hn5 hB5; dsimp only [List.set] at hB5; have hx2 := hB5.cell 8 rfl 1 rfl; have hf2 := hB5.free 8 rfl 1; have BK5 := Lib.hid (hB5.boxSet 8 rfl 1 (.slice A5 n5 c5)); have HN5 := Lib.hid hn5; clear hB5 hn5)
      | (with_reducible refine wpList_store_one rfl 22 (.tmp 132) (.tmp 131) rfl ⟨g5, 1, none⟩ (.slice A5 n5 c5) _ rfl rfl rfl (by kernel_rfl) hx2 hf2 ?_))
    have BKE := Lib.hid (show Bank w (w5.setCell ⟨g5, 1, none⟩ (.slice A5 n5 c5)) [rowAcc C1 32 l1 b.tag, rowAcc B1 32 d1 b.dig, rowAcc A1 n7 c1 b.code, rowAcc C3 32 l3 b.tag, rowAcc B3 32 d3 b.dig, rowAcc A5 n5 c5 (b.code ++ [xb]), boxAcc g4 25 [.int .i64 (1 + (pk : Int)), .slice A1 n7 c1, .slice B1 32 d1, .slice C1 32 l1], boxAcc g5 25 [.int .i64 v, .slice A5 n5 c5, .slice B3 32 d3, .slice C3 32 l3], boxAcc XM 25 [.int .i64 v, .slice A4 n7 c4, .slice B4 32 d4, .slice C4 32 l4], rowAcc C4 32 l4 b.tag, rowAcc B4 32 d4 b.dig, rowAcc A4 n7 c4 b.code] from BK5.out.sub (.cons _ (List.Sublist.refl _)))
    have hn5 : n5 ≤ n7 + 1 := Nat.le_of_eq HN5.out
    generalize w5.setCell ⟨g5, 1, none⟩ (.slice A5 n5 c5) = wE at *
    clear BK5 HN5 BKD hcv hx hx2 hf2
    have HLC2 := Lib.hid (show code.length = n7 from HLC.out)
    have HW1 := Lib.hid (fun (hv : (1 + (pk : Int)) ≠ v) (hc : M.bcheckE key ⟨1 + (pk : Int), b.code, b.dig, b.tag⟩ = 0) => M.seal_verB HBD.out HV.out ⟨by omega, by omega⟩ hv hc)
    have HW2 := Lib.hid (fun (hc : M.bcheckE key ⟨v, b.code ++ [xb], b.dig, b.tag⟩ = 0) => M.seal_codeB HBD.out (by rw [HLC2.out]; omega) xb hc)
    simp only [Act.put, List.setIfInBounds_toArray, List.set_cons_zero, List.set_cons_succ]
    go_cut [160] (fun s wx => s = .bool false ∧ Bank w wx [boxAcc XM 25 [.int .i64 v, .slice A4 n7 c4, .slice B4 32 d4, .slice C4 32 l4], rowAcc C4 32 l4 b.tag, rowAcc B4 32 d4 b.dig, rowAcc A4 n7 c4 b.code])
    case first => as_aux_lemma =>
      have y0 := BKE.out.cell 6 rfl 0 rfl
      have y1 := BKE.out.cell 6 rfl 1 rfl
      have y2 := BKE.out.cell 6 rfl 2 rfl
      have y3 := BKE.out.cell 6 rfl 3 rfl
      go_wp2_with fail
      clear y0 y1 y2 y3
      refine (pcheckB_any key ⟨1 + (pk : Int), b.code, b.dig, b.tag⟩ K kn kc A1 n7 c1 B1 32 d1 C1 32 l1 wE (Since.row BKE.out.since HKY.out) ⟨BKE.out.row 2 rfl, BKE.out.row 1 rfl, BKE.out.row 0 rfl⟩ (by omega) (by omega) (by omega) (by omega) (HK.out.below BKE.out.since) (HF.out.below BKE.out.since)).mono ?_
      rintro e wf ⟨rfl, hs⟩
      have BKF := Lib.hid (BKE.out.call hs)
      clear hs BKE
      by_cases hc1 : M.bcheckE key ⟨1 + (pk : Int), b.code, b.dig, b.tag⟩ = 0
      · rw [hc1]
        have z0 := BKF.out.cell 6 rfl 0 rfl
        by_cases hvv : (1 + (pk : Int)) = v
        · have t8 : ((1 + (pk : Int)) != v) = false := by simp; omega
          clear hc1 hvv HW1
          have y0 := BKF.out.cell 7 rfl 0 rfl
          have y1 := BKF.out.cell 7 rfl 1 rfl
          have y2 := BKF.out.cell 7 rfl 2 rfl
          have y3 := BKF.out.cell 7 rfl 3 rfl
          go_wp2_with fail
          clear y0 y1 y2 y3
          refine (pcheckB_any key ⟨v, b.code ++ [xb], b.dig, b.tag⟩ K kn kc A5 n5 c5 B3 32 d3 C3 32 l3 wf (Since.row BKF.out.since HKY.out) ⟨BKF.out.row 5 rfl, BKF.out.row 4 rfl, BKF.out.row 3 rfl⟩ (by omega) (by omega) (by omega) (by omega) (HK.out.below BKF.out.since) (HF.out.below BKF.out.since)).mono ?_
          rintro e wg1 ⟨rfl, hs⟩
          have BKG1 := Lib.hid (BKF.out.call hs)
          clear hs BKF
          by_cases hc2 : M.bcheckE key ⟨v, b.code ++ [xb], b.dig, b.tag⟩ = 0
          · rw [hc2]
            have HO := Lib.hid (HW2.out hc2)
            clear hc2
            have x0 := BKG1.out.cell 8 rfl 0 rfl
            have x1 := BKG1.out.cell 8 rfl 1 rfl
            have x2 := BKG1.out.cell 8 rfl 2 rfl
            have x3 := BKG1.out.cell 8 rfl 3 rfl
            have y0 := BKG1.out.cell 7 rfl 0 rfl
            have y1 := BKG1.out.cell 7 rfl 1 rfl
            have y2 := BKG1.out.cell 7 rfl 2 rfl
            have y3 := BKG1.out.cell 7 rfl 3 rfl
            go_wp2_with fail
            clear x0 x1 x2 x3 y0 y1 y2 y3
            refine (one_anyV b ⟨v, b.code ++ [xb], b.dig, b.tag⟩ v v HBV.out rfl A4 B4 C4 n7 c4 32 d4 32 l4 A5 B3 C3 n5 c5 32 d3 32 l3 wg1 (BKG1.out.row 11 rfl) (BKG1.out.row 5 rfl) (by omega) (by omega)).mono ?_
            rintro e wh ⟨rfl, hs⟩
            rw [HO.out]
            have HFIN := Lib.hid ((BKG1.out.call hs).sub (List.drop_sublist 8 _))
            clear hs BKG1
            go_wp2_with fail
            go_meet
            exact ⟨rfl, HFIN.out⟩
          · obtain ⟨e9, he9⟩ : ∃ e9 : Int, e9 = (M.bcheckE key ⟨v, b.code ++ [xb], b.dig, b.tag⟩ : Int) := ⟨_, rfl⟩
            have t9 : (e9 == 0) = false := by simp; omega
            rw [← he9]
            have HFIN := Lib.hid (BKG1.out.sub (List.drop_sublist 8 _))
            clear he9 hc2 BKG1
            go_wp2_with fail
            go_meet
            exact ⟨rfl, HFIN.out⟩
        · have t8 : ((1 + (pk : Int)) != v) = true := by simp; omega
          have HO := Lib.hid (HW1.out hvv hc1)
          clear hc1 hvv HW1
          have x0 := BKF.out.cell 8 rfl 0 rfl
          have x1 := BKF.out.cell 8 rfl 1 rfl
          have x2 := BKF.out.cell 8 rfl 2 rfl
          have x3 := BKF.out.cell 8 rfl 3 rfl
          have y1 := BKF.out.cell 6 rfl 1 rfl
          have y2 := BKF.out.cell 6 rfl 2 rfl
          have y3 := BKF.out.cell 6 rfl 3 rfl
          go_wp2_with fail
          clear x0 x1 x2 x3 y1 y2 y3 z0
          refine (one_anyV b ⟨1 + (pk : Int), b.code, b.dig, b.tag⟩ v (1 + (pk : Int)) HBV.out rfl A4 B4 C4 n7 c4 32 d4 32 l4 A1 B1 C1 n7 c1 32 d1 32 l1 wf (BKF.out.row 11 rfl) (BKF.out.row 2 rfl) (by omega) (by omega)).mono ?_
          rintro e wg ⟨rfl, hs⟩
          rw [HO.out]
          have BKG := Lib.hid (BKF.out.call hs)
          clear hs BKF HO
          have y0 := BKG.out.cell 7 rfl 0 rfl
          have y1 := BKG.out.cell 7 rfl 1 rfl
          have y2 := BKG.out.cell 7 rfl 2 rfl
          have y3 := BKG.out.cell 7 rfl 3 rfl
          go_wp2_with fail
          clear y0 y1 y2 y3
          refine (pcheckB_any key ⟨v, b.code ++ [xb], b.dig, b.tag⟩ K kn kc A5 n5 c5 B3 32 d3 C3 32 l3 wg (Since.row BKG.out.since HKY.out) ⟨BKG.out.row 5 rfl, BKG.out.row 4 rfl, BKG.out.row 3 rfl⟩ (by omega) (by omega) (by omega) (by omega) (HK.out.below BKG.out.since) (HF.out.below BKG.out.since)).mono ?_
          rintro e wg2 ⟨rfl, hs⟩
          have BKG2 := Lib.hid (BKG.out.call hs)
          clear hs BKG
          by_cases hc2 : M.bcheckE key ⟨v, b.code ++ [xb], b.dig, b.tag⟩ = 0
          · rw [hc2]
            have HO := Lib.hid (HW2.out hc2)
            clear hc2
            have x0 := BKG2.out.cell 8 rfl 0 rfl
            have x1 := BKG2.out.cell 8 rfl 1 rfl
            have x2 := BKG2.out.cell 8 rfl 2 rfl
            have x3 := BKG2.out.cell 8 rfl 3 rfl
            have y0 := BKG2.out.cell 7 rfl 0 rfl
            have y1 := BKG2.out.cell 7 rfl 1 rfl
            have y2 := BKG2.out.cell 7 rfl 2 rfl
            have y3 := BKG2.out.cell 7 rfl 3 rfl
            go_wp2_with fail
            clear x0 x1 x2 x3 y0 y1 y2 y3
            refine (one_anyV b ⟨v, b.code ++ [xb], b.dig, b.tag⟩ v v HBV.out rfl A4 B4 C4 n7 c4 32 d4 32 l4 A5 B3 C3 n5 c5 32 d3 32 l3 wg2 (BKG2.out.row 11 rfl) (BKG2.out.row 5 rfl) (by omega) (by omega)).mono ?_
            rintro e wh ⟨rfl, hs⟩
            rw [HO.out]
            have HFIN := Lib.hid ((BKG2.out.call hs).sub (List.drop_sublist 8 _))
            clear hs BKG2
            go_wp2_with fail
            go_meet
            exact ⟨rfl, HFIN.out⟩
          · obtain ⟨e9, he9⟩ : ∃ e9 : Int, e9 = (M.bcheckE key ⟨v, b.code ++ [xb], b.dig, b.tag⟩ : Int) := ⟨_, rfl⟩
            have t9 : (e9 == 0) = false := by simp; omega
            rw [← he9]
            have HFIN := Lib.hid (BKG2.out.sub (List.drop_sublist 8 _))
            clear he9 hc2 BKG2
            go_wp2_with fail
            go_meet
            exact ⟨rfl, HFIN.out⟩
      · obtain ⟨e8, he8⟩ : ∃ e8 : Int, e8 = (M.bcheckE key ⟨1 + (pk : Int), b.code, b.dig, b.tag⟩ : Int) := ⟨_, rfl⟩
        have t8 : (e8 == 0) = false := by simp; omega
        rw [← he8]
        clear he8 hc1 HW1
        have y0 := BKF.out.cell 7 rfl 0 rfl
        have y1 := BKF.out.cell 7 rfl 1 rfl
        have y2 := BKF.out.cell 7 rfl 2 rfl
        have y3 := BKF.out.cell 7 rfl 3 rfl
        go_wp2_with fail
        clear y0 y1 y2 y3
        refine (pcheckB_any key ⟨v, b.code ++ [xb], b.dig, b.tag⟩ K kn kc A5 n5 c5 B3 32 d3 C3 32 l3 wf (Since.row BKF.out.since HKY.out) ⟨BKF.out.row 5 rfl, BKF.out.row 4 rfl, BKF.out.row 3 rfl⟩ (by omega) (by omega) (by omega) (by omega) (HK.out.below BKF.out.since) (HF.out.below BKF.out.since)).mono ?_
        rintro e wg3 ⟨rfl, hs⟩
        have BKG3 := Lib.hid (BKF.out.call hs)
        clear hs BKF
        by_cases hc2 : M.bcheckE key ⟨v, b.code ++ [xb], b.dig, b.tag⟩ = 0
        · rw [hc2]
          have HO := Lib.hid (HW2.out hc2)
          clear hc2
          have x0 := BKG3.out.cell 8 rfl 0 rfl
          have x1 := BKG3.out.cell 8 rfl 1 rfl
          have x2 := BKG3.out.cell 8 rfl 2 rfl
          have x3 := BKG3.out.cell 8 rfl 3 rfl
          have y0 := BKG3.out.cell 7 rfl 0 rfl
          have y1 := BKG3.out.cell 7 rfl 1 rfl
          have y2 := BKG3.out.cell 7 rfl 2 rfl
          have y3 := BKG3.out.cell 7 rfl 3 rfl
          go_wp2_with fail
          clear x0 x1 x2 x3 y0 y1 y2 y3
          refine (one_anyV b ⟨v, b.code ++ [xb], b.dig, b.tag⟩ v v HBV.out rfl A4 B4 C4 n7 c4 32 d4 32 l4 A5 B3 C3 n5 c5 32 d3 32 l3 wg3 (BKG3.out.row 11 rfl) (BKG3.out.row 5 rfl) (by omega) (by omega)).mono ?_
          rintro e wh ⟨rfl, hs⟩
          rw [HO.out]
          have HFIN := Lib.hid ((BKG3.out.call hs).sub (List.drop_sublist 8 _))
          clear hs BKG3
          go_wp2_with fail
          go_meet
          exact ⟨rfl, HFIN.out⟩
        · obtain ⟨e9, he9⟩ : ∃ e9 : Int, e9 = (M.bcheckE key ⟨v, b.code ++ [xb], b.dig, b.tag⟩ : Int) := ⟨_, rfl⟩
          have t9 : (e9 == 0) = false := by simp; omega
          rw [← he9]
          have HFIN := Lib.hid (BKG3.out.sub (List.drop_sublist 8 _))
          clear he9 hc2 BKG3
          go_wp2_with fail
          go_meet
          exact ⟨rfl, HFIN.out⟩
    case rest => as_aux_lemma =>
    obtain ⟨rfl, hB⟩ := hcut
    have BKU := Lib.hid hB
    clear hB BKE HW1 HW2
    clear F1 F2
    have x0 := BKU.out.cell 0 rfl 0 rfl
    have x1 := BKU.out.cell 0 rfl 1 rfl
    have x2 := BKU.out.cell 0 rfl 2 rfl
    have x3 := BKU.out.cell 0 rfl 3 rfl
    go_wp2_with fail
    have hcon := CopyBundle_any b A4 n7 c4 B4 32 d4 C4 32 l4 wc ⟨BKU.out.row 3 rfl, BKU.out.row 2 rfl, BKU.out.row 1 rfl⟩ (by omega) (by omega) (by omega)
    rw [HBV.out] at hcon
    refine hcon.mono ?_
    clear hcon x0 x1 x2 x3
    rintro e wp ⟨A9, c9, B9, d9, C9, l9, rfl, hBq⟩
    rw [HBV.out]
    have BKV := Lib.hid ((bank_under BKU.out hBq).box #[.int .i64 v, .slice A9 n7 c9, .slice B9 32 d9, .slice C9 32 l9] 25 (by simp))
    clear hBq BKU
    have hw1 : IntKind.i64.wrap (64 + (n7 : Int)) = 64 + (n7 : Int) := IntWalk.i64_in _ (by omega)
    have hw2 : IntKind.i64.wrap (8 * (64 + (n7 : Int))) = 8 * (64 + (n7 : Int)) := IntWalk.i64_in _ (by omega)
    go_wp2_with fail
    generalize hXU : wp.heap.size = XU at *
    generalize wp.alloc (.cells #[.int .i64 v, .slice A9 n7 c9, .slice B9 32 d9, .slice C9 32 l9] 25) = wv at *
    clear hXU hw1 hw2
    have hp0 := pick_lo at' (8 * (64 + (n7 : Int))) (by omega)
    have hp1 := pick_hi at' (8 * (64 + (n7 : Int))) (by omega)
    obtain ⟨kk, hkk⟩ : ∃ kk : Nat, pick at' (8 * (64 + (n7 : Int))) = (kk : Int) := ⟨(pick at' (8 * (64 + (n7 : Int)))).toNat, by omega⟩
    have hkk2 : kk < 8 * (64 + n7) := by omega
    have HKK := Lib.hid hkk
    clear hp0 hp1 hkk
    refine (Pick_any at' (8 * (64 + (n7 : Int))) _ (by omega) (by omega)).mono ?_
    rintro e wq ⟨rfl, rfl⟩
    rw [HKK.out]
    clear HKK
    obtain ⟨r, hr⟩ : ∃ r, r = kk % 8 := ⟨_, rfl⟩
    obtain ⟨j, hj⟩ : ∃ j, j = kk / 8 := ⟨_, rfl⟩
    have hr8 : r < 8 := by omega
    have hj8 : j < 64 + n7 := by omega
    have hjk : 8 * j ≤ kk := by omega
    have hrem : (kk : Int).tmod 8 = (r : Int) := by rw [Int.tmod_eq_emod_of_nonneg (by omega)]; omega
    have hquo : (kk : Int).tdiv 8 = (j : Int) := by rw [Int.tdiv_eq_ediv_of_nonneg (by omega)]; omega
    clear hr hj
    have hwr : IntKind.i64.wrap (r : Int) = (r : Int) := IntWalk.i64_in _ (by omega)
    have hwj : IntKind.i64.wrap (j : Int) = (j : Int) := IntWalk.i64_in _ (by omega)
    have hcvu : IntKind.u64.wrap (r : Int) = (r : Int) := by rw [wrap_u64']; omega
    have hshl : ∀ ty, binOp .shl ty (.int .u8 1) (.int .u64 (r : Int)) = pure (B8 (1#8 <<< r)) := fun ty => by
      have := B8_shl' ty (1#8) .u64 r
      exact this
    have r0 : (0 : Int) ≤ (r : Int) := by omega
    go_upto_region 27 with fail
    clear hrem hquo hwr hwj hcvu hshl r0
    obtain ⟨sb, hsb⟩ : ∃ sb, sb = 1#8 <<< r := ⟨_, rfl⟩
    have HSB := Lib.hid hsb
    rw [← hsb]
    clear hsb
    by_cases hj32 : j < 32
    · as_aux_lemma =>
      have q1 : (j : Int) < 32 := by omega
      obtain ⟨g9, rfl⟩ := own_someB (BKV.out.at 2 rfl) (by show 0 < 32; omega)
      have hiN : j < 32 := by omega
      have i0 : (0 : Int) ≤ (j : Int) := by omega
      have i1 : (j : Int) < (32 : Int) := by omega
      have x0 := BKV.out.cell 0 rfl 2 rfl
      obtain ⟨hcu, hfu⟩ := BKV.out.byte 2 rfl j hiN
      have BKW := Lib.hid (BKV.out.drew.rowSet 2 rfl j (b.dig.getD j 0 ^^^ sb))
      go_wp2_with fail
      refine wp_region_still_tail 11 (by kernel_rfl) (by kernel_rfl) ?_
      simp only [List.take_succ_cons, List.take_zero, List.drop_succ_cons, List.drop_zero]
      repeat still_step
      refine wpStill_nil ?_
      change wpList _ _ _ _ _ wv.drew
      refine wpList_store_one rfl _ _ _ rfl ⟨g9, j, none⟩ (B8 (b.dig.getD j 0 ^^^ sb)) _ rfl rfl rfl (by kernel_rfl) hcu hfu ?_
      generalize wv.drew.setCell ⟨g9, j, none⟩ (B8 (b.dig.getD j 0 ^^^ sb)) = ww at *
      clear hcu hfu x0 BKV
      have x0 := BKW.out.cell 0 rfl 0 rfl
      have x1 := BKW.out.cell 0 rfl 1 rfl
      have x2 := BKW.out.cell 0 rfl 2 rfl
      have x3 := BKW.out.cell 0 rfl 3 rfl
      go_wp2_with fail
      clear x0 x1 x2 x3
      refine (pcheckB_any key ⟨v, b.code, b.dig.set j (b.dig.getD j 0 ^^^ sb), b.tag⟩ K kn kc A9 n7 c9 (some ⟨g9, 0, none⟩) 32 d9 C9 32 l9 ww (Since.row BKW.out.since HKY.out) ⟨BKW.out.row 3 rfl, BKW.out.row 2 rfl, BKW.out.row 1 rfl⟩ (by omega) (by omega) (by omega) (by omega) (HK.out.below BKW.out.since) (HF.out.below BKW.out.since)).mono ?_
      rintro e wy ⟨rfl, hs⟩
      rw [show M.bcheckE key ⟨v, b.code, b.dig.set j (b.dig.getD j 0 ^^^ sb), b.tag⟩ = 11 by rw [HSB.out]; exact M.seal_udigB HBD.out HE.out hiN hr8]
      have HFIN := Lib.hid (BKW.out.call hs).since
      clear hs BKW
      go_wp2_with fail
      go_ret
      exact ⟨rfl, HFIN.out⟩
    have q1 : ¬ (j : Int) < 32 := by omega
    by_cases hj64 : j < 64
    · as_aux_lemma =>
      have q2 : (j : Int) < 64 := by omega
      obtain ⟨g9, rfl⟩ := own_someB (BKV.out.at 1 rfl) (by show 0 < 32; omega)
      obtain ⟨i, hi⟩ : ∃ i, j = i + 32 := ⟨j - 32, by omega⟩
      have hsub : (j : Int) - 32 = (i : Int) := by omega
      have hwi : IntKind.i64.wrap (i : Int) = (i : Int) := IntWalk.i64_in _ (by omega)
      have HI := Lib.hid hi
      have hiN : i < 32 := by omega
      clear hi
      have i0 : (0 : Int) ≤ (i : Int) := by omega
      have i1 : (i : Int) < (32 : Int) := by omega
      have x0 := BKV.out.cell 0 rfl 3 rfl
      obtain ⟨hcu, hfu⟩ := BKV.out.byte 1 rfl i hiN
      have BKW := Lib.hid (BKV.out.drew.rowSet 1 rfl i (b.tag.getD i 0 ^^^ sb))
      go_wp2_with fail
      refine wp_region_still_tail 13 (by kernel_rfl) (by kernel_rfl) ?_
      simp only [List.take_succ_cons, List.take_zero, List.drop_succ_cons, List.drop_zero]
      repeat still_step
      refine wpStill_nil ?_
      change wpList _ _ _ _ _ wv.drew
      refine wpList_store_one rfl _ _ _ rfl ⟨g9, i, none⟩ (B8 (b.tag.getD i 0 ^^^ sb)) _ rfl rfl rfl (by kernel_rfl) hcu hfu ?_
      generalize wv.drew.setCell ⟨g9, i, none⟩ (B8 (b.tag.getD i 0 ^^^ sb)) = ww at *
      clear hcu hfu x0 BKV
      have x0 := BKW.out.cell 0 rfl 0 rfl
      have x1 := BKW.out.cell 0 rfl 1 rfl
      have x2 := BKW.out.cell 0 rfl 2 rfl
      have x3 := BKW.out.cell 0 rfl 3 rfl
      go_wp2_with fail
      clear x0 x1 x2 x3
      refine (pcheckB_any key ⟨v, b.code, b.dig, b.tag.set i (b.tag.getD i 0 ^^^ sb)⟩ K kn kc A9 n7 c9 B9 32 d9 (some ⟨g9, 0, none⟩) 32 l9 ww (Since.row BKW.out.since HKY.out) ⟨BKW.out.row 3 rfl, BKW.out.row 2 rfl, BKW.out.row 1 rfl⟩ (by omega) (by omega) (by omega) (by omega) (HK.out.below BKW.out.since) (HF.out.below BKW.out.since)).mono ?_
      rintro e wy ⟨rfl, hs⟩
      rw [show M.bcheckE key ⟨v, b.code, b.dig, b.tag.set i (b.tag.getD i 0 ^^^ sb)⟩ = 11 by rw [HSB.out]; exact M.seal_utagB HBD.out HE.out hiN hr8]
      have HFIN := Lib.hid (BKW.out.call hs).since
      clear hs BKW
      go_wp2_with fail
      go_ret
      exact ⟨rfl, HFIN.out⟩
    · as_aux_lemma =>
      have q2 : ¬ (j : Int) < 64 := by omega
      obtain ⟨g9, rfl⟩ := own_someB (BKV.out.at 3 rfl) (by show 0 < n7; omega)
      obtain ⟨i, hi⟩ : ∃ i, j = i + 64 := ⟨j - 64, by omega⟩
      have hsub : (j : Int) - 64 = (i : Int) := by omega
      have hwi : IntKind.i64.wrap (i : Int) = (i : Int) := IntWalk.i64_in _ (by omega)
      have HI := Lib.hid hi
      have hiN : i < n7 := by omega
      clear hi
      have i0 : (0 : Int) ≤ (i : Int) := by omega
      have i1 : (i : Int) < (n7 : Int) := by omega
      have x0 := BKV.out.cell 0 rfl 1 rfl
      obtain ⟨hcu, hfu⟩ := BKV.out.byte 3 rfl i hiN
      have BKW := Lib.hid (BKV.out.drew.rowSet 3 rfl i (b.code.getD i 0 ^^^ sb))
      go_wp2_with fail
      refine wp_region_still_tail 13 (by kernel_rfl) (by kernel_rfl) ?_
      simp only [List.take_succ_cons, List.take_zero, List.drop_succ_cons, List.drop_zero]
      repeat still_step
      refine wpStill_nil ?_
      change wpList _ _ _ _ _ wv.drew
      refine wpList_store_one rfl _ _ _ rfl ⟨g9, i, none⟩ (B8 (b.code.getD i 0 ^^^ sb)) _ rfl rfl rfl (by kernel_rfl) hcu hfu ?_
      generalize wv.drew.setCell ⟨g9, i, none⟩ (B8 (b.code.getD i 0 ^^^ sb)) = ww at *
      clear hcu hfu x0 BKV
      have x0 := BKW.out.cell 0 rfl 0 rfl
      have x1 := BKW.out.cell 0 rfl 1 rfl
      have x2 := BKW.out.cell 0 rfl 2 rfl
      have x3 := BKW.out.cell 0 rfl 3 rfl
      go_wp2_with fail
      clear x0 x1 x2 x3
      refine (pcheckB_any key ⟨v, b.code.set i (b.code.getD i 0 ^^^ sb), b.dig, b.tag⟩ K kn kc (some ⟨g9, 0, none⟩) n7 c9 B9 32 d9 C9 32 l9 ww (Since.row BKW.out.since HKY.out) ⟨BKW.out.row 3 rfl, BKW.out.row 2 rfl, BKW.out.row 1 rfl⟩ (by omega) (by omega) (by omega) (by omega) (HK.out.below BKW.out.since) (HF.out.below BKW.out.since)).mono ?_
      rintro e wy ⟨rfl, hs⟩
      have HOR := Lib.hid (show M.bcheckE key ⟨v, b.code.set i (b.code.getD i 0 ^^^ sb), b.dig, b.tag⟩ = 11 ∨ M.bone b ⟨v, b.code.set i (b.code.getD i 0 ^^^ sb), b.dig, b.tag⟩ = true by rw [HSB.out]; exact M.seal_ucodeB HBD.out HE.out (by rw [HLC2.out]; exact hiN) hr8)
      have BKX := Lib.hid (BKW.out.call hs)
      clear hs BKW
      by_cases hce : M.bcheckE key ⟨v, b.code.set i (b.code.getD i 0 ^^^ sb), b.dig, b.tag⟩ = 11
      · rw [hce]
        have HFIN := Lib.hid BKX.out.since
        clear hce HOR BKX
        go_wp2_with fail
        go_ret
        exact ⟨rfl, HFIN.out⟩
      · have HO := Lib.hid (HOR.out.resolve_left hce)
        obtain ⟨e9, he9⟩ : ∃ e9 : Int, e9 = (M.bcheckE key ⟨v, b.code.set i (b.code.getD i 0 ^^^ sb), b.dig, b.tag⟩ : Int) := ⟨_, rfl⟩
        have t9 : (e9 == 11) = false := by simp; omega
        rw [← he9]
        clear he9 hce HOR
        have k512 : (512 : Int) ≤ (kk : Int) := by omega
        have x0 := BKX.out.cell 4 rfl 0 rfl
        have x1 := BKX.out.cell 4 rfl 1 rfl
        have x2 := BKX.out.cell 4 rfl 2 rfl
        have x3 := BKX.out.cell 4 rfl 3 rfl
        have y0 := BKX.out.cell 0 rfl 0 rfl
        have y1 := BKX.out.cell 0 rfl 1 rfl
        have y2 := BKX.out.cell 0 rfl 2 rfl
        have y3 := BKX.out.cell 0 rfl 3 rfl
        go_wp2_with fail
        clear x0 x1 x2 x3 y0 y1 y2 y3
        refine (one_anyV b ⟨v, b.code.set i (b.code.getD i 0 ^^^ sb), b.dig, b.tag⟩ v v HBV.out rfl A4 B4 C4 n7 c4 32 d4 32 l4 (some ⟨g9, 0, none⟩) B9 C9 n7 c9 32 d9 32 l9 wy (BKX.out.row 7 rfl) (BKX.out.row 3 rfl) (by omega) (by omega)).mono ?_
        rintro e wz ⟨rfl, hs⟩
        rw [HO.out]
        have HFIN := Lib.hid (BKX.out.call hs).since
        clear hs BKX HO
        go_wp2_with fail
        go_ret
        exact ⟨rfl, HFIN.out⟩
  · obtain ⟨e4, he4⟩ : ∃ e4 : Int, e4 = (M.bmakeE v code : Int) := ⟨_, rfl⟩
    have t4 : (e4 != 0) = true := by simp; omega
    rw [← he4]
    have BK4 := Lib.hid ((bank_under (Bank.nil S3.out) hB).box #[.int .i64 (M.bmake key v code).ver, .slice A4 n4 c4, .slice B4 m4 d4, .slice C4 k4 l4] 25 (by simp))
    clear hn4 hm4 hk4 hB
    have hbad := M.make_bad hE (by rw [HLC.out]; omega)
    have SF := Lib.hid BK4.out.since
    clear he4 hE
    by_cases hv1 : v < 1
    · go_wp2_with fail
      go_ret
      exact ⟨rfl, SF.out⟩
    · have hv2 : 1073741824 < v := by omega
      clear hbad
      go_wp2_with fail
      go_ret
      exact ⟨rfl, SF.out⟩
end Go.Proofs.YtidcfjmibljkeaaDoor.K
