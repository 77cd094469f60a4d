/- The contract of the law FrameSpoilt. -/
import Derived.Test.YtfpjmeknjhhakaaFrSame
import Derived.Test.YtfpjmeknjhhakaaFrPutsF
import Derived.Test.YtfpjmeknjhhakaaFrAwake
namespace Go.Proofs.Ytfpjmeknjhhakaa.K
open Go Go.RowKit

theorem Bank.rowSet {w0 w : World} {L : List Acc} (h : Bank w0 w L) (i : Nat) {g N c : Nat} {bs : List (BitVec 8)} (hi : L[i]? = some (rowAcc (some ⟨g, 0, Option.none⟩) N c bs)) (j : Nat) (v : BitVec 8) : Bank w0 (w.setCell ⟨g, j, Option.none⟩ (B8 v)) (L.set i (rowAcc (some ⟨g, 0, Option.none⟩) N c (bs.set j v))) := by
  obtain ⟨ho, hg⟩ := (h.at i hi).stored j (B8 v)
  refine h.put i hi ?_ hg (.inl rfl)
  rw [show (rowAcc (some ⟨g, 0, Option.none⟩) N c bs).xs.set j (B8 v) = bv (bs.set j v) by simp [rowAcc, bv, List.map_set]] at ho
  exact ho
theorem onesP_take' {w : World} {A : Option Addr} {ps : List FR} (h : OnesP w A ps) (k : Nat) : OnesP w A (ps.take k) := fun i hi => by
  have hi2 : i < ps.length := by rw [List.length_take] at hi; omega
  have := h i hi2
  rw [List.getElem_take]
  exact this
theorem mid_getD (P T R : List (BitVec 8)) (j : Nat) (h : j < T.length) : (P ++ T ++ R)[P.length + j]? = some (T.getD j 0) := by
  rw [List.append_assoc, List.getElem?_append_right (by omega), show P.length + j - P.length = j by omega, List.getElem?_append_left h]
  simp [h]
theorem mid_set (P T R : List (BitVec 8)) (j : Nat) (v : BitVec 8) (h : j < T.length) : (P ++ T ++ R).set (P.length + j) v = P ++ T.set j v ++ R := by
  rw [List.append_assoc, List.set_append_right _ _ (by omega), show P.length + j - P.length = j by omega, List.set_append_left _ _ h, List.append_assoc]
theorem bit_test (x : BitVec 32) (k : Nat) : ((x >>> k) &&& 1#32 == 1#32) = x.getLsbD k := by
  rw [Bool.eq_iff_iff, beq_iff_eq]
  constructor
  · intro h
    have h2 := congrArg (fun y : BitVec 32 => y.getLsbD 0) h
    simpa using h2
  · intro h
    apply BitVec.eq_of_getLsbD_eq; intro i hi
    rw [BitVec.getLsbD_and, BitVec.getLsbD_ushiftRight, BitVec.getLsbD_one]
    cases i with
    | zero => simpa using h
    | succ i => simp
/-- frames' bytes, parted at one of them -/
theorem pbytes_part (fs : List F.Fr) (k : Nat) (h : k < fs.length) : F.pbytes fs = F.pbytes (fs.take k) ++ (F.five fs[k] ++ (F.be4 (F.fsum (F.five fs[k] ++ fs[k].data)) ++ fs[k].data)) ++ F.pbytes (fs.drop (k + 1)) := by
  conv => lhs; rw [← List.take_append_drop k fs, F.pbytes_append, List.drop_eq_getElem_cons h, F.pbytes_cons]
  simp [F.one, List.append_assoc]
/-- the bytes of the frames, so many bits turned -/
def SpB (w1 wr : World) (g2 N2 c2 : Nat) (P data : List (BitVec 8)) (t : Nat) (x : BitVec 32) (R : List (BitVec 8)) (j : Nat) : Prop := Bank w1 wr [rowAcc (some ⟨g2, 0, none⟩) N2 c2 (P ++ F.turn data t x j ++ R)]
set_option maxHeartbeats 16000000 in
set_option maxRecDepth 100000 in
theorem fspoilt_any (A : Option Addr) (n c : Nat) (fs : List F.Fr) (which at' : Int) (x : BitVec 32) (w : World) (hfs : Ones w A fs) (hn : fs.length = n) (hnc : n ≤ c) (hc : c ≤ 9223372036854775807) (hw : ∀ f ∈ fs, f.data.length ≤ 140737488351232) :
    Calls Try.prog 7 #[.slice A n c, .int .i64 which, .int .i64 at', W32 x] w (Says w) := by
  have HF := Lib.hid hfs; have HN := Lib.hid hn; have HW := Lib.hid hw
  have h0 : ∀ t, binOp .eql t (W32 x) (.int .u32 0) = pure (.bool (x == 0#32)) := fun t => W32_eql t x 0#32
  have h1 : ∀ t (x : BitVec 32), binOp .and t (W32 x) (.int .u32 1) = pure (W32 (x &&& 1#32)) := fun t x => W32_and t x 1#32
  have h3 : ∀ t (x : BitVec 32), binOp .eql t (W32 x) (.int .u32 1) = pure (.bool (x == 1#32)) := fun t x => W32_eql t x 1#32
  clear hfs hn hw
  go_enter Try.func7, Try.ntmps7
  go_wp2_with fail
  refine (awake_any w).mono ?_
  rintro e w0 ⟨rfl, hs0⟩
  have S0 := Lib.hid hs0
  clear hs0
  go_wp2_with fail
  refine (great_any A n c fs w0 (HF.out.below S0.out) HN.out hnc hc HW.out).mono ?_
  rintro e w1 ⟨b, rfl, hle, rfl⟩
  cases b
  case true =>
    clear hle
    go_wp2_with fail
    go_ret
    exact ⟨rfl, S0.out⟩
  case false =>
    have HLE := Lib.hid (hle rfl)
    clear hle
    by_cases hn0 : n = 0
    case pos =>
      have i1 : ((n : Int) == 0) = true := by simpa using hn0
      clear hn0
      go_wp2_with fail
      go_ret
      exact ⟨rfl, S0.out⟩
    case neg =>
      have i1 : ((n : Int) == 0) = false := by simpa using hn0
      by_cases hx : x = 0#32
      case pos =>
        have i2 : (x == 0#32) = true := by simpa using hx
        clear hx
        go_wp2_with fail
        go_ret
        exact ⟨rfl, S0.out⟩
      case neg =>
        have i2 : (x == 0#32) = false := by simpa using hx
        have HX := Lib.hid hx
        have hn1 : 1 ≤ n := by omega
        have hn20 : n ≤ 20000 := by have := HN.out; have := HLE.out; omega
        have HPB := Lib.hid (show (F.pbytes fs).length ≤ 1000000 by rw [pbytes_len]; have := HLE.out; omega)
        clear hx hn0
        go_wp2_with fail
        refine (Pick_any which (n : Int) w0 (by omega) (by omega)).mono ?_
        rintro e w' ⟨rfl, rfl⟩
        obtain ⟨wh, hwh⟩ : ∃ wh : Nat, pick which (n : Int) = (wh : Int) := ⟨(pick which (n : Int)).toNat, by have := pick_lo which (n : Int) (by omega); omega⟩
        have hwn : wh < n := by have := pick_hi which (n : Int) (by omega); omega
        rw [hwh]
        have j0 : (0 : Int) ≤ (wh : Int) := by omega
        have j1 : (wh : Int) < (n : Int) := by omega
        have hkl : wh < fs.length := by rw [HN.out]; exact hwn
        obtain ⟨b, o, hA, D, m, d, hcc, _, hrr, _, _⟩ := HF.out.below S0.out wh hkl
        subst hA
        have cd := hcc 1 _ rfl
        obtain ⟨f, hf⟩ : ∃ f, fs[wh] = f := ⟨_, rfl⟩
        rw [hf] at hrr
        have HFW := Lib.hid hf
        have HM := Lib.hid (show f.data.length = m from hrr.len)
        have hm : m ≤ 20000 := by
          have h1 := dl_mem (List.getElem_mem hkl)
          rw [hf] at h1
          have := HLE.out; have := HM.out; omega
        clear hwh hcc hrr hf i1 i2
        go_wp2_with fail
        refine (own_any _ n c fs w0 (HF.out.below S0.out) HN.out HLE.out).mono ?_
        rintro e w1 ⟨qs, Fa, cF, rfl, hqs, hB⟩
        have HO1 := Lib.hid (own_ones (HF.out.below S0.out) hqs HN.out hB (by have := HLE.out; omega))
        have S1 := Lib.hid (S0.out.trans (hB.since.mono S0.out.size))
        clear hqs hB cd
        go_wp2_with fail
        refine (put_any Fa n cF fs w1 HO1.out HN.out (by have := HPB.out; omega)).mono ?_
        rintro e w2 ⟨A2, N2, c2, rfl, hN2, ho2, hs2⟩
        have S2 := Lib.hid (S1.out.trans (hs2.mono S1.out.size))
        by_cases hpe : F.perr fs = 0
        case neg =>
          have t0 : ((F.perr fs : Int) != 0) = true := by simpa using hpe
          clear hN2 ho2 hs2 hpe
          go_wp2_with fail
          go_ret
          exact ⟨rfl, S2.out⟩
        case pos =>
          by_cases hm4 : m < 4
          case pos =>
            have t1 : (m : Int) < 4 := by omega
            rw [hpe]
            clear hN2 ho2 hs2 hpe
            go_wp2_with fail
            go_ret
            exact ⟨rfl, S2.out⟩
          case neg =>
            have t1 : ¬ (m : Int) < 4 := by omega
            rw [hpe]
            have hpo : pout fs = F.pbytes fs := by unfold pout; rw [if_pos hpe]
            rw [hpo] at hN2 ho2
            have HN2 := Lib.hid hN2; have HPE := Lib.hid hpe
            have hN2' : N2 ≤ 1000000 := by have := HPB.out; omega
            have hN9 : 9 ≤ N2 := by
              have := pbytes_len fs
              have := HN.out; omega
            obtain ⟨g2, rfl⟩ := own_somes' ho2 (by omega)
            have BK2 := Lib.hid (show Bank w1 w2 [rowAcc (some ⟨g2, 0, none⟩) N2 c2 (F.pbytes fs)] from (Bank.nil (Below.refl w1.heap.size w1)).madeB hs2 ho2)
            obtain ⟨r1, r2, _, r4⟩ := row_room ho2
            clear hN2 ho2 hs2 hpe hpo r4
            go_wp2_with fail
            go_loop [12, 13] (fun v12 v13 => ∃ k a : Nat, v13 = .int .i64 (k : Int) ∧ v12 = .int .i64 (a : Int) ∧ k ≤ wh ∧ Hid (a = (F.pbytes (fs.take k)).length) ∧ a ≤ 1000000) (fun _ i => wh - (intOf i).toNat)
            case atStart => exact ⟨0, 0, rfl, rfl, Nat.zero_le _, Lib.hid rfl, Nat.zero_le _⟩
            case round =>
              obtain ⟨k, a, rfl, rfl, hk, HA, ha⟩ := hrel
              have k0 : (0 : Int) ≤ (k : Int) := by omega
              by_cases hlt : k < wh
              · have i1 : (k : Int) < (wh : Int) := by omega
                have i1' : (k : Int) < (n : Int) := by omega
                have hkl : k < fs.length := by rw [HN.out]; omega
                obtain ⟨b', o', hA', D', l, dd, hcc, _, hrr, _, _⟩ := HF.out.below S2.out k hkl
                cases hA'
                have c1 := hcc 1 _ rfl
                have HML := Lib.hid (show fs[k].data.length = l from hrr.len)
                have HD := Lib.hid (show (F.pbytes (fs.take (k + 1))).length = (F.pbytes (fs.take k)).length + (9 + fs[k].data.length) by rw [pbytes_take fs k hkl, List.length_append, F.one_length])
                have hal : a + 9 + l ≤ 1000000 := by
                  have h1 := pbytes_take_le fs (k + 1)
                  have := HPB.out; have := HD.out; have := HML.out; have := HA.out; omega
                clear hcc hrr
                go_wp2_with fail
                go_round
                case rel => exact ⟨k + 1, a + 9 + l, by go_num, by go_num, by omega, Lib.hid (by rw [HD.out, HML.out, HA.out]; omega), hal⟩
                case measure => simp [intOf]; omega
              · have i1 : ¬ (k : Int) < (wh : Int) := by omega
                obtain rfl : k = wh := by omega
                have HP := Lib.hid (pbytes_part fs k hkl)
                rw [HFW.out] at HP
                have HTOT := Lib.hid (show a + (9 + m) ≤ N2 by
                  have h1 := congrArg List.length HP.out
                  simp only [List.length_append, F.five_length, F.be4_length] at h1
                  have := HA.out; have := HM.out; have := HN2.out
                  omega)
                have i3 : ¬ (N2 : Int) < (a : Int) + 9 + (m : Int) := by have := HTOT.out; omega
                have i4 : (0 : Int) ≤ 8 * (m : Int) - 31 := by omega
                go_wp2_with fail
                refine (Pick_any at' (8 * (m : Int) - 31) w2 (by omega) (by omega)).mono ?_
                rintro e w' ⟨rfl, rfl⟩
                obtain ⟨t, ht⟩ : ∃ t : Nat, pick at' (8 * (m : Int) - 31) = (t : Int) := ⟨(pick at' (8 * (m : Int) - 31)).toNat, by have := pick_lo at' (8 * (m : Int) - 31) (by omega); omega⟩
                have htm : t + 32 ≤ 8 * m := by have := pick_hi at' (8 * (m : Int) - 31) (by omega); omega
                rw [ht]
                clear ht i3 i4
                have HPQ := Lib.hid (show (F.pbytes (fs.take k) ++ (F.five f ++ F.be4 (F.fsum (F.five f ++ f.data)))).length = a + 9 by
                  simp only [List.length_append, F.five_length, F.be4_length]; have := HA.out; omega)
                have BK3 := Lib.hid (show Bank w1 w2 [rowAcc (some ⟨g2, 0, none⟩) N2 c2 ((F.pbytes (fs.take k) ++ (F.five f ++ F.be4 (F.fsum (F.five f ++ f.data)))) ++ F.turn f.data t x 0 ++ F.pbytes (fs.drop (k + 1)))] by
                  have h := BK2.out
                  rw [HP.out] at h
                  simpa [F.turn, List.append_assoc] using h)
                clear BK2 S2
                go_wp2_with fail
                go_loopw [14, 15] (fun v14 _ wr => ∃ j : Nat, v14 = .int .i64 (j : Int) ∧ j ≤ 32 ∧ SpB w1 wr g2 N2 c2 (F.pbytes (fs.take k) ++ (F.five f ++ F.be4 (F.fsum (F.five f ++ f.data)))) f.data t x (F.pbytes (fs.drop (k + 1))) j) (fun i _ _ => 32 - (intOf i).toNat)
                case atStart => exact ⟨0, rfl, Nat.zero_le _, BK3.out⟩
                case round =>
                  clear BK3
                  obtain ⟨j, rfl, hj, hB⟩ := hrel
                  have BKj := Lib.hid hB
                  have k0 : (0 : Int) ≤ (j : Int) := by omega
                  clear hB
                  by_cases hlt : j < 32
                  · have i1 : (j : Int) < 32 := by omega
                    have hcv : IntKind.u64.wrap (j : Int) = (j : Int) := by rw [wrap_u64']; omega
                    have hbt := bit_test x j
                    cases hb : x.getLsbD j
                    case false =>
                      rw [hb] at hbt
                      have HSP := Lib.hid (show SpB w1 wr g2 N2 c2 (F.pbytes (fs.take k) ++ (F.five f ++ F.be4 (F.fsum (F.five f ++ f.data)))) f.data t x (F.pbytes (fs.drop (k + 1))) (j + 1) by
                        have h := BKj.out
                        unfold SpB at h ⊢
                        rw [F.turn, hb]
                        exact h)
                      clear hb
                      go_wp2_with fail
                      go_roundw
                      case rel => exact ⟨j + 1, by go_num, by omega, HSP.out⟩
                      case measure => simp [intOf]; omega
                    case true =>
                      rw [hb] at hbt
                      obtain ⟨q, hq⟩ : ∃ q, q = (t + j) / 8 := ⟨_, rfl⟩
                      obtain ⟨r, hr⟩ : ∃ r, r = (t + j) % 8 := ⟨_, rfl⟩
                      have e1 : ((t : Int) + (j : Int)) / 8 = (q : Int) := by omega
                      have e2 : ((t : Int) + (j : Int)) % 8 = (r : Int) := by omega
                      have hqm : q < m := by omega
                      have hr8 : r < 8 := by omega
                      have q0 : (0 : Int) ≤ (q : Int) := by omega
                      have r0 : (0 : Int) ≤ (r : Int) := by omega
                      have r8 : (r : Int) < 8 := by omega
                      have hcr : IntKind.u64.wrap (r : Int) = (r : Int) := by rw [wrap_u64']; omega
                      have hshl : ∀ ty, binOp .shl ty (.int .u8 1) (.int .u64 (r : Int)) = pure (B8 (1#8 <<< r)) := fun ty => by
                        have := B8_shl' ty (1#8) .u64 r
                        exact this
                      have hqt : q < (F.turn f.data t x j).length := by rw [F.turn_length, HM.out]; exact hqm
                      obtain ⟨y, hy⟩ : ∃ y, y = (F.turn f.data t x j).getD q 0 := ⟨_, rfl⟩
                      have hcl : wr.cell? ⟨g2, a + 9 + q, none⟩ = some (B8 y) := by
                        rw [hy]
                        have h := mid_getD (F.pbytes (fs.take k) ++ (F.five f ++ F.be4 (F.fsum (F.five f ++ f.data)))) (F.turn f.data t x j) (F.pbytes (fs.drop (k + 1))) q hqt
                        rw [HPQ.out] at h
                        exact ((BKj.out.at 0 rfl).cellAt (a + 9 + q) (by show _ < N2 * 1; have := HTOT.out; omega)).trans (bv_at h)
                      have hfr : wr.frozen? ⟨g2, a + 9 + q, none⟩ = false := own_free (BKj.out.at 0 rfl) (a + 9 + q)
                      have hin : (a : Int) + 9 + (q : Int) < (N2 : Int) := by have := HTOT.out; omega
                      have HSP := Lib.hid (show SpB w1 (wr.setCell ⟨g2, a + 9 + q, none⟩ (B8 (y ^^^ (1#8 <<< r)))) g2 N2 c2 (F.pbytes (fs.take k) ++ (F.five f ++ F.be4 (F.fsum (F.five f ++ f.data)))) f.data t x (F.pbytes (fs.drop (k + 1))) (j + 1) by
                        have h := BKj.out.rowSet 0 rfl (a + 9 + q) (y ^^^ (1#8 <<< r))
                        unfold SpB
                        rw [F.turn, hb, if_pos rfl, F.flip, ← hq, ← hr, ← hy, ← mid_set _ _ _ _ _ hqt, HPQ.out]
                        exact h)
                      clear hb hq hr hqt hy
                      go_wp2_with (with_reducible refine wpList_store_one rfl 5 (.tmp 110) (.tmp 109) rfl ⟨g2, a + 9 + q, none⟩ (B8 (y ^^^ (1#8 <<< r))) _ rfl rfl rfl (by kernel_rfl) hcl hfr ?_)
                      go_roundw
                      case rel => exact ⟨j + 1, by go_num, by omega, HSP.out⟩
                      case measure => simp [intOf]; omega
                  · have i1 : ¬ (j : Int) < 32 := by omega
                    obtain rfl : j = 32 := by omega
                    obtain ⟨qs, hqs, hQP⟩ := onesP_of (HF.out.below (S1.out.trans (BKj.out.since.mono S1.out.size)))
                    have HQP := Lib.hid hQP; have HQS := Lib.hid hqs
                    have HSC := Lib.hid (show F.scan (F.pbytes (fs.take k) ++ (F.five f ++ F.be4 (F.fsum (F.five f ++ f.data))) ++ F.turn f.data t x 32 ++ F.pbytes (fs.drop (k + 1))) = (fs.take k, a, true) by
                      have h := F.scan_spoilt (fs.take k) ((F.perr_zero _).2 fun y hy => (F.perr_zero _).1 HPE.out y (List.mem_of_mem_take hy)) f ((F.perr_zero _).1 HPE.out f (by rw [← HFW.out]; exact List.getElem_mem _)) (F.turn f.data t x 32) (F.turn_length _ _ _ _) (F.fsum_turn (F.five f) f.data t x (by rw [HM.out]; exact htm) HX.out) (F.pbytes (fs.drop (k + 1)))
                      rw [← HA.out] at h
                      simpa [List.append_assoc] using h)
                    have hlen := (RowRd.of_row (BKj.out.at 0 rfl)).len
                    have HL := Lib.hid (show (F.pbytes (fs.take k) ++ (F.five f ++ F.be4 (F.fsum (F.five f ++ f.data))) ++ F.turn f.data t x 32 ++ F.pbytes (fs.drop (k + 1))).length = N2 from hlen)
                    clear hqs hQP hlen i1
                    go_wp2_with fail
                    refine (scan_any (some ⟨g2, 0, none⟩) N2 c2 _ wr (RowRd.of_row (BKj.out.at 0 rfl)) r1 r2 (by rw [HL.out]; omega) (fun y e => by cases e; exact (row_lt (BKj.out.at 0 rfl)).2)).mono ?_
                    rintro e w4 ⟨ps4, Fb4, cb4, u4, s4, rfl, hsc, hu, hps, hBk⟩
                    rw [HSC.out] at hsc
                    simp only [Prod.mk.injEq] at hsc
                    obtain ⟨h1', h2', rfl⟩ := hsc
                    obtain rfl : a = u4 := h2'
                    have hpz : F.perr (ps4.map FR.fr) = 0 := by rw [← h1']; exact (F.perr_zero _).2 fun f hf => (F.perr_zero _).1 HPE.out f (List.mem_of_mem_take hf)
                    have HOP4 := Lib.hid (scan_onesP hBk hpz)
                    have HE4 := Lib.hid (show ps4.map FR.fr = (qs.take k).map FR.fr by rw [← h1', List.map_take, HQS.out])
                    have HPL4 := Lib.hid (perr_len hpz)
                    have HPN4 := Lib.hid (show ps4.length = k by rw [← List.length_map (f := FR.fr), ← h1', List.length_take]; have := HN.out; omega)
                    have S4 := Lib.hid ((S1.out.trans (BKj.out.since.mono S1.out.size)).trans (hBk.since.mono (S1.out.trans (BKj.out.since.mono S1.out.size)).size)); have HS24 := Lib.hid hBk.since
                    rw [HPN4.out]
                    have z3 : (k : Int) ≤ (c : Int) := by omega
                    have z4 : k ≤ c := by omega
                    clear hu hps hBk h1' hpz
                    go_wp2_with fail
                    refine (same_any Fb4 _ k cb4 c ps4 (qs.take k) w4 HOP4.out ((onesP_take' HQP.out k).below HS24.out) HPN4.out (by omega) HE4.out HPL4.out).mono ?_
                    rintro e w5 ⟨rfl, hs5⟩
                    have S5 := Lib.hid (S4.out.trans (hs5.mono S4.out.size))
                    clear hs5
                    go_wp2_with fail
                    go_ret
                    exact ⟨rfl, S5.out⟩
end Go.Proofs.Ytfpjmeknjhhakaa.K
