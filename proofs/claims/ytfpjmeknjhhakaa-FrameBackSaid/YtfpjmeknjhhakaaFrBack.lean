/- The contract of the law FrameBack. -/
import Derived.Test.YtfpjmeknjhhakaaFrSame
import Derived.Test.YtfpjmeknjhhakaaFrPutsF
namespace Go.Proofs.Ytfpjmeknjhhakaa.K
open Go Go.RowKit

theorem cut_row {w : World} {B : Option Addr} {m d : Nat} {bs : List (BitVec 8)} (h : RowRd w ⟨B, m, d⟩ bs) (u : Nat) (hu : u ≤ m) : RowRd w ⟨B, u, d⟩ (bs.take u) := by
  have hl : bs.length = m := h.len
  refine ⟨fun k hk => ?_, by rw [List.length_take]; show min u bs.length = u; omega, h.none⟩
  have hk2 : k < bs.length := by rw [List.length_take] at hk; omega
  obtain ⟨b, o, e, hc⟩ := h.rd k hk2
  exact ⟨b, o, e, by rw [hc, List.getElem_take]⟩
theorem onesP_take {w : World} {A : Option Addr} {ps : List FR} (h : OnesP w A ps) (k : Nat) : OnesP w A (ps.take k) := fun i hi => by
  have hi2 : i < ps.length := by rw [List.length_take] at hi; omega
  have := h i hi2
  rw [List.getElem_take]
  exact this
set_option maxHeartbeats 16000000 in
set_option maxRecDepth 100000 in
theorem fback_any (A : Option Addr) (n c : Nat) (fs : List F.Fr) (cut : Int) (B : Option Addr) (m d : Nat) (bs : List (BitVec 8)) (w : World) (hfs : Ones w A fs) (hn : fs.length = n) (hnc : n ≤ c) (hc : c ≤ 9223372036854775807) (hw : ∀ f ∈ fs, f.data.length ≤ 140737488351232)
    (hr : RowRd w ⟨B, m, d⟩ bs) (hmd : m ≤ d) (hd : d ≤ 9223372036854775807) (hB : ∀ a, B = some a → a.block < w.heap.size) :
    Calls Try.prog 6 #[.slice A n c, .int .i64 cut, .slice B m d] w (Says w) := by
  have HF := Lib.hid hfs; have HN := Lib.hid hn; have HW := Lib.hid hw; have HBR := Lib.hid hr; have HBL := Lib.hid (show bs.length = m from hr.len); have HLB := Lib.hid hB
  clear hfs hn hw hr hB
  go_enter Try.func6, Try.ntmps6
  go_wp2_with fail
  refine (awake_any w).mono ?_
  rintro e w0 ⟨rfl, hs0⟩
  have S0 := Lib.hid hs0
  clear hs0
  go_wp2_with fail
  refine (great_any A n c fs w0 (HF.out.below S0.out) HN.out hnc hc HW.out).mono ?_
  rintro e w1 ⟨b, rfl, hle, rfl⟩
  cases b
  case true =>
    clear hle
    go_wp2_with fail
    go_ret
    exact ⟨rfl, S0.out⟩
  case false =>
    have HLE := Lib.hid (hle rfl)
    clear hle
    by_cases hm : m ≤ 20000
    case neg =>
      have i2 : (20000 : Int) < (m : Int) := by omega
      go_wp2_with fail
      go_ret
      exact ⟨rfl, S0.out⟩
    case pos =>
      have i2 : ¬ (20000 : Int) < (m : Int) := by omega
      have hn20 : n ≤ 20000 := by have := HN.out; have := HLE.out; omega
      have HPB := Lib.hid (show (F.pbytes fs).length ≤ 1000000 by rw [pbytes_len]; have := HLE.out; omega)
      go_wp2_with fail
      refine (own_any A n c fs w0 (HF.out.below S0.out) HN.out HLE.out).mono ?_
      rintro e w1 ⟨qs, Fa, cF, rfl, hqs, hB⟩
      have HO1 := Lib.hid (own_ones (HF.out.below S0.out) hqs HN.out hB (by have := HLE.out; omega))
      have S1 := Lib.hid (S0.out.trans (hB.since.mono S0.out.size))
      clear hqs hB i2
      go_wp2_with fail
      refine (put_any Fa n cF fs w1 HO1.out HN.out (by have := HPB.out; omega)).mono ?_
      rintro e wT ⟨A2, N2, c2, rfl, hN2, ho2, hs2⟩
      have ST := Lib.hid (S1.out.trans (hs2.mono S1.out.size))
      by_cases hpe : F.perr fs = 0
      case neg =>
        have t0 : ((F.perr fs : Int) == 0) = false := by simpa using hpe
        clear hN2 ho2 hs2 hpe
        go_wp2_with fail
        refine (scan_any B m d bs wT (Since.row ST.out HBR.out) hmd hd (by rw [HBL.out]; omega) (fun a e => Nat.lt_of_lt_of_le (HLB.out a e) ST.out.size)).mono ?_
        rintro e wa ⟨ps, Fb, cb, u, s, rfl, hsc, hu, hps, hBk⟩
        obtain ⟨b1, b2, b3⟩ := F.scan_back bs.length bs (Nat.le_refl _)
        rw [hsc] at b1 b2 b3
        have HPZ := Lib.hid (show F.perr (ps.map FR.fr) = 0 from b1); have HPT := Lib.hid (show F.pbytes (ps.map FR.fr) = bs.take u from b2)
        have HOP := Lib.hid (ones_of (scan_onesP hBk b1))
        have hum : u ≤ m := by have := HBL.out; omega
        have SA := Lib.hid (ST.out.trans (hBk.since.mono ST.out.size))
        clear hsc hu hps hBk b1 b2 b3
        go_wp2_with fail
        refine (put_any Fb ps.length cb (ps.map FR.fr) wa HOP.out (by rw [List.length_map]) (by rw [HPT.out, List.length_take]; omega)).mono ?_
        rintro e wb ⟨A2, N2, c2, rfl, hN2, ho2, hs2⟩
        rw [HPZ.out]
        have hpo : pout (ps.map FR.fr) = bs.take u := by unfold pout; rw [if_pos HPZ.out, HPT.out]
        rw [hpo] at hN2 ho2
        have HR2 := Lib.hid (RowRd.of_row ho2)
        have SB := Lib.hid (SA.out.trans (hs2.mono SA.out.size))
        have hN2' : N2 ≤ 20000 := by rw [hN2, List.length_take]; omega
        have HCB := Lib.hid (cut_row (Since.row SB.out HBR.out) u hum)
        have u0 : (0 : Int) ≤ (u : Int) := by omega
        have u1 : (u : Int) ≤ (m : Int) := by omega
        have u2 : (u : Int) ≤ (d : Int) := by omega
        have u3 : u ≤ d := by omega
        clear hpo hN2 ho2 hs2
        go_wp2_with fail
        refine (same_made HR2.out HCB.out (by omega) (Below.refl _ _)).mono ?_
        rintro e wc ⟨rfl, hsC⟩
        have SC := Lib.hid (SB.out.trans (hsC.mono SB.out.size))
        clear hsC
        go_wp2_with fail
        go_ret
        exact ⟨rfl, SC.out⟩
      case pos =>
        rw [hpe]
        have hpo : pout fs = F.pbytes fs := by unfold pout; rw [if_pos hpe]
        rw [hpo] at hN2 ho2
        have HN2 := Lib.hid hN2; have HPE := Lib.hid hpe
        have HR2 := Lib.hid (RowRd.of_row ho2)
        obtain ⟨r1, r2, _, r4⟩ := row_room ho2
        have HL2 := Lib.hid (show ∀ a, A2 = some a → a.block < wT.heap.size from fun a e => by obtain ⟨g, rfl, _, h⟩ := r4 a e; exact h)
        have hN2' : N2 ≤ 1000000 := by have := HPB.out; omega
        clear hN2 ho2 hs2 hpe hpo r4
        go_wp2_with fail
        refine (scan_any A2 N2 c2 (F.pbytes fs) wT HR2.out r1 r2 (by have := HPB.out; omega) HL2.out).mono ?_
        rintro e w2 ⟨ps, Fb, cb, u, s, rfl, hsc, hu, hps, hBk⟩
        have hput := F.scan_put fs HPE.out []
        rw [List.append_nil, hsc, F.scan_nil] at hput
        simp only [List.append_nil, Nat.add_zero, Prod.mk.injEq] at hput
        obtain ⟨h1, h2, rfl⟩ := hput
        obtain rfl : u = N2 := by rw [h2, HN2.out]
        obtain ⟨qs, hqs, hQP⟩ := onesP_of (HF.out.below (ST.out.trans (hBk.since.mono ST.out.size)))
        have hpz : F.perr (ps.map FR.fr) = 0 := by rw [h1]; exact HPE.out
        have HOP := Lib.hid (scan_onesP hBk hpz)
        have HE1 := Lib.hid (show ps.map FR.fr = qs.map FR.fr from h1.trans hqs.symm)
        have HPL := Lib.hid (perr_len hpz)
        have HPN := Lib.hid (show ps.length = n by rw [← List.length_map (f := FR.fr), h1]; exact HN.out)
        have HQP := Lib.hid hQP; have HQS := Lib.hid hqs
        have S2 := Lib.hid (ST.out.trans (hBk.since.mono ST.out.size)); have HS2 := Lib.hid hBk.since
        rw [HPN.out]
        clear hsc hu hps hBk h1 h2 hqs hQP hpz
        go_wp2_with fail
        refine (same_any Fb A n cb c ps qs w2 HOP.out HQP.out HPN.out (by omega) HE1.out HPL.out).mono ?_
        rintro e w3 ⟨rfl, hs3⟩
        have S3 := Lib.hid (S2.out.trans (hs3.mono S2.out.size)); have HS3 := Lib.hid (Since.add HS2.out hs3); have HS23 := Lib.hid hs3
        clear hs3 HS2
        go_wp2_with fail
        refine (Pick_any cut ((u : Int) + 1) w3 (by omega) (by omega)).mono ?_
        rintro e w' ⟨rfl, rfl⟩
        obtain ⟨ct, hct⟩ : ∃ ct : Nat, pick cut ((u : Int) + 1) = (ct : Int) := ⟨(pick cut ((u : Int) + 1)).toNat, by have := pick_lo cut ((u : Int) + 1) (by omega); omega⟩
        have hcu : ct ≤ u := by have := pick_hi cut ((u : Int) + 1) (by omega); omega
        rw [hct]
        clear hct
        go_wp2_with fail
        go_loop [12, 13] (fun v12 v13 => ∃ k a : Nat, v12 = .int .i64 (k : Int) ∧ v13 = .int .i64 (a : Int) ∧ k ≤ n ∧ Hid (a = (F.pbytes (fs.take k)).length) ∧ a ≤ ct) (fun i _ => n - (intOf i).toNat)
        case atStart => exact ⟨0, 0, rfl, rfl, Nat.zero_le _, Lib.hid rfl, Nat.zero_le _⟩
        case round =>
          obtain ⟨k, a, rfl, rfl, hk, HA, ha⟩ := hrel
          have k0 : (0 : Int) ≤ (k : Int) := by omega
          by_cases hgo : ∃ hkl : k < fs.length, a + 9 + fs[k].data.length ≤ ct
          · obtain ⟨hkl, hle⟩ := hgo
            have i1 : (k : Int) < (n : Int) := by have := HN.out; omega
            obtain ⟨b, o, hA, D, l, dd, hcc, _, hrr, _, _⟩ := HF.out.below S3.out k hkl
            subst hA
            have c1 := hcc 1 _ rfl
            have HM := Lib.hid (show fs[k].data.length = l from hrr.len)
            have hl : a + 9 + l ≤ ct := by have := HM.out; omega
            have i2 : (a : Int) + 9 + (l : Int) ≤ (ct : Int) := by omega
            have HD := Lib.hid (show (F.pbytes (fs.take (k + 1))).length = (F.pbytes (fs.take k)).length + (9 + fs[k].data.length) by rw [pbytes_take fs k hkl, List.length_append, F.one_length])
            clear hcc hrr hle
            go_wp2_with fail
            go_round
            case rel => exact ⟨k + 1, a + 9 + l, by go_num, by go_num, by omega, Lib.hid (by rw [HD.out, HM.out, HA.out]; omega), hl⟩
            case measure => simp [intOf]; omega
          · have HCUT := Lib.hid (F.scan_cut fs HPE.out ct k (by have := HN.out; omega) (by rw [← HA.out]; exact ha) (fun hl => by
              refine Classical.byContradiction fun hcc => hgo ⟨hl, ?_⟩
              rw [HA.out]; omega))
            have HCR := Lib.hid (show RowRd w3 ⟨A2, ct, c2⟩ ((F.pbytes fs).take ct) from cut_row (HS3.out.row HR2.out) ct hcu)
            have z1 : (ct : Int) ≤ (c2 : Int) := by omega
            have z2 : ct ≤ c2 := by omega
            have z3 : (k : Int) ≤ (c : Int) := by omega
            have z4 : k ≤ c := by omega
            have hway : (¬ (k : Int) < (n : Int)) ∨ ∃ b o D l dd, A = some ⟨b, o, none⟩ ∧ (k : Int) < (n : Int) ∧ w3.cell? ⟨b, o + k * 2 + 1, none⟩ = some (.slice D l dd) ∧ l ≤ 140737488351232 ∧ ¬ (a : Int) + 9 + (l : Int) ≤ (ct : Int) := by
              by_cases hkn : k < n
              · have hkl : k < fs.length := by rw [HN.out]; exact hkn
                obtain ⟨b, o, hA, D, l, dd, hcc, _, hrr, _, _⟩ := HF.out.below S3.out k hkl
                have h1 : fs[k].data.length = l := hrr.len
                have h2 := HW.out fs[k] (List.getElem_mem _)
                exact .inr ⟨b, o, D, l, dd, hA, by omega, hcc 1 _ rfl, by omega, fun h => hgo ⟨hkl, by omega⟩⟩
              · exact .inl (by omega)
            rcases hway with i1 | ⟨b, o, D, l, dd, rfl, i1, c1, hlb, i2⟩
            all_goals
              clear hgo
              go_wp2_with fail
              refine (scan_any A2 ct c2 ((F.pbytes fs).take ct) w3 HCR.out (by omega) r2 (by rw [List.length_take]; omega) (fun x e => Nat.lt_of_lt_of_le (HL2.out x e) HS3.out.size)).mono ?_
              rintro e w4 ⟨ps4, Fb4, cb4, u4, s4, rfl, hsc, hu, hps, hBk⟩
              rw [HCUT.out] at hsc
              simp only [Prod.mk.injEq] at hsc
              obtain ⟨h1, h2, rfl⟩ := hsc
              obtain rfl : u4 = a := by rw [← h2, HA.out]
              have hpz : F.perr (ps4.map FR.fr) = 0 := by rw [← h1]; exact (F.perr_zero _).2 fun f hf => (F.perr_zero _).1 HPE.out f (List.mem_of_mem_take hf)
              have HOP4 := Lib.hid (scan_onesP hBk hpz)
              have HE4 := Lib.hid (show ps4.map FR.fr = (qs.take k).map FR.fr by rw [← h1, List.map_take, HQS.out])
              have HPL4 := Lib.hid (perr_len hpz)
              have HPN4 := Lib.hid (show ps4.length = k by rw [← List.length_map (f := FR.fr), ← h1, List.length_take]; have := HN.out; omega)
              have S4 := Lib.hid (S3.out.trans (hBk.since.mono S3.out.size)); have HS24 := Lib.hid (Since.add HS23.out hBk.since)
              rw [HPN4.out]
              clear hu hps hBk h1 h2 hpz
              go_wp2_with fail
              refine (same_any Fb4 _ k cb4 c ps4 (qs.take k) w4 HOP4.out ((onesP_take HQP.out k).below HS24.out) HPN4.out (by omega) HE4.out HPL4.out).mono ?_
              rintro e w5 ⟨rfl, hs5⟩
              have S5 := Lib.hid (S4.out.trans (hs5.mono S4.out.size))
              clear hs5
              clear ST
              have ST := S5
              clear S5
              generalize hwT : w5 = wT' at *
              clear hwT
              clear HR2 HL2 HOP HOP4 HE4 HPL4 HPN4 HS24 S4 HCR HCUT HQP HQS HE1 HPL HPN S2 S3 HS3 HS23
              obtain ⟨wT, rfl⟩ : ∃ wT : World, wT = wT' := ⟨_, rfl⟩
              go_wp2_with fail
              refine (scan_any B m d bs wT (Since.row ST.out HBR.out) hmd hd (by rw [HBL.out]; omega) (fun a e => Nat.lt_of_lt_of_le (HLB.out a e) ST.out.size)).mono ?_
              rintro e wa ⟨ps, Fb, cb, u, s, rfl, hsc, hu, hps, hBk⟩
              obtain ⟨b1, b2, b3⟩ := F.scan_back bs.length bs (Nat.le_refl _)
              rw [hsc] at b1 b2 b3
              have HPZ := Lib.hid (show F.perr (ps.map FR.fr) = 0 from b1); have HPT := Lib.hid (show F.pbytes (ps.map FR.fr) = bs.take u from b2)
              have HOP := Lib.hid (ones_of (scan_onesP hBk b1))
              have hum : u ≤ m := by have := HBL.out; omega
              have SA := Lib.hid (ST.out.trans (hBk.since.mono ST.out.size))
              clear hsc hu hps hBk b1 b2 b3
              go_wp2_with fail
              refine (put_any Fb ps.length cb (ps.map FR.fr) wa HOP.out (by rw [List.length_map]) (by rw [HPT.out, List.length_take]; omega)).mono ?_
              rintro e wb ⟨A2, N2, c2, rfl, hN2, ho2, hs2⟩
              rw [HPZ.out]
              have hpo : pout (ps.map FR.fr) = bs.take u := by unfold pout; rw [if_pos HPZ.out, HPT.out]
              rw [hpo] at hN2 ho2
              have HR2 := Lib.hid (RowRd.of_row ho2)
              have SB := Lib.hid (SA.out.trans (hs2.mono SA.out.size))
              have hN2' : N2 ≤ 20000 := by rw [hN2, List.length_take]; omega
              have HCB := Lib.hid (cut_row (Since.row SB.out HBR.out) u hum)
              have u0 : (0 : Int) ≤ (u : Int) := by omega
              have u1 : (u : Int) ≤ (m : Int) := by omega
              have u2 : (u : Int) ≤ (d : Int) := by omega
              have u3 : u ≤ d := by omega
              clear hpo hN2 ho2 hs2
              go_wp2_with fail
              refine (same_made HR2.out HCB.out (by omega) (Below.refl _ _)).mono ?_
              rintro e wc ⟨rfl, hsC⟩
              have SC := Lib.hid (SB.out.trans (hsC.mono SB.out.size))
              clear hsC
              go_wp2_with fail
              go_ret
              exact ⟨rfl, SC.out⟩
end Go.Proofs.Ytfpjmeknjhhakaa.K
