/- The contract of frame's scan.next. -/
import Derived.Test.YtfpjmeknjhhakaaFrNextS
import Derived.StillTailTactics
namespace Go.Proofs.Ytfpjmeknjhhakaa.K
open Go Go.RowKit

set_option maxHeartbeats 4000000 in
set_option maxRecDepth 100000 in
theorem next_any (S : Nat) (A : Option Addr) (n c u : Nat) (l : List (BitVec 8)) (w : World) (hS : ScanAt w S A n c u false) (hr : RowRd w ⟨A, n, c⟩ l) (hn : n ≤ c) (hc : c ≤ 9223372036854775807) (hu : u + n ≤ 100000000000000) (hne : ∀ a, A = some a → a.block ≠ S) :
    Calls Try.prog 105 #[.pointer (some ⟨S, 0, none⟩)] w (NextPost w S A n c u l) := by
  have hlen : l.length = n := hr.len
  have hSl := hS.lt
  have BK0 := Lib.hid (show Bank w (w.alloc (.cells #[.int .i64 0, .slice none 0 0] 36)) [boxAcc w.heap.size 36 [.int .i64 0, .slice none 0 0]] from (Bank.nil (Below.refl w.heap.size w)).box _ _ (by simp))
  have S0 := Lib.hid (hS.since BK0.out.since); have R0 := Lib.hid (hr.below BK0.out.since)
  have HNE := Lib.hid hne; have HLEN := Lib.hid hlen
  have HS := Lib.hid hS; have HR := Lib.hid hr
  clear hS hr hne hlen
  go_enter Try.func105, Try.ntmps105
  go_upto_region 1 with fail
  change Code.wp _ _ _ _ (w.alloc (.cells #[.int .i64 0, .slice none 0 0] 36))
  generalize w.alloc (.cells #[.int .i64 0, .slice none 0 0] 36) = w0 at *
  obtain ⟨s0, s1, s2⟩ := S0.out.cells
  obtain ⟨z0, z1, z2⟩ := S0.out.free
  have x0 := BK0.out.cell 0 rfl 0 rfl
  have x1 := BK0.out.cell 0 rfl 1 rfl
  have y0 := BK0.out.free 0 rfl 0
  have y1 := BK0.out.free 0 rfl 1
  by_cases h9 : n < 9
  · have i9 : (n : Int) < 9 := by omega
    have HFI := Lib.hid (show F.first l = (none, false) by unfold F.first; rw [if_pos (by rw [HLEN.out]; exact h9)])
    have BK1 := Lib.hid ((BK0.out.boxSet 0 rfl 0 (.int .i64 0)).boxSet 0 rfl 1 (.slice none 0 0))
    clear s0 s1 s2 z0 z1 z2
    obtain ⟨s0, s1, s2⟩ := S0.out.cells
    go_wp2_with fail
    have rx0 := BK1.out.cell 0 rfl 0 rfl
    have rx1 := BK1.out.cell 0 rfl 1 rfl
    refine bodyPost_ret (v := .tuple #[.agg #[.int .i64 0, .slice none 0 0], .bool false]) (by simp [results, Try.results105, go_sem, rx0, rx1]) rfl ?_
    exact .inl ⟨false, 0, none, 0, 0, HFI.out, rfl, HS.out.since BK1.out.since, grown_since (World.grownBy.refl _ _) BK1.out.since⟩
  · have i9 : ¬ (n : Int) < 9 := by omega
    obtain ⟨b, o, hA, _⟩ := HR.out.rd 0 (by rw [HLEN.out]; omega)
    have hA' : A = some ⟨b, o, none⟩ := hA
    clear hA
    subst hA'
    have hbS : b ≠ S := HNE.out _ rfl
    have HNB := Lib.hid hbS
    have n9 := Lib.hid (show ¬ l.length < 9 by rw [HLEN.out]; exact h9)
    have HV := Lib.hid (show ∃ v, v = F.num4 (l.drop 1) from ⟨_, rfl⟩)
    go_wp2_with fail
    refine (number_any S 1 b o n c l w0 s0 R0.out (by omega) hn hc).mono ?_
    rintro e w0' ⟨rfl, rfl⟩
    clear HV
    obtain ⟨v, hv⟩ : ∃ v, v = F.num4 (l.drop 1) := ⟨_, rfl⟩
    rw [← hv]
    have HV := Lib.hid hv
    clear hv
    have hg : ∀ t, binOp .gtr t (W32 v) (.int .u32 262144) = pure (.bool (decide (262144 < v.toNat))) := fun t => W32_gtr_lit t v 262144 (by omega)
    have hcv := fun w => conv_W32_int (P := Try.prog) w 40 3 v Try.underlying40 Try.underlying3
    by_cases h2 : 262144 < v.toNat
    · have d2 : decide (262144 < v.toNat) = true := by simpa using h2
      have HFI := Lib.hid (first_big l n9.out (by rw [← HV.out]; exact h2))
      have BK1 := Lib.hid (BK0.out.storeOld hSl 2 (.bool true)); have HSS := Lib.hid (HS.out.spoil true)
      have S1 := Lib.hid (HSS.out.since BK1.out.since)
      go_upto_region 5 with fail
      generalize w0.setCell ⟨S, 2, none⟩ (.bool true) = w1 at *
      clear s0 s1 s2 z0 z1 z2 x0 x1 y0 y1 hg d2 h2 S0 BK0 R0
      obtain ⟨s0, s1, s2⟩ := S1.out.cells
      have x0 := BK1.out.cell 0 rfl 0 rfl
      have x1 := BK1.out.cell 0 rfl 1 rfl
      have y0 := BK1.out.free 0 rfl 0
      have y1 := BK1.out.free 0 rfl 1
      have BK2 := Lib.hid ((BK1.out.boxSet 0 rfl 0 (.int .i64 0)).boxSet 0 rfl 1 (.slice none 0 0))
      go_wp2_with fail
      have rx0 := BK2.out.cell 0 rfl 0 rfl
      have rx1 := BK2.out.cell 0 rfl 1 rfl
      refine bodyPost_ret (v := .tuple #[.agg #[.int .i64 0, .slice none 0 0], .bool false]) (by simp [results, Try.results105, go_sem, rx0, rx1]) rfl ?_
      exact .inl ⟨true, 0, none, 0, 0, HFI.out, rfl, HSS.out.since BK2.out.since, grown_since (grownBy_setCell _ _ _ _) BK2.out.since⟩
    · have d2 : decide (262144 < v.toNat) = false := by simpa using h2
      have BK1 := Lib.hid (BK0.out.storeOld hSl 2 (.bool false)); have HSS := Lib.hid (HS.out.spoil false)
      have S1 := Lib.hid (HSS.out.since BK1.out.since)
      have RS := Lib.hid (HR.out.grown (grownBy_setCell w S 2 (.bool false)) (fun a e => by cases e; simpa using fun e => HNB.out e.symm))
      have HGS := Lib.hid (grownBy_setCell w S 2 (.bool false))
      have hSl2 : S < (w.setCell ⟨S, 2, none⟩ (.bool false)).heap.size := by simpa using hSl
      have hwz : (w.setCell ⟨S, 2, none⟩ (.bool false)).heap.size = w.heap.size := by simp
      have HWZ := Lib.hid hwz
      clear hwz
      go_upto_region 5 with fail
      generalize w0.setCell ⟨S, 2, none⟩ (.bool false) = w1 at *
      generalize w.setCell ⟨S, 2, none⟩ (.bool false) = wS at *
      clear s0 s1 s2 z0 z1 z2 x0 x1 y0 y1 hg d2 S0 BK0 R0
      obtain ⟨s0, s1, s2⟩ := S1.out.cells
      have x0 := BK1.out.cell 0 rfl 0 rfl
      have x1 := BK1.out.cell 0 rfl 1 rfl
      have y0 := BK1.out.free 0 rfl 0
      have y1 := BK1.out.free 0 rfl 1
      have hv5 : (v.toNat : Int) ≤ 262144 := by omega
      have hv0 : (0 : Int) ≤ (v.toNat : Int) := by omega
      by_cases h3 : n < 9 + v.toNat
      · have i3 : (n : Int) < 9 + (v.toNat : Int) := by omega
        have HFI := Lib.hid (first_short l n9.out (by rw [← HV.out]; exact h2) (by rw [← HV.out, HLEN.out]; exact h3))
        have BK2 := Lib.hid ((BK1.out.boxSet 0 rfl 0 (.int .i64 0)).boxSet 0 rfl 1 (.slice none 0 0))
        go_wp2_with fail
        have rx0 := BK2.out.cell 0 rfl 0 rfl
        have rx1 := BK2.out.cell 0 rfl 1 rfl
        refine bodyPost_ret (v := .tuple #[.agg #[.int .i64 0, .slice none 0 0], .bool false]) (by simp [results, Try.results105, go_sem, rx0, rx1]) rfl ?_
        exact .inl ⟨false, 0, none, 0, 0, HFI.out, rfl, HSS.out.since BK2.out.since, grown_since HGS.out BK2.out.since⟩
      · have i3 : ¬ (n : Int) < 9 + (v.toNat : Int) := by omega
        obtain ⟨N, hN⟩ : ∃ N, N = v.toNat := ⟨_, rfl⟩
        rw [← hN] at i3 h3 hv5 hv0 h2 hcv
        have HN := Lib.hid hN
        have hb0 := (RS.out.rd 0 (by rw [HLEN.out]; omega))
        have hb0' : wS.cell? ⟨b, o, none⟩ = some (B8 (l.getD 0 0)) := by
          obtain ⟨b', o', e, hcx⟩ := hb0
          obtain ⟨rfl, rfl⟩ : b = b' ∧ o = o' := by simpa using e
          rw [show b = b from rfl, ← Nat.add_zero o, hcx]
          simp [show 0 < l.length by rw [HLEN.out]; omega]
        have K10 : ∀ w', Since wS w' → w'.cell? ⟨S, 0, none⟩ = some (.slice (some ⟨b, o, none⟩) n c) ∧ w'.cell? ⟨b, o, none⟩ = some (B8 (l.getD 0 0)) := fun w' h => ⟨(HSS.out.since h).cells.1, (h.cell (p := ⟨b, o, none⟩) (block_lt_of_cell hb0')).trans hb0'⟩
        have K10H := Lib.hid K10
        have RD9 := Lib.hid (show ∀ A9, A9 = (if c = 9 then some (⟨b, o, none⟩ : Addr) else some ⟨b, o + 9, none⟩) → RowRd wS ⟨A9, N, c - 9⟩ ((l.drop 9).take N) from fun A9 e => by
          by_cases h : c = 9
          · rw [if_pos h] at e
            subst e
            have hN0 : N = 0 := by omega
            subst hN0
            exact ⟨by rw [List.take_zero]; exact Rd.of_nil _ _, rfl, fun h => by cases h⟩
          · rw [if_neg h] at e
            subst e
            exact rowRd_cut RS.out 9 N _ (by omega))
        clear hb0 hb0' K10
        have hcv2 := fun w x => conv_B8_num (P := Try.prog) w 5 3 x Try.underlying5 Try.underlying3
        go_upto_region 10 with fail
        rw [← hN]
        clear hN
        go_cut [5] (fun s5 wx => s5 = .int .i64 (9 + (N : Int)) ∧ ∃ D d, Bank wS wx [rowAcc D N d ((l.drop 9).take N), boxAcc w.heap.size 36 [.int .i64 ((l.getD 0 0).toNat : Int), .slice D N d]])
        case first =>
          have hB := BK1.out
          have hsl := K10H.out _ hB.since.drew
          have hsl2 := K10H.out _ (hB.since.alloc (.cells #[] 5)).drew
          have t0 : (0 : Int) < (n : Int) := by omega
          have t1 : (9 : Int) ≤ 9 + (N : Int) := by omega
          have t2 : 9 + (N : Int) ≤ (c : Int) := by omega
          have t3 : (9 + (N : Int)).toNat = 9 + N := by omega
          have t4 : 9 + N - 9 = N := by omega
          have t5 : (0 : Int) ≤ 9 + (N : Int) := by omega
          have t6 : 0 < n := by omega
          have t7 : IntKind.i64.wrap (9 + (N : Int)) = 9 + (N : Int) := IntWalk.i64_in _ (by omega)
          generalize l.getD 0 0 = y at *
          by_cases hc9 : c = 9
          · have r9 := RD9.out (some ⟨b, o, none⟩) (by rw [if_pos hc9])
            have hn9 : n = 9 := by omega
            have hN0 : N = 0 := by omega
            subst hc9 hn9 hN0
            rw [show (9 : Int) + ((0 : Nat) : Int) = 9 from rfl]
            clear t0 t1 t2 t3 t4 t5 t6 t7 i3 hv5 hv0
            go_region_held3 (fun w' => w'.cell? ⟨S, 0, none⟩ = some (.slice (some ⟨b, o, none⟩) 9 9) ∧ w'.cell? ⟨b, o, none⟩ = some (B8 y))
              (first
                | with_reducible exact hsl
                | with_reducible exact hsl2
                | with_reducible exact K10H.out _ hB.since
                | with_reducible exact K10H.out _ (Bank.boxSet (Bank.boxSet hB 1 rfl 0 _) 1 rfl 1 _).since
                | fail "keep")
              (first
                | (((with_reducible refine step_bank (Bank.drew (Bank.lit0 hB _)) ?_); intro hB); refine step_append_bytes hB rfl _ _ 27 rfl 5 infoByte Try.underlying27 0 _ _ _ [] rfl rfl _ _ _ _ rfl (Since.row hB.since r9) (by omega) ?_; intro A4 n4 c4 w4 hn4 hB; have hn4' := Lib.hid hn4; clear hn4; dsimp only [List.set] at hB; rw [List.nil_append] at hB; have x0 := hB.cell 1 rfl 0 rfl; have x1 := hB.cell 1 rfl 1 rfl; have y0 := hB.free 1 rfl 0; have y1 := hB.free 1 rfl 1)
                | fail "arm")
            all_goals
              have HFIN := Lib.hid (Bank.boxSet (Bank.boxSet hB 1 rfl 0 (.int .i64 (y.toNat : Int))) 1 rfl 1 (.slice A4 n4 c4))
              have hn4 := hn4'.out
              rw [Nat.zero_add] at hn4
              subst hn4
              clear hB x0 x1 y0 y1 hsl hsl2 hn4'
              go_wp2_with fail
              go_meet
              exact ⟨rfl, A4, c4, HFIN.out⟩
          · have r9 := RD9.out (some ⟨b, o + 9, none⟩) (by rw [if_neg hc9])
            go_region_held3 (fun w' => w'.cell? ⟨S, 0, none⟩ = some (.slice (some ⟨b, o, none⟩) n c) ∧ w'.cell? ⟨b, o, none⟩ = some (B8 y))
              (first
                | with_reducible exact hsl
                | with_reducible exact hsl2
                | with_reducible exact K10H.out _ hB.since
                | with_reducible exact K10H.out _ (Bank.boxSet (Bank.boxSet hB 1 rfl 0 _) 1 rfl 1 _).since
                | fail "keep")
              (first
                | (((with_reducible refine step_bank (Bank.drew (Bank.lit0 hB _)) ?_); intro hB); refine step_append_bytes hB rfl _ _ 27 rfl 5 infoByte Try.underlying27 0 _ _ _ [] rfl rfl _ _ _ _ rfl (Since.row hB.since r9) (by omega) ?_; intro A4 n4 c4 w4 hn4 hB; have hn4' := Lib.hid hn4; clear hn4; dsimp only [List.set] at hB; rw [List.nil_append] at hB; have x0 := hB.cell 1 rfl 0 rfl; have x1 := hB.cell 1 rfl 1 rfl; have y0 := hB.free 1 rfl 0; have y1 := hB.free 1 rfl 1)
                | fail "arm")
            all_goals
              have HFIN := Lib.hid (Bank.boxSet (Bank.boxSet hB 1 rfl 0 (.int .i64 (y.toNat : Int))) 1 rfl 1 (.slice A4 n4 c4))
              have hn4 := hn4'.out
              rw [Nat.zero_add] at hn4
              subst hn4
              clear hB x0 x1 y0 y1 hsl hsl2 hn4'
              go_wp2_with fail
              go_meet
              exact ⟨rfl, A4, c4, HFIN.out⟩
        case rest =>
          obtain ⟨rfl, D, d, hB⟩ := hcut
          obtain ⟨yb, hyb⟩ : ∃ yb, yb = l.getD 0 0 := ⟨_, rfl⟩
          rw [← hyb] at hB
          have HYB := Lib.hid hyb
          clear hyb
          clear s0 s1 s2 x0 x1 y0 y1 S1 BK1
          have BK5 := Lib.hid hB
          have S5 := Lib.hid (HSS.out.since hB.since)
          have R5 := Lib.hid (show RowRd wc ⟨some ⟨b, o, none⟩, 5, c⟩ (l.take 5) by simpa using rowRd_cut (Since.row hB.since RS.out) 0 5 c (by omega))
          have RD := Lib.hid (hB.row 0 rfl)
          clear hB
          generalize wc = w5 at *
          obtain ⟨s0, s1, s2⟩ := S5.out.cells
          have x1 := BK5.out.cell 1 rfl 1 rfl
          have t5 : (5 : Int) ≤ (c : Int) := by omega
          have hN63 : N ≤ 9223372036854775807 := by omega
          have HSM := Lib.hid (F.crc_append 4294967295#32 (l.take 5) ((l.drop 9).take N))
          have Q1 := Lib.hid (fun a => more_first (some ⟨b, o, none⟩) 5 c (l.take 5) (w5.drewN a) (rowRd_drewN R5.out a) (by omega))
          have Q2 := Lib.hid (fun a => more_any (F.crc 4294967295#32 (l.take 5)) D N d ((l.drop 9).take N) (w5.drewN a) (rowRd_drewN RD.out a) hN63)
          go_wp2_with fail
          go_quiet ((first
            | (go_at_call 50; with_reducible exact q_same (Q1.out _))
            | (go_at_call 50; with_reducible exact q_same (Q2.out _))
            | fail "q"))
          rw [← HSM.out]
          go_upto_region 12 with fail
          have S6 := Lib.hid (S5.out.since ((Below.refl _ w5).alloc (Nat.le_refl _) (.cells #[] 0)) |> fun _ => (show ScanAt (w5.drewN nq) S (some ⟨b, o, none⟩) n c u false from S5.out))
          have BK6 := Lib.hid (BK5.out.drewN nq)
          have R6 := Lib.hid (Since.row BK6.out.since RS.out)
          obtain ⟨z, hz⟩ : ∃ z, z = ~~~F.crc 4294967295#32 (l.take 5 ++ (l.drop 9).take N) := ⟨_, rfl⟩
          rw [← hz]
          have HZ := Lib.hid (show z = F.fsum (l.take 5 ++ (l.drop 9).take N) from hz)
          generalize w5.drewN nq = w6 at *
          clear hz s0 s1 s2 x1 Q1 Q2 HSM S5 BK5 R5 RD
          obtain ⟨s0, s1, s2⟩ := S6.out.cells
          obtain ⟨f0, f1, f2⟩ := S6.out.free
          obtain ⟨y5, hy5⟩ : ∃ y5, y5 = F.num4 (l.drop 5) := ⟨_, rfl⟩
          have HY5 := Lib.hid hy5
          clear hy5
          go_wp2_with fail
          refine (number_any S 5 b o n c l w6 s0 R6.out (by omega) hn hc).mono ?_
          rintro e w6' ⟨rfl, rfl⟩
          rw [← HY5.out]
          by_cases heq : y5 = z
          case neg =>
            have hne : (y5 != z) = true := by simpa using heq
            have HFI := Lib.hid (first_bad l n9.out (by rw [← HV.out, ← HN.out]; exact h2) (by rw [← HV.out, ← HN.out, HLEN.out]; exact h3) (by rw [← HV.out, ← HN.out, ← HY5.out, ← HZ.out]; exact heq))
            have BK7 := Lib.hid (BK6.out.storeOld hSl2 2 (.bool true)); have HSS7 := Lib.hid (HSS.out.spoil true)
            have S7 := Lib.hid (HSS7.out.since BK7.out.since)
            have HG7 := Lib.hid (grown_two HGS.out (grownBy_setCell wS S 2 (.bool true)))
            go_upto_region 13 with fail
            generalize w6.setCell ⟨S, 2, none⟩ (.bool true) = w7 at *
            clear s0 s1 s2 f0 f1 f2 S6 BK6 R6 heq hne
            obtain ⟨s0, s1, s2⟩ := S7.out.cells
            have x0 := BK7.out.cell 1 rfl 0 rfl
            have x1 := BK7.out.cell 1 rfl 1 rfl
            have g0 := BK7.out.free 1 rfl 0
            have g1 := BK7.out.free 1 rfl 1
            have BK8 := Lib.hid ((BK7.out.boxSet 1 rfl 0 (.int .i64 (yb.toNat : Int))).boxSet 1 rfl 1 (.slice D N d))
            go_wp2_with fail
            have rx0 := BK8.out.cell 1 rfl 0 rfl
            have rx1 := BK8.out.cell 1 rfl 1 rfl
            refine bodyPost_ret (v := .tuple #[.agg #[.int .i64 (yb.toNat : Int), .slice D N d], .bool false]) (by simp [results, Try.results105, go_sem, rx0, rx1]) rfl ?_
            exact .inl ⟨true, _, D, N, d, HFI.out, rfl, HSS7.out.since BK8.out.since, grown_since HG7.out BK8.out.since⟩
          case pos =>
            have hne : (y5 != z) = false := by simpa using heq
            have HFI := Lib.hid (first_good l n9.out (by rw [← HV.out, ← HN.out]; exact h2) (by rw [← HV.out, ← HN.out, HLEN.out]; exact h3) (by rw [← HV.out, ← HN.out, ← HY5.out, ← HZ.out]; exact heq))
            have BK7 := Lib.hid (BK6.out.storeOld hSl2 2 (.bool false)); have HSS7 := Lib.hid (HSS.out.spoil false)
            have S7 := Lib.hid (HSS7.out.since BK7.out.since)
            have HG7 := Lib.hid (grown_two HGS.out (grownBy_setCell wS S 2 (.bool false)))
            have RS7 := Lib.hid (RS.out.grown (grownBy_setCell wS S 2 (.bool false)) (fun a e => by cases e; simpa using fun e => HNB.out e.symm))
            have hSl7 : S < (wS.setCell ⟨S, 2, none⟩ (.bool false)).heap.size := by simpa using hSl2
            have HZ7 := Lib.hid (show (wS.setCell ⟨S, 2, none⟩ (.bool false)).heap.size = w.heap.size by simpa using HWZ.out)
            go_upto_region 13 with fail
            generalize w6.setCell ⟨S, 2, none⟩ (.bool false) = w7 at *
            generalize wS.setCell ⟨S, 2, none⟩ (.bool false) = wT at *
            clear s0 s1 s2 f0 f1 f2 S6 BK6 R6 hne heq RS HSS HGS hSl2 HWZ
            obtain ⟨s0, s1, s2⟩ := S7.out.cells
            obtain ⟨f0, f1, f2⟩ := S7.out.free
            have u0 : IntKind.i64.wrap ((u : Int) + (9 + (N : Int))) = (u : Int) + (9 + (N : Int)) := IntWalk.i64_in _ (by omega)
            have t1 : (0 : Int) ≤ 9 + (N : Int) := by omega
            have t2 : 9 + (N : Int) ≤ (n : Int) := by omega
            have t3 : (9 + (N : Int)).toNat = 9 + N := by omega
            have fin : ∀ (A' : Option Addr) (e : Ending) (w' : World), RowRd wT ⟨A', n - (9 + N), c - (9 + N)⟩ (l.drop (9 + N)) → (∀ a, A' = some a → a.block = b) → e = .returned (.tuple #[.agg #[.int .i64 (yb.toNat : Int), .slice D N d], .bool true]) →
                Bank ((wT.setCell ⟨S, 0, none⟩ (.slice A' (n - (9 + N)) (c - (9 + N)))).setCell ⟨S, 1, none⟩ (.int .i64 ((u + (9 + N) : Nat) : Int))) w' [rowAcc D N d ((l.drop 9).take N), boxAcc w.heap.size 36 [.int .i64 (yb.toNat : Int), .slice D N d]] →
                NextPost w S (some ⟨b, o, none⟩) n c u l e w' := fun A' e w' hr hA he hBf => by
              have hFI := HFI.out
              rw [← HV.out, ← HN.out, ← HYB.out] at hFI
              have hl : N = ((l.drop 9).take N).length := by rw [List.length_take, List.length_drop, HLEN.out]; omega
              have hr7 := RowRd.grown hr (grown_two (grownBy_setCell wT S 0 (.slice A' (n - (9 + N)) (c - (9 + N)))) (grownBy_setCell _ S 1 (.int .i64 ((u + (9 + N) : Nat) : Int)))) (fun a ea => by
                have := hA a ea
                intro e2
                have e3 : S = a.block := by simpa using e2
                exact HNB.out (this.symm.trans e3.symm))
              refine .inr ⟨_, A', D, N, d, hFI, hl, he, ?_, (HSS7.out.go A' _ _ _).since hBf.since, Since.row hBf.since hr7, fun a ea => ⟨_, rfl, (hA a ea).symm⟩, ?_⟩
              · have := hBf.at 0 rfl
                refine row_base this ?_
                simp
                rw [HZ7.out]
                exact Nat.le_refl _
              · exact grown_since (grown_two (grown_two HG7.out (grownBy_setCell _ _ _ _)) (grownBy_setCell _ _ _ _)) hBf.since
            have FIN := Lib.hid fin
            clear fin
            have x0 := BK7.out.cell 1 rfl 0 rfl
            have x1 := BK7.out.cell 1 rfl 1 rfl
            by_cases hce : c = 9 + N
            · have hne2 : n = 9 + N := by omega
              subst hce
              subst hne2
              go_upto_region 15 with fail
              go_region_law (fail)
              all_goals
                have BK8 := Lib.hid (Bank.drew ((BK7.out.storeOld hSl7 0 (.slice (some ⟨b, o, none⟩) 0 0)).storeOld (S := S) (by simpa using hSl7) 1 (.int .i64 ((u : Int) + (9 + (N : Int))))))
                go_upto_region 16 with fail
                generalize World.drew ((w7.setCell ⟨S, 0, none⟩ (.slice (some ⟨b, o, none⟩) 0 0)).setCell ⟨S, 1, none⟩ (.int .i64 ((u : Int) + (9 + (N : Int))))) = w8 at *
                clear s0 s1 s2 f0 f1 f2 x0 x1 u0
                have x0 := BK8.out.cell 1 rfl 0 rfl
                have x1 := BK8.out.cell 1 rfl 1 rfl
                have g0 := BK8.out.free 1 rfl 0
                have g1 := BK8.out.free 1 rfl 1
                have BK9 := Lib.hid ((BK8.out.boxSet 1 rfl 0 (.int .i64 (yb.toNat : Int))).boxSet 1 rfl 1 (.slice D N d))
                go_wp2_with fail
                have rx0 := BK9.out.cell 1 rfl 0 rfl
                have rx1 := BK9.out.cell 1 rfl 1 rfl
                refine bodyPost_ret (v := .tuple #[.agg #[.int .i64 (yb.toNat : Int), .slice D N d], .bool true]) (by simp [results, Try.results105, go_sem, rx0, rx1]) rfl ?_
                refine FIN.out (some ⟨b, o, none⟩) _ _ (by rw [List.drop_of_length_le (by rw [HLEN.out]; omega)]; exact ⟨Rd.of_nil _ _, by show 0 = _; simp, fun h => by cases h⟩) (fun a e => by cases e; rfl) rfl ?_
                rw [show ((u + (9 + N) : Nat) : Int) = (u : Int) + (9 + (N : Int)) by omega]
                rw [show 9 + N - (9 + N) = 0 by omega]
                exact BK9.out
            · have hcn : ¬ 9 + N = c := fun e => hce e.symm
              go_upto_region 15 with fail
              go_region_law (fail)
              all_goals
                have BK8 := Lib.hid (Bank.drew ((BK7.out.storeOld hSl7 0 (.slice (some ⟨b, o + (9 + N), none⟩) (n - (9 + N)) (c - (9 + N)))).storeOld (S := S) (by simpa using hSl7) 1 (.int .i64 ((u : Int) + (9 + (N : Int))))))
                go_upto_region 16 with fail
                generalize World.drew ((w7.setCell ⟨S, 0, none⟩ (.slice (some ⟨b, o + (9 + N), none⟩) (n - (9 + N)) (c - (9 + N)))).setCell ⟨S, 1, none⟩ (.int .i64 ((u : Int) + (9 + (N : Int))))) = w8 at *
                clear s0 s1 s2 f0 f1 f2 x0 x1 u0
                have x0 := BK8.out.cell 1 rfl 0 rfl
                have x1 := BK8.out.cell 1 rfl 1 rfl
                have g0 := BK8.out.free 1 rfl 0
                have g1 := BK8.out.free 1 rfl 1
                have BK9 := Lib.hid ((BK8.out.boxSet 1 rfl 0 (.int .i64 (yb.toNat : Int))).boxSet 1 rfl 1 (.slice D N d))
                go_wp2_with fail
                have rx0 := BK9.out.cell 1 rfl 0 rfl
                have rx1 := BK9.out.cell 1 rfl 1 rfl
                refine bodyPost_ret (v := .tuple #[.agg #[.int .i64 (yb.toNat : Int), .slice D N d], .bool true]) (by simp [results, Try.results105, go_sem, rx0, rx1]) rfl ?_
                refine FIN.out (some ⟨b, o + (9 + N), none⟩) _ _ (by have := rowRd_cut RS7.out (9 + N) (n - (9 + N)) (c - (9 + N)) (by omega); rwa [List.take_of_length_le (by rw [List.length_drop, HLEN.out]; omega)] at this) (fun a e => by cases e; rfl) rfl ?_
                rw [show ((u + (9 + N) : Nat) : Int) = (u : Int) + (9 + (N : Int)) by omega]
                exact BK9.out
end Go.Proofs.Ytfpjmeknjhhakaa.K
