/- The contract of StoreDoes. -/
import Derived.Test.YtfpjmeknjhhakaaGreatSz12
namespace Go.Proofs.YtfpjmeknjhhakaaGreat.K
open Go Go.RowKit Go.Maps

theorem frame_le {fs : List F.Fr} {f : F.Fr} (h : f ∈ fs) : f.data.length ≤ (F.pbytes fs).length := by
  induction fs with
  | nil => cases h
  | cons x fs ih =>
    rw [F.pbytes_cons, List.length_append, F.one_length]
    rcases List.mem_cons.1 h with rfl | h
    · omega
    · have := ih h; omega
theorem file_front (p q f : Acc) (Fa : Option Addr) (cF : Nat) (ps : List FR) (G : Nat) (c : S.Cl) (A : Option Addr) (cE : Nat) (xs : List EV) :
    (p :: FrL Fa cF ps (q :: RfL G c A cE xs [f])).Perm (f :: p :: FrL Fa cF ps (q :: RfL G c A cE xs [])) := by
  rw [show p :: FrL Fa cF ps (q :: RfL G c A cE xs [f]) = (p :: FrL Fa cF ps (q :: RfL G c A cE xs [])) ++ [f] by simp [FrL, RfL]]
  exact List.perm_append_singleton _ _
theorem ref_front (p q f : Acc) (Fa : Option Addr) (cF : Nat) (ps : List FR) (G : Nat) (c : S.Cl) (A : Option Addr) (cE : Nat) (xs : List EV) :
    (f :: p :: FrL Fa cF ps (q :: RfL G c A cE xs [])).Perm (RfL G c A cE xs (f :: p :: FrL Fa cF ps [q])) := by
  rw [show f :: p :: FrL Fa cF ps (q :: RfL G c A cE xs []) = (f :: p :: FrL Fa cF ps [q]) ++ RfL G c A cE xs [] by simp [FrL], show RfL G c A cE xs (f :: p :: FrL Fa cF ps [q]) = RfL G c A cE xs [] ++ (f :: p :: FrL Fa cF ps [q]) by simp [RfL]]
  exact List.perm_append_comm
/-- where all stands behind some deeds -/
def DoesL (w : World) (D R G : Nat) (ds : List Deed) (k Z : Nat) (FA : Option Addr) (FN FC : Nat) (wr : World) : Prop :=
  ∃ fs sf st A cE xs, st.l = xs.map EV.e ∧ FN = (F.pbytes fs).length ∧ LS w wr D R 1048576 fs sf Z st (RfL G st.c A cE xs [rowAcc FA FN FC (F.pbytes fs)]) ∧ Good fs st (dcost (ds.take k)) k
set_option maxHeartbeats 8000000 in
set_option maxRecDepth 100000 in
theorem StoreDoes_any (A : Option Addr) (n c : Nat) (ds : List Deed) (w : World) (hD : DeedsRd w A ds) (hn : ds.length = n) (hn2 : n ≤ 9000000000000) (hI : ∀ d ∈ ds, EntsIn d.es) :
    Calls Tryz.prog 3 #[.slice A n c] w (AwPost w) := by
  have HD := Lib.hid hD; have HN := Lib.hid hn; have HI := Lib.hid hI
  clear hD hn hI
  go_enter Tryz.func3, Tryz.ntmps3
  go_wp2_with fail
  refine (awake22_any _).mono ?_
  rintro e w1 ⟨rfl, hs1⟩
  have S1 := Lib.hid hs1
  clear hs1
  go_wp2_with fail
  refine (light_any A n c ds w1 (HD.out.since S1.out) HN.out hn2).mono ?_
  rintro e w' ⟨rfl, rfl⟩
  obtain ⟨bl, hbl⟩ : ∃ b, b = light ds := ⟨_, rfl⟩
  rw [← hbl]
  have HBL := Lib.hid hbl
  clear hbl
  cases bl with
  | false =>
    go_wp2
    go_ret
    exact ⟨rfl, S1.out⟩
  | true =>
  have HC := Lib.hid (light_cost HBL.out.symm)
  have hn60 : n ≤ 60 := by rw [← HN.out]; exact HC.out.1
  go_wp2_with fail
  refine (newL w w1 [] 1048576 (Bank.nil S1.out) (by omega)).mono ?_
  rintro e w2 ⟨D, R, rfl, h2⟩
  have HO := Lib.hid (openL w w2 D R 1048576 [] 0 [] [] S.zero 0 h2 (by simp) sread_nil rfl (Nat.le_refl _))
  clear h2 S1 HBL
  go_wp2_with fail
  refine HO.out.mono ?_
  rintro e w3 ⟨Z, rfl, h3⟩
  have b4 := (((Bank.nil (Below.refl w3.heap.size w3)).none 5 1).none 62 6).box #[.int .i64 0, .int .i64 0, .int .i64 0, .int .i64 0, .slice none 0 0] 36 (by simp)
  have H4 : Hid (LS w _ D R 1048576 [] 0 Z S.zero (RfL w3.heap.size S.zeroCl none 0 [] [rowAcc none 0 0 (F.pbytes [])])) := Lib.hid (h3.add b4)
  clear h3 HO b4
  go_wp2_with fail
  obtain ⟨G, hG⟩ : ∃ G, G = w3.heap.size := ⟨_, rfl⟩
  rw [← hG] at H4
  try simp only [← hG]
  clear hG
  go_loopw [4, 7, 8] (fun s f i wr => ∃ (k Z : Nat) (FA : Option Addr) (FN FC : Nat), k ≤ n ∧ s = .pointer (some ⟨Z, 0, none⟩) ∧ f = .slice FA FN FC ∧ i = .int .i64 (k : Int) ∧ DoesL w D R G ds k Z FA FN FC wr) (fun _ _ i _ => n - (intOf i).toNat)
  case atStart => exact ⟨0, Z, none, 0, 0, by omega, rfl, rfl, rfl, [], 0, S.zero, none, 0, [], rfl, rfl, H4.out, Good.start⟩
  case round =>
    clear H4
    obtain ⟨k, Zk, FA, FN, FC, hk, rfl, rfl, rfl, fs, sf, st, A2, cE, xs, hxs, hFN, hS, hGd⟩ := hrel
    have k0 : (0 : Int) ≤ (k : Int) := by omega
    have H5 := Lib.hid hS; have HG := Lib.hid hGd; have HXS := Lib.hid hxs; have HFN := Lib.hid hFN
    clear hS hGd hxs hFN
    rcases Nat.lt_or_ge k n with h1 | h1
    rotate_left
    · have i1 : ¬ (k : Int) < (n : Int) := by omega
      have HFIN := Lib.hid H5.out.since
      go_wp2_with fail
      go_ret
      exact ⟨rfl, HFIN.out⟩
    have i1 : (k : Int) < (n : Int) := by omega
    have hkd : k < ds.length := by rw [HN.out]; exact h1
    obtain ⟨b, o, rfl, A', n', c', x0, x1, x2, x3, x4, x5, x6, hE, hEl, hn'⟩ := HD.out k hkd
    obtain ⟨d, hd⟩ : ∃ d, d = ds[k] := ⟨_, rfl⟩
    rw [← hd] at x0 x1 x2 x3 x4 x5 hE hEl
    have hcst : dcost (ds.take (k + 1)) = dcost (ds.take k) + ecost d.es := by rw [dcost_take ds k hkd, hd]
    have hctot : dcost (ds.take (k + 1)) < 6000 := Nat.lt_of_le_of_lt (dcost_le ds (k + 1)) HC.out.2
    have hck : dcost (ds.take k) < 6000 := Nat.lt_of_le_of_lt (dcost_le ds k) HC.out.2
    have hin : EntsIn d.es := HI.out d (by rw [hd]; exact List.getElem_mem hkd)
    have HE := Lib.hid hE; have HEL := Lib.hid hEl; have HCS := Lib.hid hcst
    have hec : ecost d.es ≤ 6000 := by omega
    have HOK := Lib.hid (hin.ok (by omega))
    have hel : d.es.length * 10 ≤ ecost d.es := ecost_len d.es
    have hby := HG.out.bytes
    have hle := HG.out.len
    have hs5 := H5.out.since
    replace x0 := cell_since hs5 x0
    replace x1 := cell_since hs5 x1
    replace x2 := cell_since hs5 x2
    replace x3 := cell_since hs5 x3
    replace x4 := cell_since hs5 x4
    replace x5 := cell_since hs5 x5
    replace x6 := cell_since hs5 x6
    have y0 := cell_old (.cells #[.int .i64 d.kind, .int .i64 d.cell.term, .int .i64 d.cell.vote, .int .i64 d.cell.applied, .int .i64 d.cell.active, .int .i64 d.a, .slice A' n' c'] 40) x0
    have H6 := Lib.hid (H5.out.add ((Bank.nil (Below.refl wr.heap.size wr)).box #[.int .i64 d.kind, .int .i64 d.cell.term, .int .i64 d.cell.vote, .int .i64 d.cell.applied, .int .i64 d.cell.active, .int .i64 d.a, .slice A' n' c'] 40 (by simp)))
    clear hE hcst hin hd hs5
    go_wp2_with fail
    clear x0 x1 x2 x3 x4 x5 x6 y0
    generalize wr.alloc (.cells #[.int .i64 d.kind, .int .i64 d.cell.term, .int .i64 d.cell.vote, .int .i64 d.cell.applied, .int .i64 d.cell.active, .int .i64 d.a, .slice A' n' c'] 40) = w6 at *
    generalize wr.heap.size = Y at *
    refine (Pick_any d.kind 5 _ (by omega) (by omega)).mono ?_
    rintro e w' ⟨rfl, rfl⟩
    have hq0 := pick_lo d.kind 5 (by omega)
    have hq1 := pick_hi d.kind 5 (by omega)
    obtain ⟨q5, hq5⟩ : ∃ q5, q5 = pick d.kind 5 := ⟨_, rfl⟩
    rw [← hq5] at hq0 hq1 ⊢
    clear hq5
    have y0 := H6.out.bank.cell 0 rfl 0 rfl
    have f0 := H6.out.bank.free 0 rfl 0
    have H7 := Lib.hid (H6.out.boxSet0 0 (.int .i64 q5))
    have z0 := H7.out.bank.cell 0 rfl 0 rfl
    have z1 := H7.out.bank.cell 0 rfl 1 rfl
    have z2 := H7.out.bank.cell 0 rfl 2 rfl
    have z3 := H7.out.bank.cell 0 rfl 3 rfl
    have z4 := H7.out.bank.cell 0 rfl 4 rfl
    have z5 := H7.out.bank.cell 0 rfl 5 rfl
    have z6 := H7.out.bank.cell 0 rfl 6 rfl
    by_cases h4 : q5 = 4
    · have hbeq : (q5 == 4) = true := by rw [h4]; rfl
      have HOP := Lib.hid (openL w _ D R 1048576 (F.pbytes fs) sf _ fs st (F.pbytes fs).length H7.out.df (by omega) (S.sread_put fs st HG.out.err HG.out.does) (List.take_length).symm (Nat.le_refl _))
      go_wp2_with fail
      clear z0 z1 z2 z3 z4 z5 z6 y0 f0
      subst h4
      refine HOP.out.mono ?_
      rintro e w8 ⟨Z2, rfl, h8⟩
      have H8 := Lib.hid h8
      clear h8 HOP H7 H6 H5
      go_wp2_with fail
      refine (readLS w _ D R 1048576 (fs) _ Z2 (st) _ H8.out (by omega)).mono ?_
      rintro e w20 ⟨Ab, nb, cb, kb, rfl, h20⟩
      have H20 := Lib.hid h20
      have HRB := Lib.hid (RowRd.of_row (h20.bank.at 0 rfl))
      have HRF := Lib.hid (RowRd.of_row (h20.bank.own (rowAcc FA FN FC (F.pbytes (fs))) (.tail _ (.tail _ (.tail _ (.tail _ (List.mem_append_right _ (.head _))))))))
      have b20 := h20.bank.sub (L' := RfL G (st).c A2 cE xs []) (.cons _ (.cons _ (.cons_cons _ (.cons_cons _ ((List.Sublist.refl _).append (List.nil_sublist _))))))
      have HLK := Lib.hid (like_eq w w20 D R 1048576 (fs) _ Z2 (st) _ G A2 xs.length cE h20 (rf_c b20) (by rw [HXS.out, List.length_map]) (by rw [HXS.out]; exact rf_rd b20) (by have := congrArg List.length (HXS.out); rw [List.length_map] at this; omega) (fun e he => by have := HG.out.small e he; omega))
      clear h20 b20
      go_wp2_with fail
      refine HLK.out.mono ?_
      rintro e w21 ⟨rfl, hs21⟩
      have H21 := Lib.hid (H20.out.call hs21)
      have HRB1 := Lib.hid (Since.row hs21 HRB.out)
      have HRF1 := Lib.hid (Since.row hs21 HRF.out)
      have hlb : (F.pbytes (fs)).length = nb := HRB.out.len
      have hlf : (F.pbytes (fs)).length = FN := HRF.out.len
      clear hs21 H20 HLK
      go_wp2_with fail
      refine (SameBytes_any Ab FA nb FN cb FC (F.pbytes (fs)) (F.pbytes (fs)) w21 HRB1.out.rd HRF1.out.rd hlb hlf (by omega) (by omega)).mono ?_
      rintro e w22 ⟨rfl, kd, rfl⟩
      rw [show decide (F.pbytes (fs) = F.pbytes (fs)) = true from decide_eq_true rfl]
      have H22 := Lib.hid (H21.out.call (Since.drewN (Below.refl w21.heap.size w21) kd))
      have HFIN := Lib.hid (show DoesL w D R G ds (k + 1) Z2 FA FN FC (w21.drewN kd) from ⟨fs, _, st, A2, cE, xs, HXS.out, HFN.out, H22.out.sub (.cons _ (.cons _ (List.Sublist.refl _))), HG.out.more (by rw [HCS.out]; omega) (by omega)⟩)
      clear HRB HRF HRB1 HRF1 H21 hlb hlf
      go_wp2_with fail
      go_roundw
      case rel => exact ⟨k + 1, Z2, FA, FN, FC, by omega, rfl, rfl, by go_num, HFIN.out⟩
      case measure => simp [intOf]; omega
    · have hbeq : (q5 == 4) = false := by rw [beq_eq_false_iff_ne]; exact h4
      have HDO := Lib.hid (doing_any w _ D R Zk G fs sf st ⟨q5, d.cell, d.a, d.es⟩ A' n' c' A2 cE _ H7.out (fun w' hB => by rw [HXS.out, List.length_map]; exact hB.cell 1 rfl 4 rfl) HE.out HEL.out HOK.out hec (by omega) (by omega))
      have hg8 := HG.out.deed ⟨q5, d.cell, d.a, d.es⟩ HOK.out hec (by omega)
      have hds := dFr_does (st := st) (d := ⟨q5, d.cell, d.a, d.es⟩) HOK.out (by show _ + d.es.length ≤ _; omega)
      go_wp2_with fail
      clear z0 z1 z2 z3 z4 z5 z6 y0 f0 H5 H6 H7 hbeq h4
      refine HDO.out.mono ?_
      rintro e w8 ⟨Fa, cF, ps, rfl, hps, hpk, h8⟩
      have hpe := dFr_perr hg8
      rw [← hps] at h8 hg8 hpe hds
      rw [show dcost (ds.take k) + ecost d.es = dcost (ds.take (k + 1)) from HCS.out.symm] at hg8
      generalize dSt st ⟨q5, d.cell, d.a, d.es⟩ = st2 at h8 hg8 hds
      generalize dSf fs sf ⟨q5, d.cell, d.a, d.es⟩ = sf2 at h8
      clear hps HDO
      have hby2 := hg8.bytes
      have hpl : (F.pbytes (ps.map FR.fr)).length ≤ 200000 := by rw [F.pbytes_append, List.length_append] at hby2; omega
      have hHP := rput_any Fa ps.length cF (ps.map FR.fr) w8 (frm_ones h8.bank FrL.mem_acc FrL.mem_row hpk) (by simp) (by omega)
      have HPUT := Lib.hid hHP; have H8 := Lib.hid h8; have HG8 := Lib.hid hg8; have HDS := Lib.hid hds; have HPE := Lib.hid hpe
      clear hHP h8 hg8 hds hpe hpk hby2
      go_wp2_with fail
      refine HPUT.out.mono ?_
      rintro e w9 ⟨Ab, nb, cb, rfl, hnb, hrow, hs9⟩
      have hpo : pout (ps.map FR.fr) = F.pbytes (ps.map FR.fr) := by unfold pout; rw [if_pos HPE.out]
      rw [hpo] at hnb hrow
      have H9 := Lib.hid ((H8.out.add ((Bank.nil (Below.refl w8.heap.size w8)).madeB hs9 hrow)).perm (file_front _ _ _ Fa cF ps G st.c A2 cE xs))
      have RB := Lib.hid (RowRd.of_row hrow)
      have hFNb : FN ≤ 200000 := by have := HFN.out; omega
      have hnb2 : nb ≤ 200000 := by omega
      clear hnb
      clear hpo hrow hs9 HPUT H8
      go_wp2_with (at_builtin; go_loud (refine wpList_append_ls H9.out rfl _ _ 37 rfl infoByte Tryz.underlying37 rfl Ab nb cb _ rfl RB.out (by omega) ?_; intro FA5 FN5 FC5 w10 hn5 h10; have H10 := Lib.hid (h10.perm (ref_front _ _ _ Fa cF ps G st.c A2 cE xs)); have HN5 := Lib.hid hn5; clear hn5 h10))
      obtain ⟨p5, q5', H11⟩ : ∃ p q, Hid (LS w w10 D R 1048576 (fs ++ ps.map FR.fr) sf2 Zk st2 (RfL G st.c A2 cE xs (rowAcc FA5 FN5 FC5 (F.pbytes (fs ++ ps.map FR.fr)) :: p :: FrL Fa cF ps [q]))) := ⟨_, _, Lib.hid (by rw [F.pbytes_append]; exact H10.out)⟩
      obtain ⟨m, hm⟩ : ∃ m, m = ps.length := ⟨_, rfl⟩
      have hm2 : m ≤ 200000 := by
        have := len_le_pbytes (ps.map FR.fr)
        rw [List.length_map] at this
        omega
      have HM := Lib.hid hm; have HPL := Lib.hid hpl
      rw [← hm]
      clear H9 H10 RB hm
      go_wp2_with fail
      go_loopw [16] (fun i wr => ∃ (j : Nat) (c' : S.Cl) (A' : Option Addr) (cE' : Nat) (xs' : List EV), j ≤ m ∧ i = .int .i64 (j : Int) ∧ S.sdos st ((ps.map FR.fr).take j) = some ⟨c', xs'.map EV.e⟩ ∧ xs'.length ≤ xs.length + j ∧ LS w wr D R 1048576 (fs ++ ps.map FR.fr) sf2 Zk st2 (RfL G c' A' cE' xs' (rowAcc FA5 FN5 FC5 (F.pbytes (fs ++ ps.map FR.fr)) :: p5 :: FrL Fa cF ps [q5']))) (fun i _ => m - (intOf i).toNat)
      case atStart => exact ⟨0, st.c, A2, cE, xs, by omega, rfl, by rw [List.take_zero, ← HXS.out]; rfl, by omega, H11.out⟩
      case round =>
        clear H11
        obtain ⟨j, c5, A5, cE5, xs5, hj, rfl, hsd, hxl, hS⟩ := hrel
        have j0 : (0 : Int) ≤ (j : Int) := by omega
        have HSK := Lib.hid hsd; have H11 := Lib.hid hS
        have hxs0 : xs.length ≤ 100000 := by have h := congrArg List.length HXS.out; rw [List.length_map] at h; omega
        rcases Nat.lt_or_ge j m with h2 | h2
        · have i2 : (j : Int) < (m : Int) := by omega
          have hjp : j < ps.length := by rw [← HM.out]; exact h2
          have hb := hS.bank
          obtain ⟨g, hFa, x0, x1, hrd⟩ := frm_at hb (.tail _ (.tail _ (List.mem_append_right _ (.tail _ (.tail _ FrL.mem_acc))))) (fun p hp => .tail _ (.tail _ (List.mem_append_right _ (.tail _ (.tail _ (FrL.mem_row p hp)))))) j hjp
          obtain ⟨p, hpe⟩ : ∃ p, p = ps[j] := ⟨_, rfl⟩
          rw [← hpe] at x0 x1 hrd
          have hpm : p.fr ∈ ps.map FR.fr := List.mem_map.2 ⟨p, by rw [hpe]; exact List.getElem_mem hjp, rfl⟩
          have hfk : (ps.map FR.fr).take (j + 1) = (ps.map FR.fr).take j ++ [p.fr] := by
            rw [← List.map_take, ← List.map_take, List.take_succ_eq_append_getElem hjp, List.map_append, hpe]; rfl
          have hpn : p.x.n ≤ 200000 := by
            have h3 : p.bs.length = p.x.n := hrd.len
            have h4 : p.bs.length ≤ (F.pbytes (ps.map FR.fr)).length := frame_le hpm
            have h5 := HPL.out
            omega
          subst hFa
          have HDO := Lib.hid (rDo_any wr G c5 A5 xs5.length cE5 xs5 p.fr p.x.A p.x.n p.x.c (rf_box hb) (rf_own hb) rfl (by omega) hrd (by omega))
          have hnext : S.sdos st ((ps.map FR.fr).take (j + 1)) = S.sdo ⟨c5, xs5.map EV.e⟩ p.fr := by
            rw [hfk, S.sdos_append, hsd]
            simp [S.sdos]
          have HNX := Lib.hid hnext
          clear hsd hS hb hrd hpe hfk hnext hpm hpn
          go_wp2_with fail
          refine HDO.out.mono ?_
          rintro e w12 hp12
          rcases ls_rf H11.out hp12 with ⟨h3, _, _⟩ | ⟨c6, A6, cE6, xs6, h3, h4, rfl, h12⟩
          · exfalso
            obtain ⟨t, ht⟩ := S.sdos_take HDS.out (j + 1)
            rw [HNX.out, h3] at ht
            cases ht
          · have H12 := Lib.hid h12
            have HN6 := Lib.hid (HNX.out.trans h3)
            clear h3 h12 HDO x0 x1 hp12 HNX
            go_wp2_with fail
            go_roundw
            case rel => exact ⟨j + 1, c6, A6, cE6, xs6, by omega, by go_num, HN6.out, by omega, H12.out⟩
            case measure => simp [intOf]; omega
        · have i2 : ¬ (j : Int) < (m : Int) := by omega
          obtain rfl : j = m := by omega
          have hst2 : st2 = ⟨c5, xs5.map EV.e⟩ := by
            have h := HSK.out
            rw [List.take_of_length_le (by rw [List.length_map, ← HM.out]; omega), HDS.out] at h
            exact Option.some.inj h
          subst hst2
          have hbt := HG8.out.bytes
          have hle2 := HG8.out.len
          have HSM := Lib.hid HG8.out.small
          clear hsd hS HSK HDS
          go_wp2_with fail
          refine (readLS w _ D R 1048576 (fs ++ ps.map FR.fr) _ Zk ⟨c5, xs5.map EV.e⟩ _ H11.out (by omega)).mono ?_
          rintro e w20 ⟨Ab2, nb2, cb2, kb, rfl, h20⟩
          have H20 := Lib.hid h20
          have HRB := Lib.hid (RowRd.of_row (h20.bank.at 0 rfl))
          have HRF := Lib.hid (RowRd.of_row (h20.bank.own (rowAcc FA5 FN5 FC5 (F.pbytes (fs ++ ps.map FR.fr))) (.tail _ (.tail _ (.tail _ (List.mem_append_right _ (.head _)))))))
          have b20 := h20.bank.sub (L' := RfL G c5 A5 cE5 xs5 []) (.cons _ (.cons_cons _ (.cons_cons _ ((List.Sublist.refl _).append (List.nil_sublist _)))))
          have HLK := Lib.hid (like_eq w w20 D R 1048576 (fs ++ ps.map FR.fr) _ Zk ⟨c5, xs5.map EV.e⟩ _ G A5 xs5.length cE5 h20 (rf_c b20) (List.length_map _) (rf_rd b20) (by omega) (fun e he => by have := HSM.out e he; omega))
          clear h20 b20
          go_wp2_with fail
          refine HLK.out.mono ?_
          rintro e w21 ⟨rfl, hs21⟩
          have H21 := Lib.hid (H20.out.call hs21)
          have HRB1 := Lib.hid (Since.row hs21 HRB.out)
          have HRF1 := Lib.hid (Since.row hs21 HRF.out)
          have hlb : (F.pbytes (fs ++ ps.map FR.fr)).length = nb2 := HRB.out.len
          have hlf : (F.pbytes (fs ++ ps.map FR.fr)).length = FN5 := HRF.out.len
          clear hs21 H20 HLK
          go_wp2_with fail
          refine (SameBytes_any Ab2 FA5 nb2 FN5 cb2 FC5 (F.pbytes (fs ++ ps.map FR.fr)) (F.pbytes (fs ++ ps.map FR.fr)) w21 HRB1.out.rd HRF1.out.rd hlb hlf (by omega) (by omega)).mono ?_
          rintro e w22 ⟨rfl, kd, rfl⟩
          rw [show decide (F.pbytes (fs ++ ps.map FR.fr) = F.pbytes (fs ++ ps.map FR.fr)) = true from decide_eq_true rfl]
          have H22 := Lib.hid (H21.out.call (Since.drewN (Below.refl w21.heap.size w21) kd))
          have HFIN := Lib.hid (show DoesL w D R G ds (k + 1) Zk FA5 FN5 FC5 (w21.drewN kd) from ⟨fs ++ ps.map FR.fr, _, ⟨c5, xs5.map EV.e⟩, A5, cE5, xs5, rfl, hlf.symm, H22.out.sub (.cons _ (.cons_cons _ (.cons_cons _ ((List.Sublist.refl _).append (.cons_cons _ (List.nil_sublist _)))))), HG8.out⟩)
          clear HRB HRF HRB1 HRF1 H21 H22 H11 hlb hlf hbt hle2
          go_wp2_with fail
          go_roundw
          case rel => exact ⟨k + 1, Zk, FA5, FN5, FC5, by omega, rfl, rfl, by go_num, HFIN.out⟩
          case measure => simp [intOf]; omega
end Go.Proofs.YtfpjmeknjhhakaaGreat.K
