/- The contract of StoreCrashes. -/
import Derived.Test.YtfpjmeknjhhakaaGreatSzCrInv
namespace Go.Proofs.YtfpjmeknjhhakaaGreat.K
open Go Go.RowKit Go.Maps

theorem infoPtr : (Tryz.prog.info? 31).map (fun i => (i.zero, i.size, i.bytes)) = some (some (.pointer none), 1, 8) := by kernel_rfl
theorem szPtr : ∀ w, (sizeOf 31).run Tryz.prog w = .ok 1 w := fun _ => by kernel_rfl
set_option maxHeartbeats 16000000 in
set_option maxRecDepth 100000 in
theorem StoreCrashes_any (A : Option Addr) (n c : Nat) (ds : List Deed) (CA : Option Addr) (Cn Cc : Nat) (KA : Option Addr) (Kn Kc : Nat) (w : World) (hD : DeedsRd w A ds) (hn : ds.length = n) (hn2 : n ≤ 9000000000000) (hI : ∀ d ∈ ds, EntsIn d.es) (hCr : Nums w CA Cn) (hKp : Nums w KA Kn) :
    Calls Tryz.prog 4 #[.slice A n c, .slice CA Cn Cc, .slice KA Kn Kc] w (AwPost w) := by
  have HD := Lib.hid hD; have HN := Lib.hid hn; have HI := Lib.hid hI; have HCR := Lib.hid hCr; have HKP := Lib.hid hKp
  clear hD hn hI hCr hKp
  go_enter Tryz.func4, Tryz.ntmps4
  go_wp2_with fail
  refine (awake22_any _).mono ?_
  rintro e w1 ⟨rfl, hs1⟩
  have S1 := Lib.hid hs1
  clear hs1
  go_wp2_with fail
  refine (light_any A n c ds w1 (HD.out.since S1.out) HN.out hn2).mono ?_
  rintro e w' ⟨rfl, rfl⟩
  obtain ⟨bl, hbl⟩ : ∃ b, b = light ds := ⟨_, rfl⟩
  rw [← hbl]
  have HBL := Lib.hid hbl
  clear hbl
  cases bl with
  | false =>
    go_wp2
    go_ret
    exact ⟨rfl, S1.out⟩
  | true =>
  have HC := Lib.hid (light_cost HBL.out.symm)
  have hn60 : n ≤ 60 := by rw [← HN.out]; exact HC.out.1
  by_cases hcn : 60 < Cn
  · have i1 : (60 : Int) < (Cn : Int) := by omega
    go_wp2
    go_ret
    exact ⟨rfl, S1.out⟩
  have i1 : ¬ (60 : Int) < (Cn : Int) := by omega
  by_cases hkn : 60 < Kn
  · have i2 : (60 : Int) < (Kn : Int) := by omega
    go_wp2
    go_ret
    exact ⟨rfl, S1.out⟩
  have i2 : ¬ (60 : Int) < (Kn : Int) := by omega
  go_wp2_with fail
  clear i1 i2
  refine (newL w w1 [] 1048576 (Bank.nil S1.out) (by omega)).mono ?_
  rintro e w2 ⟨D, R, rfl, h2⟩
  have HO := Lib.hid (openL w w2 D R 1048576 [] 0 [] [] S.zero 0 h2 (by simp) sread_nil rfl (Nat.le_refl _))
  clear h2 S1 HBL
  go_wp2_with fail
  refine HO.out.mono ?_
  rintro e w3 ⟨Z, rfl, h3⟩
  have b4 := ((((Bank.nil (Below.refl w3.heap.size w3)).none 62 6).box #[.int .i64 0, .int .i64 0, .int .i64 0, .int .i64 0, .slice none 0 0] 36 (by simp)).litV #[.pointer (some ⟨w3.heap.size, 0, none⟩)] 31 (by simp))
  rw [World.size_alloc] at b4
  have H4 : Hid (CrL w D R 0 0 Z (w3.heap.size + 1) 0 1 1 _) := Lib.hid ⟨[], [], S.zero, [⟨w3.heap.size, S.zeroCl, none, 0, []⟩], [], Trail.start _ _ rfl, rfl, GF.start, [], rfl, rfl, Nat.le_refl _, (fun s hs x hx => by rw [List.mem_singleton.1 hs] at hx; cases hx), h3.add b4⟩
  clear h3 HO b4
  go_wp2_with fail
  obtain ⟨g, hg⟩ : ∃ g, g = w3.heap.size + 1 := ⟨_, rfl⟩
  rw [← hg] at H4
  try simp only [← hg]
  clear hg
  go_loopw [8, 10, 11] (fun s l i wr => ∃ (k Z g o m cp : Nat), k ≤ n ∧ s = .pointer (some ⟨Z, 0, none⟩) ∧ l = .slice (some ⟨g, o, none⟩) m cp ∧ i = .int .i64 (k : Int) ∧ CrL w D R (dcost (ds.take k)) k Z g o m cp wr) (fun _ _ i _ => n - (intOf i).toNat)
  case atStart => exact ⟨0, Z, g, 0, 1, 1, by omega, rfl, rfl, rfl, H4.out⟩
  case round =>
    clear H4
    obtain ⟨k, Zk, gk, ok, mk, ck, hk, rfl, rfl, rfl, a, b, st, sts, PL, hTr, hst, hGF, hB⟩ := hrel
    have k0 : (0 : Int) ≤ (k : Int) := by omega
    have hck : dcost (ds.take k) < 6000 := Nat.lt_of_le_of_lt (dcost_le ds k) HC.out.2
    have hlen : sts.length = mk := by obtain ⟨_, _, h, _⟩ := hB; exact h
    have hmk : mk = b.length + 1 := by rw [← hlen, hTr.1]
    obtain ⟨nb, hnb⟩ : ∃ nb, nb = b.length := ⟨_, rfl⟩
    have hnbm : nb < mk := by omega
    have hnbs : nb < sts.length := by omega
    have hmkb : mk ≤ 10001 := by
      have h := (hGF.len hck (by omega)).2
      rw [List.length_append] at h
      omega
    obtain ⟨s0, hs0⟩ : ∃ s, s = sts[nb] := ⟨_, rfl⟩
    have hm0 : s0 ∈ sts := by rw [hs0]; exact List.getElem_mem hnbs
    have hst0 : st = s0.st := by
      have h := hTr.2 nb hnbs
      have hb0 : b.take nb = b := by rw [hnb, List.take_length]
      rw [hb0, hst] at h
      rw [hs0]
      exact Option.some.inj h
    have hbd := hGF.st hck (by omega) hst
    have hbyt := hGF.len hck (by omega)
    have hx0 : s0.xs.length ≤ 10000 := by
      have h := hbd.1
      rw [hst0] at h
      simpa [SR.st] using h
    have hw1 : IntKind.i64.wrap ((mk : Int) - 1) = (nb : Int) := by
      have e : (mk : Int) - 1 = (nb : Int) := by omega
      rw [e]
      exact IntWalk.i64_in _ (by omega)
    have j0 : (0 : Int) ≤ (nb : Int) := by omega
    have j1 : (nb : Int) < (mk : Int) := by omega
    have HB := Lib.hid hB; have HTR := Lib.hid hTr; have HST := Lib.hid hst; have HGF := Lib.hid hGF; have HS0 := Lib.hid hst0; have HSE := Lib.hid hs0; have HNB := Lib.hid hnb
    have HLEN := Lib.hid hlen
    have HBD := Lib.hid hbd.2
    have hbd1 := hbd.1
    have hb1 := hbyt.1
    have hb2 := hbyt.2
    clear hB hTr hst hGF hst0 hs0 hnb hlen hmk hbd hbyt
    rcases Nat.lt_or_ge k n with h1 | h1
    rotate_left
    · have i1 : ¬ (k : Int) < (n : Int) := by omega
      have p0 := HB.out.at' nb hnbs
      rw [← HSE.out] at p0
      obtain ⟨_, _, hc0, he0⟩ := HB.out.mem hm0
      have hLS : LS w wr D R 1048576 (a ++ b) (F.pbytes a).length Zk st (stsL gk ok ck _ sts PL) := HB.out.choose_spec.2.2.2.2
      have HLK := Lib.hid (like_dec w wr D R 1048576 (a ++ b) _ Zk st _ s0.G s0.st s0.A s0.xs.length s0.cE hLS hc0 (by simp [SR.st]) he0 (by omega) (fun e he => by have := HBD.out e he; omega) (fun e he => by rw [← HS0.out] at he; have := HBD.out e he; omega))
      have HSN := Lib.hid hLS.since
      clear hc0 he0 hLS
      go_wp2_with fail
      refine HLK.out.mono ?_
      rintro e w4 ⟨bb, hbb, rfl, hs4⟩
      obtain rfl : bb = true := hbb.2 HS0.out
      have HFIN := Lib.hid (HSN.out.add hs4)
      clear hbb hs4
      go_wp2
      go_ret
      exact ⟨rfl, HFIN.out⟩
    have i1 : (k : Int) < (n : Int) := by omega
    have hkd : k < ds.length := by rw [HN.out]; exact h1
    obtain ⟨b', o, rfl, A', n', c', x0, x1, x2, x3, x4, x5, x6, hE, hEl, hn'⟩ := HD.out k hkd
    obtain ⟨d, hd⟩ : ∃ d, d = ds[k] := ⟨_, rfl⟩
    rw [← hd] at x0 x1 x2 x3 x4 x5 hE hEl
    have hcst : dcost (ds.take (k + 1)) = dcost (ds.take k) + ecost d.es := by rw [dcost_take ds k hkd, hd]
    have hctot : dcost (ds.take (k + 1)) < 6000 := Nat.lt_of_le_of_lt (dcost_le ds (k + 1)) HC.out.2
    have hin : EntsIn d.es := HI.out d (by rw [hd]; exact List.getElem_mem hkd)
    have HE := Lib.hid hE; have HEL := Lib.hid hEl; have HCS := Lib.hid hcst
    have hec : ecost d.es ≤ 6000 := by omega
    have HOK := Lib.hid (hin.ok (by omega))
    have hel : d.es.length * 10 ≤ ecost d.es := ecost_len d.es
    obtain ⟨pre, hpre, hln, hmc, hPool, hS⟩ := HB.out
    have H5 := Lib.hid hS; have HPR := Lib.hid hpre; have HPO := Lib.hid hPool
    have hs5 := hS.since
    replace x0 := cell_since hs5 x0
    replace x1 := cell_since hs5 x1
    replace x2 := cell_since hs5 x2
    replace x3 := cell_since hs5 x3
    replace x4 := cell_since hs5 x4
    replace x5 := cell_since hs5 x5
    replace x6 := cell_since hs5 x6
    have y0 := cell_old (.cells #[.int .i64 d.kind, .int .i64 d.cell.term, .int .i64 d.cell.vote, .int .i64 d.cell.applied, .int .i64 d.cell.active, .int .i64 d.a, .slice A' n' c'] 40) x0
    have H6 := Lib.hid (H5.out.add ((Bank.nil (Below.refl wr.heap.size wr)).box #[.int .i64 d.kind, .int .i64 d.cell.term, .int .i64 d.cell.vote, .int .i64 d.cell.applied, .int .i64 d.cell.active, .int .i64 d.a, .slice A' n' c'] 40 (by simp)))
    clear hE hcst hin hd hs5 hS hpre hln hPool
    go_wp2_with fail
    clear x0 x1 x2 x3 x4 x5 x6 y0
    generalize wr.alloc (.cells #[.int .i64 d.kind, .int .i64 d.cell.term, .int .i64 d.cell.vote, .int .i64 d.cell.applied, .int .i64 d.cell.active, .int .i64 d.a, .slice A' n' c'] 40) = w6 at *
    generalize wr.heap.size = Y at *
    refine (Pick_any d.kind 4 _ (by omega) (by omega)).mono ?_
    rintro e w' ⟨rfl, rfl⟩
    have hq0 := pick_lo d.kind 4 (by omega)
    have hq1 := pick_hi d.kind 4 (by omega)
    obtain ⟨q4, hq4⟩ : ∃ q4, q4 = pick d.kind 4 := ⟨_, rfl⟩
    rw [← hq4] at hq0 hq1 ⊢
    clear hq4
    have y0 := H6.out.bank.cell 0 rfl 0 rfl
    have f0 := H6.out.bank.free 0 rfl 0
    have h7 := H6.out.boxSet0 0 (.int .i64 q4)
    have H7 := Lib.hid h7
    have hB7 : CrB w D R (a ++ b) (F.pbytes a).length Zk st gk ok mk ck sts [_] PL _ := ⟨pre, HPR.out, HLEN.out, hmc, HPO.out, h7⟩
    have p0 := hB7.at' nb hnbs
    rw [← HSE.out] at p0
    obtain ⟨m1, m2, _, _⟩ := hB7.mem hm0
    have HCP := Lib.hid (rCopy_any _ s0.G s0.c s0.A s0.xs.length s0.cE s0.xs m1 m2 rfl (by omega))
    clear h7 hB7 m1 m2
    go_wp2_with fail
    clear p0 y0 f0
    refine HCP.out.mono ?_
    rintro e w8 ⟨sm, rfl, hsc, hsx, hBm⟩
    have h8 := H7.out.add hBm
    have H8 := Lib.hid h8
    have hsm : sm.st = st := by rw [HS0.out]; unfold SR.st; rw [hsc, hsx]
    have hsl : st.l.length = sm.xs.length := by rw [← hsm]; simp [SR.st]
    have HSM := Lib.hid hsm; have HSL := Lib.hid hsl; have HSX := Lib.hid hsx
    have z0 := h8.bank.cell 2 rfl 0 rfl
    have z1 := h8.bank.cell 2 rfl 1 rfl
    have z2 := h8.bank.cell 2 rfl 2 rfl
    have z3 := h8.bank.cell 2 rfl 3 rfl
    have z4 := h8.bank.cell 2 rfl 4 rfl
    have z5 := h8.bank.cell 2 rfl 5 rfl
    have z6 := h8.bank.cell 2 rfl 6 rfl
    have HDO := Lib.hid (doing_any w w8 D R Zk sm.G (a ++ b) _ st ⟨q4, d.cell, d.a, d.es⟩ A' n' c' sm.A sm.cE _ h8 (fun w' hB => by rw [hsl]; exact hB.cell 0 rfl 4 rfl) HE.out HEL.out HOK.out hec (by omega) (by omega))
    have hg8 := HGF.out.deed (st := st) ⟨q4, d.cell, d.a, d.es⟩ hec
    have hds := dFr_does (st := st) (d := ⟨q4, d.cell, d.a, d.es⟩) HOK.out (by show _ + d.es.length ≤ _; omega)
    have hpk4 : pick q4 4 = q4 := pick_self hq0 hq1
    have hsf : (q4 = 3 → dSf (a ++ b) (F.pbytes a).length ⟨q4, d.cell, d.a, d.es⟩ = (F.pbytes (a ++ b)).length ∧ dFr st ⟨q4, d.cell, d.a, d.es⟩ = [] ∧ dSt st ⟨q4, d.cell, d.a, d.es⟩ = st) ∧ (q4 ≠ 3 → dSf (a ++ b) (F.pbytes a).length ⟨q4, d.cell, d.a, d.es⟩ = (F.pbytes a).length) := by
      unfold dSf dFr dSt
      simp only [hpk4]
      refine ⟨fun h => ?_, fun h => by rw [if_neg h]⟩
      subst h
      exact ⟨rfl, rfl, rfl⟩
    clear h8 hsc hsx hBm hsm hsl hpk4 HCP H5 H6 H7
    go_wp2_with fail
    clear z0 z1 z2 z3 z4 z5 z6
    refine HDO.out.mono ?_
    rintro e w9 ⟨Fa, cF, ps, rfl, hps, hpk, h9⟩
    obtain ⟨QA, hQA⟩ : ∃ q, q = boxAcc Y 40 [.int .i64 q4, .int .i64 d.cell.term, .int .i64 d.cell.vote, .int .i64 d.cell.applied, .int .i64 d.cell.active, .int .i64 d.a, .slice A' n' c'] := ⟨_, rfl⟩
    have h9' : LS w w9 D R 1048576 (a ++ b ++ dFr st ⟨q4, d.cell, d.a, d.es⟩) (dSf (a ++ b) (F.pbytes a).length ⟨q4, d.cell, d.a, d.es⟩) Zk (dSt st ⟨q4, d.cell, d.a, d.es⟩) (FrL Fa cF ps (sm.box :: sm.evs :: QA :: stsL gk ok ck pre sts PL)) := by rw [hQA]; exact h9
    rw [← hps] at h9' hg8 hds hsf
    rw [show dcost (ds.take k) + ecost d.es = dcost (ds.take (k + 1)) from HCS.out.symm] at hg8
    generalize dSt st ⟨q4, d.cell, d.a, d.es⟩ = st2 at h9' hds hsf
    generalize dSf (a ++ b) (F.pbytes a).length ⟨q4, d.cell, d.a, d.es⟩ = sf2 at h9' hsf
    have HFR := Lib.hid (show ∃ fr, fr = ps.map FR.fr from ⟨_, rfl⟩)
    obtain ⟨fr, hfr⟩ := HFR.out
    rw [← hfr] at h9' hg8 hds hsf
    have hlb := hg8.len hctot (by omega)
    have hpl : fr.length ≤ 10000 := by have h := hlb.2; rw [List.length_append] at h; omega
    have hmm0 : fr.length = ps.length := by rw [hfr, List.length_map]
    obtain ⟨mm, hmm⟩ : ∃ m, m = ps.length := ⟨_, rfl⟩
    have hmm1 : mm ≤ 10000 := by omega
    have hI0 : InB w D R a b fr sf2 Zk st st2 sm.G Fa cF ps QA gk ok mk ck 0 sm sts (FrL Fa cF ps (QA :: PL)) w9 := by
      have hsub : ∀ p ∈ PL, p ∈ FrL Fa cF ps (QA :: PL) := fun p hp => .tail _ (List.mem_append_right _ (.tail _ hp))
      refine ⟨rfl, by rw [List.take_zero, HSM.out]; rfl, by have := HSL.out; omega, fun x hx => ?_, HTR.out.1, fun t ht => ?_, FrL.mem_acc, FrL.mem_row, .tail _ (List.mem_append_right _ (.head _)), pre, HPR.out, HLEN.out, hmc, HPO.out.more hsub, h9'.perm (fr_pool Fa cF ps sm.box sm.evs QA pre)⟩
      · rw [HSX.out] at hx
        exact hsub _ (HPO.out s0 hm0 x hx)
      · rw [List.take_append_of_le_length (by have := HTR.out.1; omega)]
        exact HTR.out.2 t ht
    have HI0 := Lib.hid hI0; have HG8 := Lib.hid hg8; have HDS := Lib.hid hds; have HSF := Lib.hid hsf; have HQA := Lib.hid hQA; have HFR2 := Lib.hid hfr; have HMM := Lib.hid hmm; have HM0 := Lib.hid hmm0
    have hlb1 := hlb.1
    rw [← hmm]
    clear HFR h9 h9' hps hpk hI0 hg8 hds hsf hQA hfr hmm hmm0 hlb hpl HDO
    go_wp2_with fail
    go_loopw [10, 16] (fun l kk wr => ∃ (j g o m cp : Nat) (s2 : SR) (sts2 : List SR) (PL2 : List Acc), j ≤ mm ∧ l = .slice (some ⟨g, o, none⟩) m cp ∧ kk = .int .i64 (j : Int) ∧ InB w D R a b fr sf2 Zk st st2 sm.G Fa cF ps QA g o m cp j s2 sts2 PL2 wr) (fun _ kk _ => mm - (intOf kk).toNat)
    case atStart => exact ⟨0, gk, ok, mk, ck, sm, sts, _, by omega, rfl, rfl, HI0.out⟩
    case round =>
      clear HI0
      obtain ⟨j, g, o, m, cp, s2, sts2, PL2, hj, rfl, rfl, hIn⟩ := hrel
      have k0 : (0 : Int) ≤ (j : Int) := by omega
      have HIN := Lib.hid hIn
      obtain ⟨pre2, hp2, hl2, hm2, hpo2, hS2⟩ := hIn.ls
      have hm3 : m ≤ 30000 := by
        have h1 := hIn.num
        have h2 := HNB.out
        omega
      have HS2 := Lib.hid hS2; have HP2 := Lib.hid hp2; have HL2 := Lib.hid hl2; have HPO2 := Lib.hid hpo2
      rcases Nat.lt_or_ge j mm with h2 | h2
      · have i2 : (j : Int) < (mm : Int) := by omega
        have hjp : j < ps.length := by rw [← HMM.out]; exact h2
        obtain ⟨gf, hFa, x0, x1, hrd⟩ := frm_at hS2.bank (.tail _ (.tail _ (.tail _ (List.mem_append_right _ hIn.frm)))) (fun p hp => .tail _ (.tail _ (.tail _ (List.mem_append_right _ (hIn.row p hp))))) j hjp
        obtain ⟨p, hpe⟩ : ∃ p, p = ps[j] := ⟨_, rfl⟩
        rw [← hpe] at x0 x1 hrd
        have hpm : p.fr ∈ fr := by rw [HFR2.out]; exact List.mem_map.2 ⟨p, by rw [hpe]; exact List.getElem_mem hjp, rfl⟩
        have hfk : fr.take (j + 1) = fr.take j ++ [p.fr] := by
          rw [HFR2.out, ← List.map_take, ← List.map_take, List.take_succ_eq_append_getElem hjp, List.map_append, hpe]; rfl
        have hpn : p.x.n ≤ 200000 := by
          have h3 : p.bs.length = p.x.n := hrd.len
          have h4 : p.bs.length ≤ (F.pbytes (a ++ b ++ fr)).length := fr_le (List.mem_append_right _ hpm)
          omega
        subst hFa
        obtain ⟨G2, c2, A2, cE2, xs2⟩ := s2
        obtain rfl : G2 = sm.G := hIn.ptr
        have hx2 : xs2.length ≤ 10000 + j := hIn.len
        have HDO2 := Lib.hid (rDo_any wr sm.G c2 A2 xs2.length cE2 xs2 p.fr p.x.A p.x.n p.x.c (sr_box hS2.bank (.head _)) (sr_own hS2.bank (.tail _ (.head _))) rfl (by omega) hrd (by omega))
        have hnext : S.sdos st (fr.take (j + 1)) = S.sdo ⟨c2, xs2.map EV.e⟩ p.fr := by
          rw [hfk, S.sdos_append, hIn.does]
          simp [S.sdos, SR.st]
        have HNX := Lib.hid hnext
        clear hIn hS2 hp2 hl2 hpo2 hrd hpe hfk hnext hpm hpn
        go_wp2_with fail
        refine HDO2.out.mono ?_
        rintro e w12 hp12
        rcases ls_rfB (PL := PL2) HS2.out hp12 HIN.out.pool with ⟨h3, _, _⟩ | ⟨s3, K, hG3, h3, hl3, rfl, h12, hx3⟩
        · exfalso
          obtain ⟨t, ht⟩ := S.sdos_take HDS.out (j + 1)
          have h4 : S.sdo ⟨c2, xs2.map EV.e⟩ p.fr = none := h3
          rw [HNX.out, h4] at ht
          cases ht
        · have h12' := h12.perm (.cons _ (.cons _ (row_pool K pre2)))
          have hl3' : s3.xs.length ≤ xs2.length + 1 := hl3
          have hG3' : s3.G = sm.G := hG3
          have hcp := rCopy_any w12 s3.G s3.c s3.A s3.xs.length s3.cE s3.xs (sr_box h12'.bank (.head _)) (sr_own h12'.bank (.tail _ (.head _))) rfl (by omega)
          rw [hG3'] at hcp
          have HCP2 := Lib.hid hcp; have H12 := Lib.hid h12'; have HX3 := Lib.hid hx3; have HG3 := Lib.hid hG3'
          have HN3 : Hid (S.sdos st (fr.take (j + 1)) = some s3.st) := Lib.hid (HNX.out.trans h3)
          clear h3 h12 h12' hcp hx3 hG3 hG3' hl3 HDO2 x0 x1 hp12 HNX HS2
          go_wp2_with fail
          refine HCP2.out.mono ?_
          rintro e w13 ⟨s4, rfl, hc4, hx4, hB4⟩
          have H13 := Lib.hid ((H12.out.add hB4).perm (.cons _ (.cons _ (row_pool [s3.box, s3.evs] pre2))))
          have HS4 := Lib.hid (show s4.st = s3.st by unfold SR.st; rw [hc4, hx4])
          have HX4 := Lib.hid hx4
          clear hc4 hx4 hB4 HCP2 H12
          go_wp2_with (at_builtin; go_loud (refine wpList_append_sts (s := s4) (H13.out.call ((Below.refl _ _).alloc (Nat.le_refl _) (.cells #[.pointer (some ⟨s4.G, 0, none⟩)] 31))) HP2.out rfl _ _ 54 rfl infoPtr Tryz.underlying54 m HL2.out.symm rfl ⟨w13.heap.size, 0, none⟩ 1 rfl (by rw [World.cell?_alloc_new]; rfl) (by omega) ?_; intro g' o' c' pre' w14 n' hn' h14 hp' hc'; have H14 := Lib.hid h14; have HN' := Lib.hid hn'; have HP' := Lib.hid hp'; clear hn' h14 hp'))
          have HIN2 := Lib.hid (show InB w D R a b fr sf2 Zk st st2 sm.G (some ⟨gf, 0, none⟩) cF ps QA g' o' n' c' (j + 1) s3 (sts2 ++ [s4]) (K ++ PL2) w14 from by
            refine ⟨HG3.out, HN3.out, by omega, HX3.out, by rw [List.length_append, HIN.out.num, List.length_singleton]; omega, trail_snoc HIN.out.trail s4 ?_, List.mem_append_right _ HIN.out.frm, fun p hp => List.mem_append_right _ (HIN.out.row p hp), List.mem_append_right _ HIN.out.own, pre', HP'.out, HN'.out.symm, hc', (HPO2.out.more (fun p hp => List.mem_append_right _ hp)).snoc s4 (by rw [HX4.out]; exact HX3.out), H14.out.perm (row_pool [s3.box, s3.evs] pre').symm⟩
            rw [HIN.out.num, show (b ++ fr).take (b.length + 1 + j) = b ++ fr.take (j + 1) by rw [List.take_append, List.take_of_length_le (by omega)]; congr 2; omega, ← List.append_assoc, S.sdos_append, HST.out, HS4.out]
            exact HN3.out)
          clear H13 H14 HN' HP' HX4 HS4 HX3 HG3 HN3
          go_wp2_with fail
          go_roundw
          case rel => exact ⟨j + 1, g', o', n', c', s3, sts2 ++ [s4], K ++ PL2, by omega, rfl, by go_num, HIN2.out⟩
          case measure => simp [intOf]; omega
      · have i2 : ¬ (j : Int) < (mm : Int) := by omega
        obtain rfl : j = mm := by omega
        obtain ⟨hTr2, hB2⟩ := hIn.done (by rw [HM0.out]; exact HMM.out)
        have y0 : wr.cell? ⟨Y, 0, none⟩ = some (.int .i64 q4) :=
          block_cell (hS2.bank.boxM (g := Y) (t := 40) (vs := [.int .i64 q4, .int .i64 d.cell.term, .int .i64 d.cell.vote, .int .i64 d.cell.applied, .int .i64 d.cell.active, .int .i64 d.a, .slice A' n' c']) (by rw [← HQA.out]; exact .tail _ (.tail _ (.tail _ (List.mem_append_right _ hIn.own))))) rfl
        have hst2 : S.sdos S.zero (a ++ (b ++ fr)) = some st2 := by rw [← List.append_assoc, S.sdos_append, HST.out]; exact HDS.out
        have hnum := hIn.num
        have hjf : j = fr.length := by rw [HM0.out]; exact HMM.out
        obtain ⟨lb, hlb⟩ : ∃ lb, lb = b.length + j := ⟨_, rfl⟩
        have hlbm : lb < m := by omega
        have hlbs : lb < sts2.length := by omega
        have hml : m - lb = 1 := by omega
        have hw2 : IntKind.i64.wrap ((m : Int) - 1) = (lb : Int) := by
          have e : (m : Int) - 1 = (lb : Int) := by omega
          rw [e]
          exact IntWalk.i64_in _ (by omega)
        have l0 : (0 : Int) ≤ (lb : Int) := by omega
        have hsl := fun w => slice_from (P := Tryz.prog) Tryz.underlying54 szPtr g o m cp lb hlbm hm2 w
        rw [hml] at hsl
        have HT2 := Lib.hid hTr2; have HB2 := Lib.hid hB2; have HST2 := Lib.hid hst2; have HLB := Lib.hid hlb; have HJF := Lib.hid hjf
        clear hTr2 hB2 hst2 hnum hjf hlb hml hIn hS2 hp2 hl2 hpo2 HIN HS2
        go_upto_if 100 with fail
        go_cut [10] (fun sl wx => ∃ g o m cp, sl = .slice (some ⟨g, o, none⟩) m cp ∧ CrL w D R (dcost (ds.take (k + 1))) (k + 1) Zk g o m cp wx)
        case first =>
          by_cases h3 : q4 = 3
          · have hbe : (q4 == 3) = true := by rw [h3]; rfl
            have HFIN : Hid (CrL w D R (dcost (ds.take (k + 1))) (k + 1) Zk g (o + lb) 1 (cp - lb) wr) := Lib.hid (by
              obtain ⟨hsf, hf0, hs0⟩ := HSF.out.1 h3
              have h4 := HB2.out.last lb hlbs
              have h5 := HT2.out.2 lb hlbs
              rw [hf0, List.append_nil, List.take_of_length_le (by have := HLB.out; omega), HST.out] at h5
              have h6 := HG8.out
              rw [hf0] at h4 h6
              rw [hsf, hs0] at h4
              exact ⟨a ++ b, [], st, [sts2[lb]], PL2, Trail.start _ _ (HST.out.trans h5), by rw [List.append_nil]; exact HST.out, h6, h4⟩)
            go_wp2_with fail
            go_meet
            exact ⟨g, o + lb, 1, cp - lb, rfl, HFIN.out⟩
          · have hbe : (q4 == 3) = false := by rw [beq_eq_false_iff_ne]; exact h3
            have HFIN : Hid (CrL w D R (dcost (ds.take (k + 1))) (k + 1) Zk g o m cp wr) := Lib.hid (by
              have hsf := HSF.out.2 h3
              have h4 := HB2.out
              have h6 := HG8.out
              rw [hsf, List.append_assoc] at h4
              rw [List.append_assoc] at h6
              exact ⟨a, b ++ fr, st2, sts2, PL2, HT2.out, HST2.out, h6, h4⟩)
            go_wp2_with fail
            go_meet
            exact ⟨g, o, m, cp, rfl, HFIN.out⟩
        case rest =>
          obtain ⟨g3, o3, m3, c3, rfl, hL⟩ := hcut
          have HL := Lib.hid hL
          generalize hwc : wc = w15 at *
          clear hwc hL y0 hw2 l0 hsl hlbm hlbs HB2 HT2 HST2 HLB HJF HPO2 HL2 HP2 HSF HQA HFR2 HM0 HMM HDS HG8 HSX HSL HSM H8 HB HTR HST HGF HS0 HSE HNB HLEN HBD HPR HPO hw1 j0 j1 hnbs hnbm hm0
          by_cases hkc : k < Cn
          rotate_left
          · have i3 : (Cn : Int) ≤ (k : Int) := by omega
            go_wp2_with fail
            go_roundw
            case rel => exact ⟨k + 1, Zk, g3, o3, m3, c3, by omega, rfl, rfl, by go_num, HL.out⟩
            case measure => simp [intOf]; omega
          have i3 : ¬ (Cn : Int) ≤ (k : Int) := by omega
          have i3b : (k : Int) < (Cn : Int) := by omega
          obtain ⟨cb, co, cz, hCA, hcz⟩ := HCR.out k hkc
          subst hCA
          have hcz' := cell_since HL.out.since hcz
          clear hcz
          go_wp2_with fail
          refine (Pick_any cz 8 _ (by omega) (by omega)).mono ?_
          rintro e w' ⟨rfl, rfl⟩
          generalize pick cz 8 = q8
          by_cases h8 : q8 = 0
          rotate_left
          · have hne : (q8 != 0) = true := by simp [h8]
            go_wp2_with fail
            go_roundw
            case rel => exact ⟨k + 1, Zk, g3, o3, m3, c3, by omega, rfl, rfl, by go_num, HL.out⟩
            case measure => simp [intOf]; omega
          subst h8
          go_upto_if 121 with fail
          go_cut [17] (fun s17 wx => ∃ kp : Nat, kp ≤ 2000 ∧ s17 = .int .i64 (kp : Int) ∧ wx = w15)
          case first =>
            by_cases hkk : k < Kn
            · have i4 : (k : Int) < (Kn : Int) := by omega
              obtain ⟨kb, ko, kz, hKA, hkz⟩ := HKP.out k hkk
              subst hKA
              have hkz' := cell_since HL.out.since hkz
              clear hkz
              go_wp2_with fail
              refine (Pick_any kz 2000 _ (by omega) (by omega)).mono ?_
              rintro e w' ⟨rfl, rfl⟩
              have hp0 := pick_lo kz 2000 (by omega)
              have hp1 := pick_hi kz 2000 (by omega)
              obtain ⟨kp, hkp⟩ : ∃ kp : Nat, pick kz 2000 = (kp : Int) := ⟨(pick kz 2000).toNat, by omega⟩
              rw [hkp] at hp0 hp1 ⊢
              clear hkp
              go_wp2_with fail
              go_meet
              exact ⟨kp, by omega, rfl, rfl⟩
            · have i4 : ¬ (k : Int) < (Kn : Int) := by omega
              go_wp2_with fail
              go_meet
              exact ⟨0, by omega, rfl, rfl⟩
          case rest =>
            obtain ⟨kp, hkp, rfl, rfl⟩ := hcut
            obtain ⟨a3, b3, st3, sts3, PL3, hT3, hs3, hG3, pre3, hp3, hl3, hm3, hpo3, hS3⟩ := HL.out
            have hb3 := hG3.len hctot (by omega)
            have hb31 := hb3.1
            have HCR2 := Lib.hid (crashD w wc D R 1048576 (F.pbytes (a3 ++ b3)) (F.pbytes a3).length _ kp hS3.df (by omega) (by omega))
            obtain ⟨j3, t3, hj3, ht3, hr3, hf3, hu3⟩ := crash_reads a3 b3 st3 hG3.err hs3 kp
            have hG4 : GF (a3 ++ b3.take j3) (dcost (ds.take (k + 1))) (k + 1) := GF.cut (b := b3.drop j3) (by rw [List.append_assoc, List.take_append_drop]; exact hG3)
            have hbd3 := hG4.st hctot (by omega) ht3
            have hm31 : m3 ≤ 10001 := by
              have h := hb3.2
              have h2 := hT3.1
              rw [List.length_append] at h
              omega
            have hj3s : j3 < sts3.length := by have := hT3.1; omega
            have hj3m : j3 < m3 := by omega
            have htj : sts3[j3].st = t3 := by
              have h := hT3.2 j3 hj3s
              rw [ht3] at h
              exact (Option.some.inj h).symm
            have hsts : ∀ (x : Nat) (hx : x < sts3.length), sts3[x].st.l.length ≤ 10000 ∧ ∀ e ∈ sts3[x].st.l, e.data.length ≤ 50000 := fun x hx => by
              have h := hT3.2 x hx
              have hg : GF (a3 ++ b3.take x) (dcost (ds.take (k + 1))) (k + 1) := GF.cut (b := b3.drop x) (by rw [List.append_assoc, List.take_append_drop]; exact hG3)
              exact hg.st hctot (by omega) h
            have hlc : ((F.pbytes (a3 ++ b3)).take (crashAt (F.pbytes a3).length kp (F.pbytes (a3 ++ b3)).length)).length ≤ 8388608 := by rw [List.length_take]; omega
            have HR3 := Lib.hid hr3; have HF3 := Lib.hid hf3; have HU3 := Lib.hid hu3; have HT3 := Lib.hid ht3; have HG4 := Lib.hid hG4
            have HP3 := Lib.hid hp3; have HL3 := Lib.hid hl3; have HPO3 := Lib.hid hpo3; have HTJ := Lib.hid htj; have HSTS := Lib.hid hsts; have HBD3 := Lib.hid hbd3.2
            have hbd31 := hbd3.1
            have HSC := Lib.hid hS3.since
            clear hr3 hf3 hu3 ht3 hG4 hp3 hl3 hpo3 htj hsts hbd3 hT3 hs3 hG3 hS3 hb3
            go_wp2_with fail
            refine HCR2.out.mono ?_
            rintro e w16 ⟨rfl, h16⟩
            have HOP := Lib.hid (openL w w16 D R 1048576 _ _ _ (a3 ++ b3.take j3) t3 _ h16 hlc HR3.out HF3.out HU3.out)
            clear h16 hlc HCR2 HR3 HF3 HU3 hcz'
            go_wp2_with fail
            refine HOP.out.mono ?_
            rintro e w17 ⟨Z3, rfl, h17⟩
            have HB3 : Hid (CrB w D R (a3 ++ b3.take j3) (F.pbytes (a3 ++ b3.take j3)).length Z3 t3 g3 o3 m3 c3 sts3 [] PL3 w17) := Lib.hid ⟨pre3, HP3.out, HL3.out, hm3, HPO3.out, h17⟩
            clear h17 HOP
            go_wp2_with fail
            go_loopw [20, 21] (fun l kk wr => ∃ (k3 : Nat) (lf : Int), k3 ≤ m3 ∧ l = .int .i64 lf ∧ kk = .int .i64 (k3 : Int) ∧ LeftI sts3 t3 j3 k3 lf ∧ CrB w D R (a3 ++ b3.take j3) (F.pbytes (a3 ++ b3.take j3)).length Z3 t3 g3 o3 m3 c3 sts3 [] PL3 wr) (fun _ kk _ => m3 - (intOf kk).toNat)
            case atStart => exact ⟨0, -1, by omega, rfl, rfl, .inl ⟨rfl, Nat.zero_le _⟩, HB3.out⟩
            case round =>
              clear HB3
              obtain ⟨k3, lf, hk3, rfl, rfl, hLf, hB3⟩ := hrel
              have k30 : (0 : Int) ≤ (k3 : Int) := by omega
              have HB3 := Lib.hid hB3; have HLF := Lib.hid hLf
              rcases Nat.lt_or_ge k3 m3 with h3 | h3
              · have i4 : (k3 : Int) < (m3 : Int) := by omega
                have hk3s : k3 < sts3.length := by rw [HL3.out]; exact h3
                have p3 := hB3.at' k3 hk3s
                obtain ⟨s3, hs3⟩ : ∃ s, s = sts3[k3] := ⟨_, rfl⟩
                obtain ⟨_, _, hc3, he3⟩ := hB3.mem (s := s3) (by rw [hs3]; exact List.getElem_mem hk3s)
                rw [← hs3] at p3
                have hbs := HSTS.out k3 hk3s
                rw [← hs3] at hbs
                have HLK := Lib.hid (like_dec w wr D R 1048576 (a3 ++ b3.take j3) _ Z3 t3 _ s3.G s3.st s3.A s3.xs.length s3.cE hB3.choose_spec.2.2.2.2 hc3 (by simp [SR.st]) he3 (by omega) (fun e he => by have := HBD3.out e he; omega) (fun e he => by have := hbs.2 e he; omega))
                have HS3 := Lib.hid hs3
                clear hB3 hLf hc3 he3 hbs hs3
                go_wp2_with fail
                refine HLK.out.mono ?_
                rintro e w18 ⟨bb, hbb, rfl, hs18⟩
                have HBB := Lib.hid hbb
                have HB4 := Lib.hid (HB3.out.call hs18)
                clear hbb hs18 HLK p3
                cases bb with
                | false =>
                  have HLN := Lib.hid (HLF.out.no hj3s HTJ.out hk3s (fun h => by rw [← HS3.out] at h; exact absurd (HBB.out.2 h) (by decide)))
                  go_wp2_with fail
                  go_roundw
                  case rel => exact ⟨k3 + 1, lf, by omega, rfl, by go_num, HLN.out, HB4.out⟩
                  case measure => simp [intOf]; omega
                | true =>
                  have HLN := Lib.hid (LeftI.yes (t := t3) (j := j3) hk3s (show t3 = sts3[k3].st by rw [← HS3.out]; exact HBB.out.1 rfl))
                  go_wp2_with fail
                  go_roundw
                  case rel => exact ⟨k3 + 1, (k3 : Int), by omega, rfl, by go_num, HLN.out, HB4.out⟩
                  case measure => simp [intOf]; omega
              · have i4 : ¬ (k3 : Int) < (m3 : Int) := by omega
                obtain rfl : k3 = m3 := by omega
                have hex : ∃ x : Nat, lf = (x : Int) ∧ x < k3 ∧ ∃ h : x < sts3.length, sts3[x].st = t3 := by
                  rcases hLf with ⟨_, h⟩ | h
                  · omega
                  · exact h
                obtain ⟨x, rfl, hxk, hxs, hxt⟩ := hex
                have x0 : ¬ (x : Int) < 0 := by omega
                have x1 : (0 : Int) ≤ (x : Int) := by omega
                have hwx : IntKind.i64.wrap ((x : Int) + 1) = (x : Int) + 1 := IntWalk.i64_in _ (by omega)
                have hsl : ∀ w, (Instr.slice 54 (.slice (some ⟨g3, o3, none⟩) k3 c3) (some (.int .i64 (x : Int))) (some (.int .i64 ((x : Int) + 1))) Option.none).run Tryz.prog w = .ok (.slice (some ⟨g3, o3 + x, none⟩) 1 (c3 - x)) w := fun w => by
                  have h := slice_mid (P := Tryz.prog) Tryz.underlying54 szPtr g3 o3 k3 c3 x (x + 1) (by omega) (by omega) hm3 (by omega) w
                  rw [show ((x + 1 : Nat) : Int) = (x : Int) + 1 by omega, show x + 1 - x = 1 by omega] at h
                  exact h
                have HFIN : Hid (CrL w D R (dcost (ds.take (k + 1))) (k + 1) Z3 g3 (o3 + x) 1 (c3 - x) wr) := Lib.hid (by
                  have h4 := hB3.last x hxs
                  refine ⟨a3 ++ b3.take j3, [], t3, [sts3[x]], PL3, Trail.start _ _ (by rw [hxt]; exact HT3.out), by rw [List.append_nil]; exact HT3.out, by rw [List.append_nil]; exact HG4.out, ?_⟩
                  rw [List.append_nil]
                  exact h4)
                clear hB3 hLf hxt HB3 HLF
                go_wp2_with fail
                go_roundw
                case rel => exact ⟨k + 1, Z3, g3, o3 + x, 1, c3 - x, by omega, rfl, rfl, by go_num, HFIN.out⟩
                case measure => simp [intOf]; omega
end Go.Proofs.YtfpjmeknjhhakaaGreat.K
