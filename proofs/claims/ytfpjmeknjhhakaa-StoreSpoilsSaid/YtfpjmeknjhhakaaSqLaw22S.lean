/- (made by genspoils.py) The contract of StoreSpoils. -/
import Derived.Test.YtfpjmeknjhhakaaSqDeedCost
import Derived.Test.YtfpjmeknjhhakaaSqRefRead
import Derived.Test.YtfpjmeknjhhakaaSqLaw22W
namespace Go.Proofs.Ytfpjmeknjhhakaa.K
open Go Go.RowKit Go.Maps

/-- entries' numbers are int's -/
def EntsIn (es : List M.Ent) : Prop := ∀ e ∈ es, M.inI64 e.term ∧ M.inI64 e.version ∧ M.inI64 e.server
theorem EntsIn.ok {es : List M.Ent} (h : EntsIn es) (hc : ecost es ≤ 1000000) : ∀ e ∈ es, e.Ok := fun e he => by
  obtain ⟨h1, h2, h3⟩ := h e he
  have := ecost_mem he
  exact ⟨h1, h2, h3, by omega⟩
theorem Bank.rowSetS {w0 w : World} {L : List Acc} (h : Bank w0 w L) (i : Nat) {g N c : Nat} {bs : List (BitVec 8)} (hi : L[i]? = some (rowAcc (some ⟨g, 0, Option.none⟩) N c bs)) (j : Nat) (v : BitVec 8) : Bank w0 (w.setCell ⟨g, j, Option.none⟩ (B8 v)) (L.set i (rowAcc (some ⟨g, 0, Option.none⟩) N c (bs.set j v))) := by
  obtain ⟨ho, hg⟩ := (h.at i hi).stored j (B8 v)
  refine h.put i hi ?_ hg (.inl rfl)
  rw [show (rowAcc (some ⟨g, 0, Option.none⟩) N c bs).xs.set j (B8 v) = bv (bs.set j v) by simp [rowAcc, bv, List.map_set]] at ho
  exact ho
theorem pbytes_mem {fs : List F.Fr} {f : F.Fr} (h : f ∈ fs) : f.data.length ≤ (F.pbytes fs).length := by
  induction fs with
  | nil => cases h
  | cons x fs ih =>
    rw [F.pbytes_cons, List.length_append, F.one_length]
    rcases List.mem_cons.1 h with rfl | h
    · omega
    · have := ih h; omega
/-- where the store stands behind some deeds -/
def SpL (w : World) (D R Z : Nat) (ds : List Deed) (k : Nat) (wr : World) : Prop := ∃ fs sf st, LS w wr D R 1048576 fs sf Z st [] ∧ Good fs st (dcost (ds.take k)) k
set_option maxHeartbeats 8000000 in
set_option maxRecDepth 100000 in
theorem StoreSpoils_any (A : Option Addr) (n c : Nat) (ds : List Deed) (at' : Int) (y : BitVec 8) (w : World) (hD : DeedsRd w A ds) (hn : ds.length = n) (hn2 : n ≤ 9000000000000) (hI : ∀ d ∈ ds, EntsIn d.es) :
    Calls Try.prog 10 #[.slice A n c, .int .i64 at', B8 y] w (AwPost w) := by
  have HD := Lib.hid hD; have HN := Lib.hid hn; have HI := Lib.hid hI
  clear hD hn hI
  go_enter Try.func10, Try.ntmps10
  go_wp2_with fail
  refine (awake22_any _).mono ?_
  rintro e w1 ⟨rfl, hs1⟩
  have S1 := Lib.hid hs1
  clear hs1
  go_wp2_with fail
  refine (light_any A n c ds w1 (HD.out.since S1.out) HN.out hn2).mono ?_
  rintro e w' ⟨rfl, rfl⟩
  obtain ⟨bl, hbl⟩ : ∃ b, b = light ds := ⟨_, rfl⟩
  rw [← hbl]
  have HBL := Lib.hid hbl
  clear hbl
  cases bl with
  | false =>
    go_wp2
    go_ret
    exact ⟨rfl, S1.out⟩
  | true =>
  have HC := Lib.hid (light_cost HBL.out.symm)
  have hn60 : n ≤ 60 := by rw [← HN.out]; exact HC.out.1
  go_wp2_with fail
  refine (newL w w1 [] 1048576 (Bank.nil S1.out) (by omega)).mono ?_
  rintro e w2 ⟨D, R, rfl, h2⟩
  have HO := Lib.hid (openL w w2 D R 1048576 [] 0 [] [] S.zero 0 h2 (by simp) sread_nil rfl (Nat.le_refl _))
  clear h2 S1 HBL
  go_wp2_with fail
  refine HO.out.mono ?_
  rintro e w3 ⟨Z, rfl, h3⟩
  have H3 := Lib.hid h3
  clear h3 HO
  go_wp2_with fail
  go_loopw [10] (fun i wr => ∃ k : Nat, k ≤ n ∧ i = .int .i64 (k : Int) ∧ SpL w D R Z ds k wr) (fun i _ => n - (intOf i).toNat)
  case atStart => exact ⟨0, by omega, rfl, [], 0, S.zero, H3.out, Good.start⟩
  case round =>
    clear H3
    obtain ⟨k, hk, rfl, fs, sf, st, hS, hG⟩ := hrel
    have k0 : (0 : Int) ≤ (k : Int) := by omega
    have H4 := Lib.hid hS; have HG := Lib.hid hG
    clear hS hG
    rcases Nat.lt_or_ge k n with h1 | h1
    · have i1 : (k : Int) < (n : Int) := by omega
      have hkd : k < ds.length := by rw [HN.out]; exact h1
      obtain ⟨b, o, rfl, A', n', c', x0, x1, x2, x3, x4, x5, x6, hE, hEl, hn'⟩ := HD.out k hkd
      obtain ⟨d, hd⟩ : ∃ d, d = ds[k] := ⟨_, rfl⟩
      rw [← hd] at x0 x1 x2 x3 x4 hE hEl
      have hcst : dcost (ds.take (k + 1)) = dcost (ds.take k) + ecost d.es := by rw [dcost_take ds k hkd, hd]
      have hctot : dcost (ds.take (k + 1)) < 6000 := Nat.lt_of_le_of_lt (dcost_le ds (k + 1)) HC.out.2
      have hck : dcost (ds.take k) < 6000 := Nat.lt_of_le_of_lt (dcost_le ds k) HC.out.2
      have hin : EntsIn d.es := HI.out d (by rw [hd]; exact List.getElem_mem hkd)
      have HE := Lib.hid (hE.since H4.out.since); have HEL := Lib.hid hEl; have HCS := Lib.hid hcst; have HIN := Lib.hid hin
      have hec : ecost d.es ≤ 6000 := by omega
      have hel : d.es.length * 10 ≤ ecost d.es := ecost_len d.es
      have hby := HG.out.bytes
      have hle := HG.out.len
      have X6W := Lib.hid x6
      have hs4 := H4.out.since
      replace x0 := cell_since hs4 x0
      replace x1 := cell_since hs4 x1
      replace x2 := cell_since hs4 x2
      replace x3 := cell_since hs4 x3
      replace x4 := cell_since hs4 x4
      replace x5 := cell_since hs4 x5
      replace x6 := cell_since hs4 x6
      clear hE hcst hin hd hs4
      go_wp2_with fail
      refine (Pick_any d.kind 4 _ (by omega) (by omega)).mono ?_
      rintro e w' ⟨rfl, rfl⟩
      by_cases hp : pick d.kind 4 = 0
      · rw [hp]
        have hbeq : ((0 : Int) == 0) = true := rfl
        obtain ⟨bm, hbm⟩ : ∃ b, b = S.may d.cell := ⟨_, rfl⟩
        cases bm with
        | false =>
          have HK := Lib.hid (keepBad w wr D R 1048576 fs sf Z st [] d.cell H4.out hbm.symm)
          clear hbm
          go_wp2_with fail
          refine HK.out.mono ?_
          rintro e w5 ⟨rfl, h5⟩
          have HFIN := Lib.hid (show SpL w D R Z ds (k + 1) w5 from ⟨fs, sf, st, h5, HG.out.more (by rw [HCS.out]; omega) (by omega)⟩)
          clear h5 HK
          go_wp2_with fail
          go_roundw
          case rel => exact ⟨k + 1, by omega, by go_num, HFIN.out⟩
          case measure => simp [intOf]; omega
        | true =>
          have HBM := Lib.hid hbm.symm
          have HK := Lib.hid (keepL w wr D R 1048576 fs sf Z st [] d.cell H4.out hbm.symm (by omega) (by omega) (by omega))
          clear hbm
          go_wp2_with fail
          refine HK.out.mono ?_
          rintro e w5 ⟨rfl, h5⟩
          have HFIN := Lib.hid (show SpL w D R Z ds (k + 1) w5 from ⟨_, sf, _, h5, (HG.out.keep d.cell HBM.out).more (by rw [HCS.out]; omega) (Nat.le_refl _)⟩)
          clear h5 HK
          go_wp2_with fail
          go_roundw
          case rel => exact ⟨k + 1, by omega, by go_num, HFIN.out⟩
          case measure => simp [intOf]; omega
      · have hbeq : (pick d.kind 4 == 0) = false := by rw [beq_eq_false_iff_ne]; exact hp
        clear x0 x1 x2 x3 x4 x5
        go_upto_region 14 with fail
        have hd0 : Since wr wr.drew := (Below.refl wr.heap.size wr).drew
        have H5 := Lib.hid (H4.out.call hd0)
        have S5 := Lib.hid hd0
        refine WL.region (SApp 99 (fun _ => True) (fun w' => w'.cell? ⟨b, o + k * 7 + 6, none⟩ = some (.slice A' n' c'))) (by kernel_rfl) ?_
        intro hsh
        have hS : SApp 99 (fun _ => True) (fun w' => w'.cell? ⟨b, o + k * 7 + 6, none⟩ = some (.slice A' n' c')) (Array.replicate 11 false) wr.drew := ⟨fun _ => trivial, cell_since hd0 x6⟩
        clear x6 H4 hd0
        refine WL.take (i := 0) (v := ?_) (S0 := fun _ => True) rfl (by kernel_rfl) (by kernel_rfl) (by kernel_rfl) (fun _ _ _ h => h) (SApp.hm (by decide)) (SApp.any) hsh (Or.inl ⟨by rfl, ?_⟩) hS ?_
        rotate_left
        · intro w hSw; clear hSw; go_simp <;> rfl
        clear hsh hS; intro hsh hS
        try simp only [Act.put, List.setIfInBounds_toArray, List.set_cons_zero, List.set_cons_succ]
        refine WL.take (i := 1) (v := ?_) (S0 := fun _ => True) rfl (by kernel_rfl) (by kernel_rfl) (by kernel_rfl) (fun _ _ _ h => h) (SApp.hm (by decide)) (SApp.any) hsh (Or.inl ⟨by rfl, ?_⟩) hS ?_
        rotate_left
        · intro w hSw; clear hSw; go_simp <;> rfl
        clear hsh hS; intro hsh hS
        try simp only [Act.put, List.setIfInBounds_toArray, List.set_cons_zero, List.set_cons_succ]
        refine WL.take (i := 5) (v := ?_) (S0 := fun _ => True) rfl (by kernel_rfl) (by kernel_rfl) (by kernel_rfl) (fun _ _ _ h => h) (SApp.hm (by decide)) (SApp.any) hsh (Or.inl ⟨by rfl, ?_⟩) hS ?_
        rotate_left
        · intro w hSw; clear hSw; go_simp <;> rfl
        clear hsh hS; intro hsh hS
        try simp only [Act.put, List.setIfInBounds_toArray, List.set_cons_zero, List.set_cons_succ]
        refine WL.take (i := 6) (v := ?_) (S0 := fun _ => True) rfl (by kernel_rfl) (by kernel_rfl) (by kernel_rfl) (fun _ _ _ h => h) (SApp.hm (by decide)) (SApp.any) hsh (Or.inl ⟨by rfl, ?_⟩) hS ?_
        rotate_left
        · intro w hSw; clear hSw; go_simp <;> rfl
        clear hsh hS; intro hsh hS
        try simp only [Act.put, List.setIfInBounds_toArray, List.set_cons_zero, List.set_cons_succ]
        refine WL.take (i := 7) (v := ?_) (S0 := fun _ => True) rfl (by kernel_rfl) (by kernel_rfl) (by kernel_rfl) (fun _ _ _ h => h) (SApp.hm (by decide)) (SApp.any) hsh (Or.inl ⟨by rfl, ?_⟩) hS ?_
        rotate_left
        · intro w hSw; clear hSw; go_simp <;> rfl
        clear hsh hS; intro hsh hS
        try simp only [Act.put, List.setIfInBounds_toArray, List.set_cons_zero, List.set_cons_succ]
        refine WL.take (i := 8) (v := ?_) (S0 := fun _ => True) rfl (by kernel_rfl) (by kernel_rfl) (by kernel_rfl) (fun _ _ _ h => h) (SApp.hm (by decide)) (SApp.any) hsh (Or.inl ⟨by rfl, ?_⟩) hS ?_
        rotate_left
        · intro w hSw; clear hSw; go_simp <;> rfl
        clear hsh hS; intro hsh hS
        try simp only [Act.put, List.setIfInBounds_toArray, List.set_cons_zero, List.set_cons_succ]
        refine WL.take (i := 9) (v := ?_) rfl (by kernel_rfl) (by kernel_rfl) (by kernel_rfl) (fun _ _ _ h => h) (SApp.hm (by decide)) (SApp.right) hsh (Or.inl ⟨by rfl, ?_⟩) hS ?_
        rotate_left
        · intro w hSw; go_simp <;> rfl
        clear hsh hS; intro hsh hS
        try simp only [Act.put, List.setIfInBounds_toArray, List.set_cons_zero, List.set_cons_succ]
        have HSH := Lib.hid hsh
        clear hsh hS
        refine WL.one (i := 2) HSH.out (by kernel_rfl) rfl ?_
        intro K hK
        have HK := Lib.hid hK
        clear hK
        go_simp
        refine (entsL w _ D R 1048576 fs sf Z st [] H5.out (by omega) (fun e he => by have := HG.out.small e he; omega)).mono ?_
        rintro e w6 ⟨A6, n6, c6, ys, rfl, hy1, hy2, hB⟩
        obtain rfl : n6 = st.l.length := by rw [← hy2, ← hy1, List.length_map]
        have H6 := Lib.hid (H5.out.call hB.since)
        have S6 := Lib.hid (S5.out.add hB.since)
        have hwl : IntKind.i64.wrap ((st.l.length : Int) + 1) = (st.l.length : Int) + 1 := IntWalk.i64_in _ (by omega)
        clear hy1 hy2 hB H5 S5
        refine HK.out _ _ (SApp.intro (fun _ => trivial) (cell_since H6.out.since X6W.out)) ?_
        clear K HK HSH
        intro hsh hS
        try simp only [Act.put, List.setIfInBounds_toArray, List.set_cons_zero, List.set_cons_succ]
        refine WL.take (i := 3) (v := ?_) (S0 := fun _ => True) rfl (by kernel_rfl) (by kernel_rfl) (by kernel_rfl) (fun _ _ _ h => h) (SApp.hm (by decide)) (SApp.any) hsh (Or.inl ⟨by rfl, ?_⟩) hS ?_
        rotate_left
        · intro w hSw; clear hSw; go_simp <;> rfl
        clear hsh hS; intro hsh hS
        try simp only [Act.put, List.setIfInBounds_toArray, List.set_cons_zero, List.set_cons_succ]
        refine WL.take (i := 4) (v := ?_) (S0 := fun _ => True) rfl (by kernel_rfl) (by kernel_rfl) (by kernel_rfl) (fun _ _ _ h => h) (SApp.hm (by decide)) (SApp.any) hsh (Or.inl ⟨by rfl, ?_⟩) hS ?_
        rotate_left
        · intro w hSw; clear hSw; go_simp <;> rfl
        clear hsh hS; intro hsh hS
        try simp only [Act.put, List.setIfInBounds_toArray, List.set_cons_zero, List.set_cons_succ]
        have HSH := Lib.hid hsh
        clear hsh hS
        refine WL.one (i := 10) HSH.out (by kernel_rfl) rfl ?_
        intro K hK
        have HK := Lib.hid hK
        clear hK
        go_simp
        refine (appL w w6 D R 1048576 fs sf Z st [] ((st.l.length : Int) + 1) A' n' c' d.es H6.out HEL.out (HE.out.since S6.out) (HIN.out.ok (by omega)) (fun e he => by have := ecost_mem he; omega) (by have := puts_bytes d.es ((st.l.length : Int) + 1); omega) (by omega) (by have h := HEL.out; omega)).mono ?_
        rintro e w7 (⟨h, _⟩ | ⟨hi, rfl, h7⟩)
        · exfalso
          omega
        have HFIN := Lib.hid (show SpL w D R Z ds (k + 1) w7 from ⟨_, sf, _, h7, by
          have h := HG.out.app ((st.l.length : Int) + 1) d.es hi (HIN.out.ok (by omega)) hec (by omega)
          rw [← HCS.out] at h
          exact h.more (Nat.le_refl _) (by omega)⟩)
        have S7 := Lib.hid h7.since
        clear h7 hi H6
        refine HK.out _ _ (SApp.intro (fun _ => trivial) (cell_since S7.out X6W.out)) ?_
        clear K HK HSH
        intro hsh hS
        try simp only [Act.put, List.setIfInBounds_toArray, List.set_cons_zero, List.set_cons_succ]
        refine WL.done (by kernel_rfl) ?_ _
        simp only [Exit.then, Exit.inBlock]
        go_wp2_with fail
        go_roundw
        case rel => exact ⟨k + 1, by omega, by go_num, HFIN.out⟩
        case measure => simp [intOf]; omega
    · have i1 : ¬ (k : Int) < (n : Int) := by omega
      obtain rfl : k = n := by omega
      have hby := HG.out.bytes
      have hck : dcost (ds.take k) < 6000 := Nat.lt_of_le_of_lt (dcost_le ds k) HC.out.2
      have hlb : (F.pbytes fs).length ≤ 50000 := by omega
      have HLB := Lib.hid hlb
      have HRD := Lib.hid (readD w wr D R 1048576 _ _ [] H4.out.df (by omega))
      clear hby hck H4 hlb
      unfold storeS at HRD
      go_wp2_with fail
      refine HRD.out.mono ?_
      rintro e w5 ⟨A5, n5, c5, kk, rfl, h5⟩
      have b5 := h5.bank
      have hr5 : RowRd w5 ⟨A5, n5, c5⟩ (F.pbytes fs) := b5.row 0 rfl
      have hbd := row_bounds (b5.at 0 rfl)
      have hl5 : (F.pbytes fs).length = n5 := hr5.len
      have hn5 : n5 ≤ 50000 := by have := HLB.out; omega
      have HSC := Lib.hid (rscan_any A5 n5 c5 (F.pbytes fs) w5 hr5 hbd.1 hbd.2.1 (by omega))
      have B5 := Lib.hid b5; have HL5 := Lib.hid hl5
      clear h5 b5 hr5 hbd hl5 HRD
      go_wp2_with fail
      refine HSC.out.mono ?_
      rintro e w6 ⟨ps, Fa, cF, u, s, rfl, hsc, hu, hp9, hB⟩
      have hsp := F.scan_put fs HG.out.err []
      rw [List.append_nil, F.scan_nil] at hsp
      simp only [List.append_nil, Nat.add_zero] at hsp
      rw [hsp] at hsc
      simp only [Prod.mk.injEq] at hsc
      obtain ⟨hps, hun, hss⟩ := hsc
      obtain rfl : u = n5 := by rw [← hun]; exact HL5.out
      subst hss
      have B6 := Lib.hid (bank_underS B5.out hB)
      have HPS := Lib.hid hps
      obtain ⟨m, hm⟩ : ∃ m, m = ps.length := ⟨_, rfl⟩
      have HM := Lib.hid hm
      have hm9 : m * 9 ≤ u := by rw [hm]; exact hp9
      rw [← hm]
      clear hsp hps hun hu hp9 hB B5 HSC hm
      by_cases hm0 : m = 0
      · subst hm0
        have HFIN := Lib.hid B6.out.since
        go_wp2
        go_ret
        exact ⟨rfl, HFIN.out⟩
      have hm1 : ¬ (m : Int) = 0 := by omega
      have hy0 : ∀ t, binOp .eql t (B8 y) (.int .u8 0) = pure (.bool (y == 0#8)) := fun t => B8_eql t y 0#8
      by_cases hy : y = 0#8
      · have hyb : (y == 0#8) = true := by simp [hy]
        have HFIN := Lib.hid B6.out.since
        rw [hyb] at hy0
        clear hyb hy
        go_wp2
        go_ret
        exact ⟨rfl, HFIN.out⟩
      have hyb : (y == 0#8) = false := by simp [hy]
      rw [hyb] at hy0
      have HY := Lib.hid hy
      clear hyb hy
      go_wp2_with fail
      refine (Pick_any at' (m : Int) w6 (by omega) (by omega)).mono ?_
      rintro e w' ⟨rfl, rfl⟩
      have hq0 := pick_lo at' (m : Int) (by omega)
      have hq1 := pick_hi at' (m : Int) (by omega)
      obtain ⟨q, hq⟩ : ∃ q : Nat, pick at' (m : Int) = (q : Int) := ⟨(pick at' (m : Int)).toNat, by omega⟩
      rw [hq] at hq0 hq1
      rw [hq]
      have hqm : q < m := by omega
      clear hq hq0 hq1 hy0
      have HAT : Hid (∀ j, (hj : j < m) → ∃ (g : Nat) (D : Option Addr) (nn cc : Nat), Fa = some ⟨g, 0, none⟩ ∧ w6.cell? ⟨g, j * 2 + 1, none⟩ = some (.slice D nn cc) ∧ (fs.getD j ⟨0, []⟩).data.length = nn ∧ 4 ≤ nn ∧ nn ≤ 50000) := Lib.hid (fun j hj => by
        have hj' : j < ps.length := by rw [← HM.out]; exact hj
        obtain ⟨g, h0, _, h1, h2⟩ := rfr_at B6.out (.head _) (fun p hp => .tail _ (List.mem_append_left _ (List.mem_map.2 ⟨p, by simpa using hp, rfl⟩))) j hj'
        have hfj : fs.getD j ⟨0, []⟩ = ps[j].fr := by rw [HPS.out, List.getD_eq_getElem?_getD, List.getElem?_map, List.getElem?_eq_getElem hj']; rfl
        have hmem : ps[j].fr ∈ fs := by rw [HPS.out]; exact List.mem_map.2 ⟨_, List.getElem_mem hj', rfl⟩
        have h3 : ps[j].bs.length = ps[j].x.n := h2.len
        have h4 : 4 ≤ ps[j].bs.length := HG.out.long _ hmem
        have h5 : ps[j].bs.length ≤ (F.pbytes fs).length := pbytes_mem hmem
        have h7 := HLB.out
        exact ⟨g, _, _, _, h0, h1, by rw [hfj]; exact h3, by omega, by omega⟩)
      have HFL := Lib.hid (show fs.length = m by rw [HPS.out, List.length_map, HM.out])
      go_wp2_with fail
      go_loop [17, 18] (fun v i => ∃ j : Nat, j ≤ q ∧ i = .int .i64 (j : Int) ∧ v = .int .i64 ((F.pbytes (fs.take j)).length : Int)) (fun _ i => q - (intOf i).toNat)
      case atStart => exact ⟨0, by omega, rfl, rfl⟩
      case round =>
        obtain ⟨j, hj, rfl, rfl⟩ := hrel
        have j0 : (0 : Int) ≤ (j : Int) := by omega
        rcases Nat.lt_or_ge j q with h2 | h2
        · have i2 : (j : Int) < (q : Int) := by omega
          have i3 : (j : Int) < (m : Int) := by omega
          obtain ⟨g, Dj, nj, cj, rfl, y1, hd1, hd2, hd3⟩ := HAT.out j (by omega)
          have hpt : (F.pbytes (fs.take (j + 1))).length = (F.pbytes (fs.take j)).length + 9 + nj := by
            have hj2 : j < fs.length := by rw [HFL.out]; omega
            rw [pbytes_take fs j hj2, List.length_append, F.one_length, ← hd1]
            simp only [List.getD_eq_getElem?_getD, List.getElem?_eq_getElem hj2, Option.getD_some]
            omega
          have hle : (F.pbytes (fs.take j)).length ≤ 50000 := Nat.le_trans (pbytes_take_le fs j) HLB.out
          obtain ⟨l, hl⟩ : ∃ l, l = (F.pbytes (fs.take j)).length := ⟨_, rfl⟩
          rw [← hl] at hpt hle
          rw [← hl]
          have HPT := Lib.hid hpt
          clear hpt hl hd1 HAT
          go_wp2
          go_round
          case rel => exact ⟨j + 1, by omega, by go_num, by rw [HPT.out]; go_num⟩
          case measure => simp [intOf]; omega
        · have i2 : ¬ (j : Int) < (q : Int) := by omega
          obtain rfl : j = q := by omega
          have i3 : (j : Int) < (m : Int) := by omega
          obtain ⟨g, Dj, nj, cj, rfl, y1, hd1, hd2, hd3⟩ := HAT.out j hqm
          have hj2 : j < fs.length := by rw [HFL.out]; omega
          have hnj0 : ¬ (nj : Int) = 0 := by omega
          have hfjd : (fs[j]).data.length = nj := by rw [← hd1]; simp only [List.getD_eq_getElem?_getD, List.getElem?_eq_getElem hj2, Option.getD_some]
          have HFJ := Lib.hid hfjd
          have HPT := Lib.hid (show (F.pbytes (fs.take (j + 1))).length = (F.pbytes (fs.take j)).length + 9 + nj by
            rw [pbytes_take fs j hj2, List.length_append, F.one_length, hfjd]
            omega)
          have HTK1 := Lib.hid (pbytes_take_le fs (j + 1))
          obtain ⟨l, hl⟩ : ∃ l, l = (F.pbytes (fs.take j)).length := ⟨_, rfl⟩
          rw [← hl] at HPT
          rw [← hl]
          have HLL := Lib.hid hl
          have hlu : l + 9 + nj ≤ u := by have h1 := HPT.out; have h2 := HTK1.out; have h3 := HL5.out; omega
          clear hl hd1 HAT hfjd
          go_wp2_with fail
          generalize wrap64 (at'.tdiv 7) = zz at *
          refine (Pick_any zz (nj : Int) w6 (by omega) (by omega)).mono ?_
          rintro e w' ⟨rfl, rfl⟩
          have ht0 := pick_lo zz (nj : Int) (by omega)
          have ht1 := pick_hi zz (nj : Int) (by omega)
          obtain ⟨t, ht⟩ : ∃ t : Nat, pick zz (nj : Int) = (t : Int) := ⟨(pick zz (nj : Int)).toNat, by omega⟩
          rw [ht] at ht0 ht1
          rw [ht]
          have htn : t < nj := by omega
          have br : Bank w w6 [rowAcc A5 u c5 (F.pbytes fs)] := B6.out.sub (List.sublist_append_right _ _)
          obtain ⟨gb, rfl⟩ := own_someB (br.at 0 rfl) (show 0 < u by omega)
          obtain ⟨x, hx⟩ : ∃ x, x = (F.pbytes fs).getD (l + 9 + t) 0 := ⟨_, rfl⟩
          have hxg : (F.pbytes fs)[l + 9 + t]? = some x := by
            have hlt : l + 9 + t < (F.pbytes fs).length := by have := HL5.out; omega
            rw [hx, List.getD_eq_getElem?_getD, List.getElem?_eq_getElem hlt]; rfl
          have hcl : w6.cell? ⟨gb, l + 9 + t, none⟩ = some (B8 x) := ((br.at 0 rfl).cellAt (l + 9 + t) (by show _ < u * 1; omega)).trans (by show (bv (F.pbytes fs))[l + 9 + t]? = _; simp [bv, hxg])
          have hfr : w6.frozen? ⟨gb, l + 9 + t, none⟩ = false := World.ownsRow.frozenAt (br.at 0 rfl) _
          have BR := Lib.hid (br.rowSetS 0 rfl (l + 9 + t) (x ^^^ y))
          have hsplit : fs = fs.take j ++ fs[j] :: fs.drop (j + 1) := by rw [← List.drop_eq_getElem_cons hj2, List.take_append_drop]
          have hturn := S.sread_turned (fs.take j) fs[j] (fs.drop (j + 1)) (by rw [← hsplit]; exact HG.out.err) t (by rw [HFJ.out]; exact htn) (by rw [HFJ.out]; exact hd2) y HY.out
          rw [← hsplit, ← HLL.out, ← hx] at hturn
          have HSR : Hid (S.sread ((F.pbytes fs).set (l + 9 + t) (x ^^^ y)) = none) := Lib.hid (by unfold S.sread; rw [if_pos hturn])
          clear ht ht0 ht1 hx hxg hsplit hturn br y1
          go_wp2_with (with_reducible refine wpList_store_one rfl 5 (.tmp 133) (.tmp 132) rfl ⟨gb, l + 9 + t, none⟩ (B8 (x ^^^ y)) _ rfl rfl rfl (by kernel_rfl) hcl hfr ?_)
          clear hcl hfr
          obtain ⟨w7, hw7⟩ : ∃ w7, w7 = w6.setCell ⟨gb, l + 9 + t, none⟩ (B8 (x ^^^ y)) := ⟨_, rfl⟩
          rw [← hw7] at BR
          rw [← hw7]
          clear hw7
          obtain ⟨bs, hbs⟩ : ∃ bs, bs = (F.pbytes fs).set (l + 9 + t) (x ^^^ y) := ⟨_, rfl⟩
          rw [← hbs] at BR HSR
          clear hbs
          have HNW := Lib.hid (New_any w w7 _ 1048576 BR.out (by omega))
          clear BR B6
          refine HNW.out.mono ?_
          rintro e w8 ⟨D2, R2, rfl, h8⟩
          have hrow8 : RowRd w8 ⟨some ⟨gb, 0, none⟩, u, c5⟩ bs := h8.row 0 rfl
          have HAP := Lib.hid (appN_any w w8 D2 R2 1048576 _ (some ⟨gb, 0, none⟩) u c5 bs h8 hrow8 (by omega))
          clear h8 hrow8 HNW
          unfold storeS at HAP
          go_wp2_with fail
          refine HAP.out.mono ?_
          rintro e w9 (⟨k1, _⟩ | ⟨_, k1, _⟩ | ⟨_, _, rfl, g9, A9, c9, h9⟩)
          · exfalso
            have h : 8388608 < 0 + u := k1
            omega
          · exfalso
            have h : (1048576 : Int) < ((0 + u : Nat) : Int) := k1
            omega
          have HOP := Lib.hid (open_some w w9 D2 R2 1048576 _ _ h9 (by show 0 + u ≤ _; omega))
          clear h9 HAP
          go_wp2_with fail
          refine HOP.out.mono ?_
          rintro e w10 (⟨k1, rfl, h10⟩ | ⟨st5, u5, o5, Z5, c5', A5', cE5, xs5, k1, _⟩)
          · have HFIN := Lib.hid h10.since
            clear k1 h10 HOP
            go_wp2
            go_ret
            exact ⟨rfl, HFIN.out⟩
          · exfalso
            have k2 : S.sread bs = some (st5, u5) := k1
            rw [HSR.out] at k2
            cases k2
end Go.Proofs.Ytfpjmeknjhhakaa.K
