/- The contract of StoreReads. -/
import Derived.Test.YtfpjmeknjhhakaaSqRefRead
import Derived.Test.YtfpjmeknjhhakaaSqLaw22W
namespace Go.Proofs.Ytfpjmeknjhhakaa.K
open Go Go.RowKit Go.Maps

theorem slice_take {w : World} {B : Option Addr} {m c : Nat} {bs : List (BitVec 8)} (hr : RowRd w ⟨B, m, c⟩ bs) (hm : m ≤ c) (u : Nat) (hu : u ≤ m) :
    ∃ A', (∀ w, (Instr.slice 27 (.slice B m c) Option.none (some (.int .i64 (u : Int))) Option.none).run Try.prog w = .ok (.slice A' u c) w) ∧ Rd w A' (bs.take u) := by
  have hsz : ∀ w, (sizeOf 5).run Try.prog w = .ok 1 w := fun _ => by kernel_rfl
  have huc : u ≤ c := by omega
  refine ⟨if c = 0 then B else B.map (·.add (0 * 1)), fun w => ?_, fun k hk => ?_⟩
  · have h1 : (Instr.sliceBounds true m c Option.none (some (.int .i64 (u : Int))) Option.none).run Try.prog w = .ok (0, u, c) w := by
      simp [Instr.sliceBounds, run_sliceBound, huc, Result.andThen]
    simp only [Instr.slice, Sem.run_bind, run_underlying Try.underlying27, Result.andThen, h1, hsz, Sem.run_pure, Nat.sub_zero]
  · rw [List.length_take] at hk
    have hkb : k < bs.length := by omega
    obtain ⟨b, o, hB, hc⟩ := hr.rd k hkb
    have hB' : B = some ⟨b, o, none⟩ := hB
    subst hB'
    have hl : bs.length = m := hr.len
    refine ⟨b, o, ?_, by rw [hc, List.getElem_take]⟩
    rw [if_neg (by omega)]
    simp [Addr.add]
def ReadsPost (w : World) (e : Ending) (w' : World) : Prop := e = .returned (.bool true) ∧ Since w w'
set_option maxHeartbeats 8000000 in
set_option maxRecDepth 100000 in
theorem StoreReads_any (B : Option Addr) (m c : Nat) (bs : List (BitVec 8)) (w : World) (hr : RowRd w ⟨B, m, c⟩ bs) (hmc : m ≤ c) (hc : c ≤ 9223372036854775807) :
    Calls Try.prog 8 #[.slice B m c] w (ReadsPost w) := by
  have HR := Lib.hid hr
  have hlen : bs.length = m := hr.len
  have HLN := Lib.hid hlen
  clear hr
  go_enter Try.func8, Try.ntmps8
  go_wp2_with fail
  refine (awake22_any _).mono ?_
  rintro e w1 ⟨rfl, hs1⟩
  have S1 := Lib.hid hs1
  clear hs1
  by_cases h1 : 10000 < m
  · have i1 : (10000 : Int) < (m : Int) := by omega
    go_wp2
    go_ret
    exact ⟨rfl, S1.out⟩
  have i1 : ¬ (10000 : Int) < (m : Int) := by omega
  go_wp2_with fail
  refine (New_any w w1 [] 1048576 (Bank.nil S1.out) (by omega)).mono ?_
  rintro e w2 ⟨D, R, rfl, h2⟩
  have HAP := Lib.hid (appN_any w w2 D R 1048576 [] B m c bs h2 (Since.row h2.since HR.out) (by omega))
  clear h2 S1 i1
  unfold storeS at HAP
  go_wp2_with fail
  refine HAP.out.mono ?_
  rintro e w3 (⟨k1, _⟩ | ⟨_, k1, _⟩ | ⟨_, _, rfl, g, A, cA, h3⟩)
  · exfalso
    have h : 8388608 < 0 + m := k1
    omega
  · exfalso
    have h : (1048576 : Int) < ((0 + m : Nat) : Int) := k1
    omega
  obtain ⟨f, hf⟩ : ∃ f, f = Fil.mk g A (olen none + m) cA (obytes none ++ bs) (osafe none) := ⟨_, rfl⟩
  have hfb : f.bs = bs := by rw [hf]; rfl
  have hfn : f.n = m := by rw [hf]; exact Nat.zero_add m
  rw [← hf] at h3
  have HOP := Lib.hid (open_some w w3 D R 1048576 f [] h3 (by omega))
  have HFB := Lib.hid hfb; have HFN := Lib.hid hfn
  clear h3 hf hfb hfn HAP
  go_wp2_with fail
  refine HOP.out.mono ?_
  rintro e w4 (⟨k1, rfl, h4⟩ | ⟨st, u, o', Z, c', A', cE', xs', k1, rfl, k3, k4, k5, h4⟩)
  · have k1' : S.sread bs = none := by rw [← HFB.out]; exact k1
    have HRR := Lib.hid (rRead_any B m c bs w4 (Since.row h4.since HR.out) hmc hc (by omega))
    have H4 := Lib.hid h4
    have HN := Lib.hid k1'
    clear k1 k1' h4 HOP
    go_wp2_with fail
    refine HRR.out.mono ?_
    rintro e w5 hp
    have hok : ∃ v u5, e = .returned (.tuple #[.pointer v, .int .i64 u5, .bool false]) ∧ Since w4 w5 := by
      rcases hp with ⟨_, he, hs⟩ | ⟨G, c5, A5, cE5, xs5, h5, he, hB⟩
      · exact ⟨_, _, he, hs⟩
      · have hsp : (F.scan bs).2.2 = true := by
          have h := HN.out
          unfold S.sread at h
          split at h
          · assumption
          · rw [h5] at h; cases h
        rw [hsp] at he
        exact ⟨_, _, he, hB.since⟩
    obtain ⟨v5, u5, rfl, hs5⟩ := hok
    have H5 := Lib.hid (H4.out.call hs5)
    have HRD := Lib.hid (dRead_some w w5 D R 1048576 f [] H5.out (by have := HFN.out; omega))
    clear hp hs5 H4 H5 HRR
    unfold storeS at HRD
    go_wp2_with fail
    refine HRD.out.mono ?_
    rintro e w6 ⟨A6, n6, c6, rfl, h6⟩
    have hrow6 : RowRd w6 ⟨A6, n6, c6⟩ f.bs := h6.row 0 rfl
    have hl6 : f.bs.length = n6 := hrow6.len
    have HSB := Lib.hid (SameBytes_any A6 B n6 m c6 c f.bs bs w6 hrow6.rd (Since.row h6.since HR.out).rd hl6 HLN.out (by have := HFN.out; have := HFB.out; have := HLN.out; rw [HFB.out] at hl6; omega) (by omega))
    have S6 := Lib.hid h6.since
    clear h6 hrow6 hl6 HRD
    go_wp2_with fail
    refine HSB.out.mono ?_
    rintro e w7 ⟨rfl, q, rfl⟩
    rw [show decide (f.bs = bs) = true by rw [HFB.out]; simp]
    have HFIN := Lib.hid (S6.out.drewN q)
    clear HSB S6
    go_wp2
    go_ret
    exact ⟨rfl, HFIN.out⟩
  · have k1' : S.sread bs = some (st, u) := by rw [← HFB.out]; exact k1
    have hu : (F.scan bs).2.1 = u ∧ (F.scan bs).2.2 = false ∧ S.sdos S.zero (F.scan bs).1 = some st := by
      have h := k1'
      unfold S.sread at h
      split at h
      · cases h
      · rename_i hsp
        cases hx : S.sdos S.zero (F.scan bs).1 with
        | none => rw [hx] at h; cases h
        | some t =>
          rw [hx] at h
          simp only [Option.map_some, Option.some.injEq, Prod.mk.injEq] at h
          exact ⟨h.2, by simpa using hsp, by rw [h.1]⟩
    have hsb := F.scan_back bs.length bs (Nat.le_refl _)
    rw [hu.1] at hsb
    obtain ⟨f', hf', hf'n, hf'b, hf's⟩ : ∃ f', o' = some f' ∧ f'.n = u ∧ f'.bs = bs.take u ∧ f'.safe = u := by
      rcases k4 with ⟨h, _⟩ | ⟨f0, g', A2, c2, h, h', rfl⟩
      · cases h
      · cases h
        exact ⟨_, rfl, rfl, by rw [← HFB.out], rfl⟩
    subst hf'
    have HRR := Lib.hid (rRead_any B m c bs w4 (Since.row h4.since HR.out) hmc hc (by omega))
    have H4 := Lib.hid h4
    have HU := Lib.hid hu; have HSBK := Lib.hid hsb; have HST := Lib.hid k3; have HSM := Lib.hid (S.sread_small k1'); have HFN' := Lib.hid hf'n; have HFB' := Lib.hid hf'b; have HXL := Lib.hid k5; have HFS' := Lib.hid hf's
    have hum : u ≤ m := by have h := hsb.2.2; omega
    clear k1 k1' h4 HOP hu hsb k3 k4 k5 hf'n hf'b hf's
    go_wp2_with fail
    refine HRR.out.mono ?_
    rintro e w5 (⟨h5, _⟩ | ⟨G, c5, A5, cE5, xs5, h5, rfl, hB⟩)
    · exfalso
      rw [HU.out.2.2] at h5
      cases h5
    rw [HU.out.1, HU.out.2.1]
    have hst5 : st = ⟨c5, xs5.map EV.e⟩ := by rw [HU.out.2.2] at h5; exact Option.some.inj h5
    have H5 := Lib.hid (H4.out.add hB)
    have HST5 := Lib.hid hst5
    have HRD := Lib.hid (dRead_some w w5 D R 1048576 f' _ H5.out.dk (by have := HFN'.out; omega))
    clear h5 hB H4 HRR hst5 H5
    unfold storeS at HRD
    go_wp2_with fail
    refine HRD.out.mono ?_
    rintro e w6 ⟨A6, n6, c6, rfl, h6⟩
    have h6' : SK w w6 D R 1048576 (some f') Z c' A' cE' xs' (RfL G c5 A5 cE5 xs5 [] ++ []) := h6.sub (.cons _ (List.Sublist.refl _))
    have hrow6 : RowRd w6 ⟨A6, n6, c6⟩ f'.bs := h6.row 0 rfl
    have hrf := h6'.bank
    rw [List.append_nil] at hrf
    have hLS : LS w w6 D R 1048576 (F.scan bs).1 f'.safe Z st (RfL G c5 A5 cE5 xs5 [] ++ []) := by
      have e1 : f'.bs = F.pbytes (F.scan bs).1 := by rw [HFB'.out, HSBK.out.2.1]
      have e2 : (F.pbytes (F.scan bs).1).length = u := by rw [HSBK.out.2.1, List.length_take]; have := HSBK.out.2.2; omega
      refine ⟨some f', A', cE', xs', by rw [HST.out], by rw [HST.out]; exact h6', e1, ?_, rfl, by rw [HFS'.out, e2]; exact Nat.le_refl _⟩
      show f'.n = _
      rw [e2, HFN'.out]
    have HLK := Lib.hid (like_eq w w6 D R 1048576 _ _ Z st _ G A5 xs5.length cE5 hLS (by rw [HST5.out]; exact rf_c hrf) (by rw [HST5.out]; simp) (by rw [HST5.out]; exact rf_rd hrf) (by
      have h := HST.out
      rw [HST5.out] at h
      simp only [S.St.mk.injEq] at h
      have h2 := congrArg List.length h.2
      rw [List.length_map, List.length_map] at h2
      have := HXL.out
      omega) (by
      intro e he
      have h := HSM.out e he
      omega))
    have ROW6 := Lib.hid hrow6
    have S6 := Lib.hid h6.since
    clear h6 h6' hrf hLS hrow6 HRD
    obtain ⟨A8, hsl, hrd8⟩ := slice_take HR.out hmc u hum
    have HRD8 := Lib.hid hrd8
    have l6 : f'.bs.length = n6 := ROW6.out.len
    have hn6 : n6 = u := by rw [← l6, HFB'.out, List.length_take]; have := HLN.out; omega
    subst hn6
    clear hrd8 l6
    go_wp2_with fail
    refine HLK.out.mono ?_
    rintro e w7 ⟨rfl, hs7⟩
    have HSB := Lib.hid (SameBytes_any A6 A8 n6 n6 c6 c f'.bs (bs.take n6) w7 (Since.row hs7 ROW6.out).rd (HRD8.out.below ((S6.out.add hs7))) ROW6.out.len (by rw [List.length_take]; have := HLN.out; omega) (by omega) (by omega))
    have S7 := Lib.hid (S6.out.add hs7)
    clear hs7 HLK S6
    go_wp2_with fail
    refine HSB.out.mono ?_
    rintro e w8 ⟨rfl, q, rfl⟩
    rw [show decide (f'.bs = bs.take n6) = true by rw [HFB'.out]; simp]
    have HFIN := Lib.hid (S7.out.drewN q)
    clear HSB S7
    go_wp2
    go_ret
    exact ⟨rfl, HFIN.out⟩
end Go.Proofs.Ytfpjmeknjhhakaa.K
