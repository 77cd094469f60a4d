/- The contract of the law FramePuts. -/
import Derived.Test.YtfpjmeknjhhakaaFrOwn
import Derived.Test.YtfpjmeknjhhakaaFrAwake
import Derived.Test.YtfpjmeknjhhakaaFrRefPut2
namespace Go.Proofs.Ytfpjmeknjhhakaa.K
open Go Go.RowKit

def LF.toFR (p : LF) : FR := ⟨p.k, ⟨some ⟨p.g, 0, none⟩, p.bs.length, p.bs.length + 12⟩, p.bs⟩
theorem lf_flat (qs : List LF) : qs.flatMap LF.cells = (qs.map LF.toFR).flatMap FR.cells := by
  rw [List.flatMap_map]; rfl
theorem lf_fr (qs : List LF) : qs.map LF.fr = (qs.map LF.toFR).map FR.fr := by rw [List.map_map]; rfl
/-- frames that were lent: what stands there -/
def OwnB (w w1 : World) (n : Nat) (Fa : Option Addr) (cF : Nat) (qs : List LF) : Prop := Bank w w1 (⟨.slice Fa n cF, n, 36, 2, qs.flatMap LF.cells⟩ :: qs.reverse.map LF.acc)
theorem own_cells {w w1 : World} {n : Nat} {Fa : Option Addr} {cF : Nat} {qs : List LF} (h : OwnB w w1 n Fa cF qs) (hn : qs.length = n) (k : Nat) (hk : k < qs.length) :
    ∃ gf, Fa = some ⟨gf, 0, none⟩ ∧ w1.cell? ⟨gf, k * 2, none⟩ = some (.int .i64 qs[k].k) ∧ w1.cell? ⟨gf, k * 2 + 1, none⟩ = some (.slice (some ⟨qs[k].g, 0, none⟩) qs[k].bs.length (qs[k].bs.length + 12)) ∧ w1.heap[qs[k].g]? = some (.cells (bv (qs[k].bs ++ marks 1 0 12)).toArray 5 (0, 0)) := by
  have hl : (qs.map LF.toFR).length = n := by rw [List.length_map, hn]
  have h1 : w1.ownsRow w.heap.size 36 2 (.slice Fa (qs.map LF.toFR).length cF) (qs.map LF.toFR).length ((qs.map LF.toFR).flatMap FR.cells) := by
    rw [hl, ← lf_flat]; exact h.at 0 rfl
  obtain ⟨gf, e, hc⟩ := frame_cells h1 (by omega)
  have hk2 : k < (qs.map LF.toFR).length := by rw [List.length_map]; exact hk
  have h2 := hc k hk2
  rw [List.getElem_map] at h2
  have h3 : (qs.reverse.map LF.acc)[qs.length - 1 - k]? = some (LF.acc qs[k]) := by
    rw [List.getElem?_map, List.getElem?_reverse (by omega)]
    simp [show qs.length - 1 - (qs.length - 1 - k) = k by omega, hk]
  exact ⟨gf, e, h2.1, h2.2, (h.boxAt (qs.length - 1 - k + 1) h3).2⟩
theorem own_onesP {w w1 : World} {n : Nat} {Fa : Option Addr} {cF : Nat} {qs : List LF} (h : OwnB w w1 n Fa cF qs) (hn : qs.length = n) (hi : ∀ k, (h : k < qs.length) → M.inI64 qs[k].k) (hl : ∀ k, (h : k < qs.length) → qs[k].bs.length ≤ 1000000) : OnesP w1 Fa (qs.map LF.toFR) := fun i hi2 => by
  rw [List.length_map] at hi2
  obtain ⟨gf, e, h0, h1, h2⟩ := own_cells h hn i hi2
  refine ⟨gf, 0, e, ?_⟩
  rw [List.getElem_map, Nat.zero_add]
  exact ⟨h0, h1, hi i hi2, lent_row h2 rfl, by show qs[i].bs.length ≤ qs[i].bs.length + 12; omega, by show qs[i].bs.length + 12 ≤ _; have := hl i hi2; omega⟩
/-- what a round of the law reads -/
theorem puts_at {w w1 wr : World} {A : Option Addr} {fs : List F.Fr} {n : Nat} {Fa : Option Addr} {cF : Nat} {qs : List LF} (hfs : Ones w A fs) (hqs : qs.map LF.fr = fs) (hn : fs.length = n) (h : OwnB w w1 n Fa cF qs) (hs : Since w1 wr) (k : Nat) (hk : k < n) (hdl : dl fs ≤ 20000) :
    ∃ gf g b o D m d kd ds, Fa = some ⟨gf, 0, none⟩ ∧ A = some ⟨b, o, none⟩ ∧ wr.cell? ⟨gf, k * 2, none⟩ = some (.int .i64 kd) ∧ wr.cell? ⟨gf, k * 2 + 1, none⟩ = some (.slice (some ⟨g, 0, none⟩) m (m + 12)) ∧ wr.cell? ⟨b, o + k * 2, none⟩ = some (.int .i64 kd) ∧ wr.cell? ⟨b, o + k * 2 + 1, none⟩ = some (.slice D m d) ∧
      wr.heap[g]? = some (.cells (bv (ds ++ marks 1 0 12)).toArray 5 (0, 0)) ∧ RowRd wr ⟨D, m, d⟩ ds ∧ m ≤ 20000 := by
  have hql : qs.length = n := by rw [← hn, ← hqs, List.length_map]
  obtain ⟨gf, e, h0, h1, h2⟩ := own_cells h hql k (by omega)
  obtain ⟨b, o, eA, D, m, d, hc, _, hr, _, _⟩ := hfs k (by omega)
  have hfk : fs[k]'(by omega) = LF.fr (qs[k]'(by omega)) := by subst hqs; rw [List.getElem_map]
  rw [hfk] at hc hr
  have hs0 : Since w wr := h.since.trans (hs.mono h.since.size)
  have hm : (qs[k]'(by omega)).bs.length = m := hr.len
  have hmd : m ≤ 20000 := by
    have h1 := dl_mem (List.getElem_mem (show k < fs.length by omega))
    rw [hfk] at h1
    have h2 : (qs[k]'(by omega)).bs.length ≤ dl fs := h1
    omega
  refine ⟨gf, (qs[k]'(by omega)).g, b, o, D, m, d, (qs[k]'(by omega)).k, (qs[k]'(by omega)).bs, e, eA, (hs.cell (p := ⟨gf, k * 2, none⟩) (block_lt_of_cell h0)).trans h0, ?_, (hs0.cell (p := ⟨b, o + k * 2, none⟩) (block_lt_of_cell (hc 0 _ rfl))).trans (hc 0 _ rfl), (hs0.cell (p := ⟨b, o + k * 2 + 1, none⟩) (block_lt_of_cell (hc 1 _ rfl))).trans (hc 1 _ rfl), hs.at h2, hs0.row hr, hmd⟩
  rw [hm] at h1
  exact (hs.cell (p := ⟨gf, k * 2 + 1, none⟩) (block_lt_of_cell h1)).trans h1
theorem own_ones {w w1 : World} {A : Option Addr} {fs : List F.Fr} {n : Nat} {Fa : Option Addr} {cF : Nat} {qs : List LF} (hfs : Ones w A fs) (hqs : qs.map LF.fr = fs) (hn : fs.length = n) (h : OwnB w w1 n Fa cF qs) (hdl : dl fs ≤ 20000) : Ones w1 Fa fs := by
  have hql : qs.length = n := by rw [← hn, ← hqs, List.length_map]
  have h1 := ones_of (own_onesP h hql (fun k hk => by
    obtain ⟨_, _, _, _, _, _, _, hi, _⟩ := hfs k (by omega)
    have e : fs[k]'(by omega) = LF.fr qs[k] := by subst hqs; rw [List.getElem_map]
    rw [e] at hi; exact hi) (fun k hk => by
    have e : fs[k]'(by omega) = LF.fr qs[k] := by subst hqs; rw [List.getElem_map]
    have h1 := dl_mem (List.getElem_mem (show k < fs.length by omega))
    rw [e] at h1
    have h2 : qs[k].bs.length ≤ dl fs := h1
    omega))
  rw [← lf_fr, hqs] at h1
  exact h1
set_option maxHeartbeats 8000000 in
set_option maxRecDepth 100000 in
theorem fputs_any (A : Option Addr) (n c : Nat) (fs : List F.Fr) (w : World) (hfs : Ones w A fs) (hn : fs.length = n) (hnc : n ≤ c) (hc : c ≤ 9223372036854775807) (hw : ∀ f ∈ fs, f.data.length ≤ 140737488351232) :
    Calls Try.prog 3 #[.slice A n c] w (Says w) := by
  have HF := Lib.hid hfs; have HN := Lib.hid hn; have HW := Lib.hid hw
  clear hfs hn hw
  go_enter Try.func3, Try.ntmps3
  go_wp2_with fail
  refine (great_any A n c fs w HF.out HN.out hnc hc HW.out).mono ?_
  rintro e w1 ⟨b, rfl, hle, rfl⟩
  cases b
  case true =>
    clear hle
    go_wp2_with fail
    refine (awake_any w).mono ?_
    rintro e w1 ⟨rfl, hb⟩
    have HB := Lib.hid hb
    clear hb
    go_wp2_with fail
    go_ret
    exact ⟨rfl, HB.out⟩
  case false =>
    have hle := hle rfl
    have HLE := Lib.hid hle
    have hn20 : n ≤ 20000 := by have := HN.out; omega
    have HPB := Lib.hid (show (F.pbytes fs).length ≤ 1000000 by rw [pbytes_len]; omega)
    clear hle
    go_wp2_with fail
    refine (own_any A n c fs w HF.out HN.out HLE.out).mono ?_
    rintro e w1 ⟨qs, Fa, cF, rfl, hqs, hB⟩
    have HQ := Lib.hid hqs; have HOB := Lib.hid (show OwnB w w1 n Fa cF qs from hB)
    have HO1 := Lib.hid (own_ones HF.out hqs HN.out hB (by have := HLE.out; omega))
    have S1 := Lib.hid hB.since
    clear hqs hB
    go_wp2_with fail
    refine (put_any Fa n cF fs w1 HO1.out HN.out (by have := HPB.out; omega)).mono ?_
    rintro e w2 ⟨A2, N2, c2, rfl, hN2, ho2, hs2⟩
    have BK2 := Lib.hid ((Bank.nil (Below.refl w1.heap.size w1)).madeB hs2 ho2)
    have HN2 := Lib.hid hN2
    clear hN2 ho2 hs2
    go_wp2_with fail
    refine (put_any Fa n cF fs w2 (HO1.out.below BK2.out.since) HN.out (by have := HPB.out; omega)).mono ?_
    rintro e w3 ⟨A3, N3, c3, rfl, hN3, ho3, hs3⟩
    have BK3 := Lib.hid (BK2.out.madeB hs3 ho3)
    have HN3 := Lib.hid hN3
    clear hN3 ho3 hs3 BK2
    go_wp2_with fail
    refine (theirs_any A n c fs w3 (HF.out.below (S1.out.trans (BK3.out.since.mono S1.out.size))) HN.out HLE.out).mono ?_
    rintro e w4 ⟨Ga, cG, rfl, hG, hs4⟩
    have BK4 := Lib.hid (BK3.out.call hs4)
    have HG := Lib.hid hG
    clear hG hs4 BK3
    go_wp2_with fail
    refine (rput_any Ga n cG fs w4 HG.out HN.out (by have := HPB.out; omega)).mono ?_
    rintro e w5 ⟨A5, N5, c5, rfl, hN5, ho5, hs5⟩
    have BK5 := Lib.hid (BK4.out.call hs5)
    have HR5 := Lib.hid (RowRd.of_row ho5); have HR2 := Lib.hid (RowRd.of_row (BK5.out.at 1 rfl))
    have hN5' : N5 ≤ 1000000 := by
      have h1 := HPB.out
      have h2 : (pout fs).length ≤ (F.pbytes fs).length := by unfold pout; split <;> simp
      omega
    have hN2' : N2 ≤ 1000000 := by
      have h1 := HPB.out; have := HN2.out
      have h2 : (pout fs).length ≤ (F.pbytes fs).length := by unfold pout; split <;> simp
      omega
    have hN3' : N3 ≤ 1000000 := by
      have h1 := HPB.out; have := HN3.out
      have h2 : (pout fs).length ≤ (F.pbytes fs).length := by unfold pout; split <;> simp
      omega
    clear hN5 ho5 hs5 BK4 HG
    go_wp2_with fail
    refine (same_made HR2.out HR5.out (by omega) (Below.refl _ _)).mono ?_
    rintro e w6 ⟨rfl, hs6⟩
    have BK6 := Lib.hid (BK5.out.call hs6)
    clear hs6 BK5 HR5 HR2
    go_wp2_with fail
    go_loopw [10] (fun v wr => ∃ k : Nat, v = .int .i64 (k : Int) ∧ k ≤ n ∧ Since w6 wr) (fun i _ => n - (intOf i).toNat)
    case atStart => exact ⟨0, rfl, Nat.zero_le _, Below.refl _ _⟩
    case round =>
      obtain ⟨k, rfl, hk, hs⟩ := hrel
      have HS := Lib.hid hs
      have k0 : (0 : Int) ≤ (k : Int) := by omega
      clear hs
      by_cases hlt : k < n
      · have i1 : (k : Int) < (n : Int) := by omega
        obtain ⟨gf, g, b, o, D, m, d, kd, ds, hFa, hA, p0, p1, q0, q1, hg, hr, hm⟩ := puts_at HF.out HQ.out HN.out HOB.out (BK6.out.since.trans (HS.out.mono BK6.out.since.size)) k hlt (by have := HLE.out; omega)
        subst hFa hA
        have HG := Lib.hid hg; have HR := Lib.hid hr
        clear hg hr
        have dd : wr.drew.cell? ⟨gf, k * 2, none⟩ = some (.int .i64 kd) ∧ wr.drew.cell? ⟨gf, k * 2 + 1, none⟩ = some (.slice (some ⟨g, 0, none⟩) m (m + 12)) ∧ wr.drew.cell? ⟨b, o + k * 2, none⟩ = some (.int .i64 kd) ∧ wr.drew.cell? ⟨b, o + k * 2 + 1, none⟩ = some (.slice D m d) := ⟨p0, p1, q0, q1⟩
        go_upto_region 12 with fail
        go_region_held3 (fun w' => w'.cell? ⟨gf, k * 2, none⟩ = some (.int .i64 kd) ∧ w'.cell? ⟨gf, k * 2 + 1, none⟩ = some (.slice (some ⟨g, 0, none⟩) m (m + 12)) ∧ w'.cell? ⟨b, o + k * 2, none⟩ = some (.int .i64 kd) ∧ w'.cell? ⟨b, o + k * 2 + 1, none⟩ = some (.slice D m d))
          (first
            | with_reducible exact dd
            | with_reducible exact ⟨p0, p1, q0, q1⟩
            | fail "keep")
          (first
            | (go_at_call 18; refine (kept_made HG.out HR.out (by omega) (Since.drew (Below.refl _ _))).mono ?_; rintro e w7 ⟨rfl, hb7⟩; have HS7 := Lib.hid (HS.out.trans ((Since.drew (Below.refl _ _)).trans hb7 |>.mono HS.out.size)); have p0 := (hb7.cell (p := ⟨gf, k * 2, none⟩) (block_lt_of_cell dd.1)).trans dd.1; have p1 := (hb7.cell (p := ⟨gf, k * 2 + 1, none⟩) (block_lt_of_cell dd.2.1)).trans dd.2.1; have q0 := (hb7.cell (p := ⟨b, o + k * 2, none⟩) (block_lt_of_cell dd.2.2.1)).trans dd.2.2.1; have q1 := (hb7.cell (p := ⟨b, o + k * 2 + 1, none⟩) (block_lt_of_cell dd.2.2.2)).trans dd.2.2.2; clear hb7)
            | fail "arm")
        clear dd
        go_wp2_with fail
        go_roundw
        case rel => exact ⟨k + 1, by go_num, by omega, HS7.out⟩
        case measure => simp [intOf]; omega
      · have i1 : ¬ (k : Int) < (n : Int) := by omega
        have BK7 := Lib.hid (BK6.out.call HS.out)
        have HSW := Lib.hid (S1.out.trans (BK7.out.since.mono S1.out.size))
        go_wp2_with fail
        refine (apart_lit [(⟨A2, N2, c2⟩, pout fs), (⟨A3, N3, c3⟩, pout fs)] _ 2 2 rfl rfl BK7.out (by simp) (by intro p hp; simp at hp; rcases hp with rfl | rfl <;> first | exact Nat.le_trans hN2' (by omega) | exact Nat.le_trans hN3' (by omega))).mono ?_
        rintro e w8 ⟨rfl, hs8⟩
        have S8 := Lib.hid (S1.out.trans (hs8.mono S1.out.size))
        clear hs8
        go_wp2_with fail
        refine (awake_any w8).mono ?_
        rintro e w9 ⟨rfl, hb⟩
        have S9 := Lib.hid (Since.add S8.out hb)
        clear hb
        go_wp2_with fail
        go_ret
        exact ⟨rfl, S9.out⟩
end Go.Proofs.Ytfpjmeknjhhakaa.K
