/- The contract of the law's scans. -/
import Derived.Test.YtfpjmeknjhhakaaFrRefScan
import Derived.Test.YtfpjmeknjhhakaaLit
namespace Go.Proofs.Ytfpjmeknjhhakaa.K
open Go Go.RowKit

def Says (w : World) (e : Ending) (w' : World) : Prop := e = .returned (.bool true) ∧ Below w.heap.size w w'
theorem fr_eq {ps qs : List FR} (h : ps.map FR.fr = qs.map FR.fr) : ps.length = qs.length ∧ ∀ k (h1 : k < ps.length) (h2 : k < qs.length), ps[k].k = qs[k].k ∧ ps[k].bs = qs[k].bs := by
  have hl : ps.length = qs.length := by simpa using congrArg List.length h
  refine ⟨hl, fun k h1 h2 => ?_⟩
  have : (ps.map FR.fr)[k]? = (qs.map FR.fr)[k]? := by rw [h]
  rw [List.getElem?_map, List.getElem?_map, List.getElem?_eq_getElem h1, List.getElem?_eq_getElem h2] at this
  simp only [Option.map_some, Option.some.injEq, FR.fr, F.Fr.mk.injEq] at this
  exact this
def toldAcc (v : Value) (l : List RB) : Acc := ⟨v, l.length, 27, 1, l.map (·.1.v)⟩
theorem apart_told {w0 w : World} (v : Value) (l : List RB) (hB : Bank w0 w (toldAcc v l :: l.reverse.map accOf)) (hm : l.length ≤ 1000000) (hn : ∀ p ∈ l, p.1.n ≤ 1000000000000) :
    Calls Try.prog 19 #[v] w fun e w' => e = .returned (.bool true) ∧ Since w0 w' := by
  have hrow : ∀ j, (h : j < l.length) → rowsOf l j = l[j].1 ∧ bytesAt l j = l[j].2 := fun j h => by simp [rowsOf, bytesAt, h]
  have ho := hB.at 0 rfl
  obtain ⟨S, cS, rfl⟩ : ∃ S cS, v = .slice S l.length cS := by
    rcases ho.2 with ⟨h0, h2⟩ | ⟨g, cp, cur, h2, _⟩
    · exact ⟨_, _, by rw [show l.length = 0 from h2]; exact h0⟩
    · exact ⟨_, _, h2⟩
  have ho' : w.ownsRow w0.heap.size 27 1 (.slice S l.length cS) l.length (l.map (·.1.v)) := ho
  have hB2 := hB.drop
  refine (ApartBytes_any S l.length cS (rowsOf l) (bytesAt l) w0.heap.size w (fun j hj => ?_) (fun j hj => ?_) (fun i j hi hj hij => ?_) hm (fun j hj => ?_) hB2.since.size).mono ?_
  · obtain ⟨g, c', e, _, _⟩ := ho'.form (by omega)
    simp only [Value.slice.injEq, true_and] at e
    obtain ⟨rfl, rfl⟩ := e
    refine ⟨g, 0, rfl, ?_⟩
    rw [Nat.zero_add, ho'.cellAt j (by omega), (hrow j hj).1]
    simp [hj]
  · have := hB2.own (accOf l[j]) (List.mem_map.2 ⟨l[j], by simp, rfl⟩)
    unfold Rw.own
    rw [(hrow j hj).1, (hrow j hj).2]
    exact this
  · have h1 : (l.reverse.map accOf)[l.length - 1 - i]? = some (accOf l[i]) := by
      rw [List.getElem?_map, List.getElem?_reverse (by omega)]
      simp [show l.length - 1 - (l.length - 1 - i) = i by omega, hi]
    have h2 : (l.reverse.map accOf)[l.length - 1 - j]? = some (accOf l[j]) := by
      rw [List.getElem?_map, List.getElem?_reverse (by omega)]
      simp [show l.length - 1 - (l.length - 1 - j) = j by omega, hj]
    rw [(hrow i hi).1, (hrow j hj).1]
    exact hB2.sepAt h1 h2 (by omega)
  · rw [(hrow j hj).1]; exact hn _ (List.getElem_mem _)
  · rintro e w' ⟨he, hb⟩
    exact ⟨he, hB2.since.trans hb⟩
theorem cells_at (ps : List FR) (k : Nat) (h : k < ps.length) : (ps.flatMap FR.cells)[k * 2]? = some (.int .i64 ps[k].k) ∧ (ps.flatMap FR.cells)[k * 2 + 1]? = some ps[k].x.v := by
  induction ps generalizing k with
  | nil => simp at h
  | cons p ps ih =>
    cases k with
    | zero => exact ⟨rfl, rfl⟩
    | succ k =>
      have := ih k (by simpa using h)
      rw [List.flatMap_cons, show (k + 1) * 2 = 2 + k * 2 by omega, show 2 + k * 2 + 1 = 2 + (k * 2 + 1) by omega]
      have hl : (FR.cells p).length = 2 := rfl
      refine ⟨?_, ?_⟩
      · rw [List.getElem?_append_right (by omega), hl, show 2 + k * 2 - 2 = k * 2 by omega, this.1]; rfl
      · rw [List.getElem?_append_right (by omega), hl, show 2 + (k * 2 + 1) - 2 = k * 2 + 1 by omega, this.2]; rfl
/-- a frame's two cells -/
theorem frame_cells {w : World} {B : Nat} {e : TypeId} {Fa : Option Addr} {cF : Nat} {ps : List FR} (h : w.ownsRow B e 2 (.slice Fa ps.length cF) ps.length (ps.flatMap FR.cells)) (hp : 0 < ps.length) :
    ∃ g, Fa = some ⟨g, 0, none⟩ ∧ ∀ k (hk : k < ps.length), w.cell? ⟨g, k * 2, none⟩ = some (.int .i64 ps[k].k) ∧ w.cell? ⟨g, k * 2 + 1, none⟩ = some ps[k].x.v := by
  obtain ⟨g, c', e1, _, _⟩ := h.form hp
  simp only [Value.slice.injEq, true_and] at e1
  obtain ⟨rfl, _⟩ := e1
  have hl : (ps.flatMap FR.cells).length = ps.length * 2 := h.1
  refine ⟨g, rfl, fun k hk => ?_⟩
  have := cells_at ps k hk
  have h0 := h.cellAt (k * 2) (by omega)
  have h1 := h.cellAt (k * 2 + 1) (by omega)
  exact ⟨h0.trans this.1, h1.trans this.2⟩
set_option maxHeartbeats 8000000 in
set_option maxRecDepth 100000 in
theorem scans_any (A : Option Addr) (n c : Nat) (bs : List (BitVec 8)) (w : World) (hr : RowRd w ⟨A, n, c⟩ bs) (hn : n ≤ c) (hc : c ≤ 9223372036854775807) (hn2 : n ≤ 1000000) (hA : ∀ a, A = some a → a.block < w.heap.size) :
    Calls Try.prog 22 #[.slice A n c] w (Says w) := by
  have HR := Lib.hid hr
  have HLEN := Lib.hid (show bs.length = n from hr.len)
  clear hr
  go_enter Try.func22, Try.ntmps22
  go_wp2_with fail
  refine (lent_from w A n c bs HR.out (by omega) (Below.refl _ _)).mono ?_
  rintro e w1 ⟨g, rfl, hgw, hg, hbe⟩
  have HG := Lib.hid hg; have HS1 := Lib.hid hbe
  have HL1 := Lib.hid (lent_row hg HLEN.out)
  have hgl : g < w1.heap.size := (Array.getElem?_eq_some_iff.1 hg).1
  clear hgw hg hbe
  go_wp2_with fail
  refine (scan_any (some ⟨g, 0, none⟩) n (n + 12) bs w1 HL1.out (by omega) (by omega) (by rw [HLEN.out]; omega) (fun a e => by cases e; exact hgl)).mono ?_
  rintro e w2 ⟨ps, Fa, cF, u, s, rfl, hsc, hu, hps, hB⟩
  have HSC := Lib.hid hsc; have BKP := Lib.hid hB; have HS2 := Lib.hid (HS1.out.trans (hB.since.mono HS1.out.size))
  have hps1 : ps.length ≤ 1000000 := by rw [HLEN.out] at hu; omega
  have H262 := Lib.hid (show ∀ p ∈ ps, p.bs.length ≤ 262144 from fun p hp => by
    have h := (F.scan_back bs.length bs (Nat.le_refl _)).1
    rw [hsc] at h
    have := (F.perr_zero _).1 h p.fr (List.mem_map.2 ⟨p, hp, rfl⟩)
    exact ((F.errOf_ok _).1 this).2.2)
  clear hsc hB hu hps
  go_wp2_with fail
  refine (rscan_any A n c bs w2 (Since.row HS2.out HR.out) hn hc (by rw [HLEN.out]; omega)).mono ?_
  rintro e w3 ⟨qs, Ga, cG, u', s', rfl, hsc, hu, hps, hB⟩
  rw [HSC.out] at hsc
  obtain ⟨hfr, rfl, rfl⟩ : ps.map FR.fr = qs.map FR.fr ∧ u = u' ∧ s = s' := by
    simp only [Prod.mk.injEq] at hsc
    exact hsc
  obtain ⟨hlq, hpq⟩ := fr_eq hfr
  have BKQ := Lib.hid hB; have HPQ := Lib.hid hpq
  have BKP3 := Lib.hid (BKP.out.call hB.since)
  have HS3 := Lib.hid (HS2.out.trans (hB.since.mono HS2.out.size))
  have HG3 := Lib.hid ((BKP3.out.since).at HG.out)
  have HLQ := Lib.hid hlq
  rw [← hlq]
  clear hsc hfr hpq hB hlq BKP hu hps HSC
  go_wp2_with fail
  refine (kept_made HG3.out (Since.row HS3.out HR.out) (by omega) (Below.refl _ _)).mono ?_
  rintro e w4 ⟨rfl, hb4⟩
  have BKP4 := Lib.hid (BKP3.out.call hb4); have BKQ4 := Lib.hid (BKQ.out.call hb4)
  have HS4 := Lib.hid (HS3.out.trans (hb4.mono HS3.out.size)); have HG4 := Lib.hid (Since.at hb4 HG3.out)
  have HB0 := Lib.hid (show Bank w4 w4 [⟨.slice none 0 0, 0, 27, 1, (ps.take 0).map (·.x.v)⟩] from (Bank.nil (Below.refl w4.heap.size w4)).none _ _)
  clear hb4 HG3 HS3 BKP3 BKQ HS2 HL1 hgl
  go_wp2_with fail
  go_loopw [10, 11] (fun v10 v11 wr => ∃ k T cT, v10 = .slice T k cT ∧ v11 = .int .i64 (k : Int) ∧ k ≤ ps.length ∧ Bank w4 wr [⟨.slice T k cT, k, 27, 1, (ps.take k).map (·.x.v)⟩]) (fun _ i _ => ps.length - (intOf i).toNat)
  case atStart => exact ⟨0, none, 0, rfl, rfl, Nat.zero_le _, HB0.out⟩
  case round =>
    clear HB0
    obtain ⟨k, T, cT, rfl, rfl, hk, hB⟩ := hrel
    have HB := Lib.hid hB
    clear hB
    have k0 : (0 : Int) ≤ (k : Int) := by omega
    by_cases hlt : k < ps.length
    · have i1 : (k : Int) < (ps.length : Int) := by omega
      have hlq : k < qs.length := by rw [← HLQ.out]; exact hlt
      obtain ⟨gf, rfl, hpc⟩ := frame_cells (BKP4.out.at 0 rfl) (by omega)
      have hgc : ∃ gg, Ga = some ⟨gg, 0, none⟩ ∧ ∀ k (hk : k < qs.length), w4.cell? ⟨gg, k * 2, none⟩ = some (.int .i64 qs[k].k) ∧ w4.cell? ⟨gg, k * 2 + 1, none⟩ = some qs[k].x.v := frame_cells (BKQ4.out.at 0 rfl) (by omega)
      obtain ⟨gg, rfl, hqc⟩ := hgc
      have p0 := (HB.out.since.cell (p := ⟨gf, k * 2, none⟩) (block_lt_of_cell (hpc k hlt).1)).trans (hpc k hlt).1
      have p1 := (HB.out.since.cell (p := ⟨gf, k * 2 + 1, none⟩) (block_lt_of_cell (hpc k hlt).2)).trans (hpc k hlt).2
      have q0 := (HB.out.since.cell (p := ⟨gg, k * 2, none⟩) (block_lt_of_cell (hqc k hlq).1)).trans (hqc k hlq).1
      have q1 := (HB.out.since.cell (p := ⟨gg, k * 2 + 1, none⟩) (block_lt_of_cell (hqc k hlq).2)).trans (hqc k hlq).2
      obtain ⟨e0, e1⟩ := HPQ.out k hlt hlq
      rw [← e0] at q0
      have hrp : RowRd w4 ps[k].x ps[k].bs := RowRd.of_row (BKP4.out.own (FR.acc ps[k]) (List.mem_cons_of_mem _ (List.mem_map.2 ⟨ps[k], List.mem_reverse.2 (List.getElem_mem _), rfl⟩)))
      have hrq : RowRd w4 qs[k].x ps[k].bs := by rw [e1]; exact RowRd.of_row (BKQ4.out.own (FR.acc qs[k]) (List.mem_cons_of_mem _ (List.mem_map.2 ⟨qs[k], List.mem_reverse.2 (List.getElem_mem _), rfl⟩)))
      have htk := Lib.hid (show (ps.take (k + 1)).map (·.x.v) = (ps.take k).map (·.x.v) ++ [ps[k].x.v] by rw [List.take_succ_eq_append_getElem hlt, List.map_append]; rfl)
      have h262 := H262.out ps[k] (List.getElem_mem _)
      clear e0 e1 hpc hqc
      generalize ps[k] = pk at *
      generalize qs[k] = qk at *
      obtain ⟨kk, ⟨D, m, d⟩, db⟩ := pk
      obtain ⟨kk2, ⟨D2, m2, d2⟩, db2⟩ := qk
      dsimp only [Rw.v] at p0 p1 q0 q1 hrp hrq h262
      dsimp only at htk
      have HRP := Lib.hid hrp; have HRQ := Lib.hid hrq
      have HS := Lib.hid HB.out.since
      have hm : m ≤ 262144 := by rw [← show db.length = m from hrp.len]; exact h262
      clear hrp hrq
      have dd : wr.drew.cell? ⟨gf, k * 2, none⟩ = some (.int .i64 kk) ∧ wr.drew.cell? ⟨gf, k * 2 + 1, none⟩ = some (.slice D m d) ∧ wr.drew.cell? ⟨gg, k * 2, none⟩ = some (.int .i64 kk) ∧ wr.drew.cell? ⟨gg, k * 2 + 1, none⟩ = some (.slice D2 m2 d2) := ⟨p0, p1, q0, q1⟩
      go_upto_region 10 with fail
      go_region_held3 (fun w' => w'.cell? ⟨gf, k * 2, none⟩ = some (.int .i64 kk) ∧ w'.cell? ⟨gf, k * 2 + 1, none⟩ = some (.slice D m d) ∧ w'.cell? ⟨gg, k * 2, none⟩ = some (.int .i64 kk) ∧ w'.cell? ⟨gg, k * 2 + 1, none⟩ = some (.slice D2 m2 d2))
        (first
          | with_reducible exact dd
          | with_reducible exact ⟨p0, p1, q0, q1⟩
          | fail "keep")
        (first
          | (go_at_call 17; refine (same_made HRP.out HRQ.out (by omega) (Since.drew HS.out)).mono ?_; rintro e w5 ⟨rfl, hb5⟩; have HB5 := Lib.hid (Bank.call (Bank.drew HB.out) hb5); have p0 := (hb5.cell (p := ⟨gf, k * 2, none⟩) (block_lt_of_cell dd.1)).trans dd.1; have p1 := (hb5.cell (p := ⟨gf, k * 2 + 1, none⟩) (block_lt_of_cell dd.2.1)).trans dd.2.1; have q0 := (hb5.cell (p := ⟨gg, k * 2, none⟩) (block_lt_of_cell dd.2.2.1)).trans dd.2.2.1; have q1 := (hb5.cell (p := ⟨gg, k * 2 + 1, none⟩) (block_lt_of_cell dd.2.2.2)).trans dd.2.2.2; clear hb5)
          | fail "arm")
      clear dd
      go_wp2_with (at_builtin; refine wpList_append_bankG (HB5.out.alloc _) rfl _ _ 39 rfl 27 (.slice none 0 0) 1 24 infoBytes Try.underlying39 rfl (by decide) 0 _ _ _ _ rfl rfl ⟨w5.heap.size, 0, none⟩ 1 1 [.slice D m d] rfl rfl (cell_last _ _ _) (by intro v hv; simp at hv; subst hv; rfl) (by unfold maxLen; omega) (by omega) ?_; intro A3 n3 c3 w6 hn3 hB3 hg3 ho3; dsimp only [List.set] at hB3; have HB3 := Lib.hid hB3; have HN3 := Lib.hid hn3; clear hn3 hB3 hg3 ho3)
      go_roundw
      case rel =>
        have hn3 := HN3.out
        subst hn3
        refine ⟨k + 1, A3, c3, rfl, by go_num, by omega, ?_⟩
        rw [htk.out]
        exact HB3.out
      case measure => simp [intOf]; omega
    · have i1 : ¬ (k : Int) < (ps.length : Int) := by omega
      have hkn : k = ps.length := by omega
      have hbk : Bank w1 wr (toldAcc (.slice T k cT) (ps.map fun p => (p.x, p.bs)) :: (ps.map fun p => (p.x, p.bs)).reverse.map accOf) := by
        have h1 := BKP4.out.drop
        have h2 := (h1.call HB.out.since).add (HB.out.at 0 rfl) h1.since.size (fun p hp b hb => (h1.lt hp hb).2)
        have e1 : (ps.map fun p => (p.x, p.bs)).reverse.map accOf = ps.reverse.map FR.acc := by
          rw [← List.map_reverse, List.map_map]; rfl
        have e2 : toldAcc (.slice T k cT) (ps.map fun p => (p.x, p.bs)) = ⟨.slice T k cT, k, 27, 1, (ps.take k).map (·.x.v)⟩ := by
          rw [hkn, List.take_length]; simp [toldAcc]
        rw [e1, e2]
        exact h2
      have hnn : ∀ p ∈ (ps.map fun p => (p.x, p.bs)), p.1.n ≤ 1000000000000 := fun p hp => by
        obtain ⟨q, hq, rfl⟩ := List.mem_map.1 hp
        have h1 := (BKP4.out.own (FR.acc q) (List.mem_cons_of_mem _ (List.mem_map.2 ⟨q, List.mem_reverse.2 hq, rfl⟩))).1
        have h2 := H262.out q hq
        have h3 : (bv q.bs).length = q.x.n * 1 := h1
        rw [bv_length] at h3
        show q.x.n ≤ _
        omega
      have HBK := Lib.hid hbk; have HNN := Lib.hid hnn
      clear hbk hnn hkn
      go_wp2_with fail
      refine (apart_told _ _ HBK.out (by rw [List.length_map]; omega) HNN.out).mono ?_
      rintro e w5 ⟨rfl, hb5⟩
      have HB5 := Lib.hid hb5
      have HF5 := Lib.hid (HS1.out.trans (hb5.mono HS1.out.size))
      clear hb5
      go_wp2_with fail
      refine (kept_made HG.out (Since.row HS1.out HR.out) (by omega) HB5.out).mono ?_
      rintro e w6 ⟨rfl, hb6⟩
      have HFIN := Lib.hid (show Says w (.returned (.bool true)) w6 from ⟨rfl, HF5.out.trans (hb6.mono HF5.out.size)⟩)
      clear hb6
      go_wp2_with fail
      go_ret
      exact HFIN.out
end Go.Proofs.Ytfpjmeknjhhakaa.K
