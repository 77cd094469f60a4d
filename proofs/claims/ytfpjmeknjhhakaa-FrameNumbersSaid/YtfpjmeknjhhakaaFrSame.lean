/- The contract of the law's same; what a scan has told, as frames in memory. -/
import Derived.Test.YtfpjmeknjhhakaaFrOwn
namespace Go.Proofs.Ytfpjmeknjhhakaa.K
open Go Go.RowKit

/-- two frames that stand in memory, as a round reads them -/
theorem pair_at {w wr : World} {Fa A : Option Addr} {ps qs : List FR} (hp : OnesP w Fa ps) (hq : OnesP w A qs) (heq : ps.map FR.fr = qs.map FR.fr) (hs : Since w wr) (hbd : ∀ p ∈ ps, p.bs.length ≤ 1000000) (k : Nat) (hk : k < ps.length) :
    ∃ gf o1 b o D m d D2 m2 d2 kd ds, Fa = some ⟨gf, o1, none⟩ ∧ A = some ⟨b, o, none⟩ ∧ wr.cell? ⟨gf, o1 + k * 2, none⟩ = some (.int .i64 kd) ∧ wr.cell? ⟨gf, o1 + k * 2 + 1, none⟩ = some (.slice D m d) ∧ wr.cell? ⟨b, o + k * 2, none⟩ = some (.int .i64 kd) ∧ wr.cell? ⟨b, o + k * 2 + 1, none⟩ = some (.slice D2 m2 d2) ∧
      RowRd wr ⟨D, m, d⟩ ds ∧ RowRd wr ⟨D2, m2, d2⟩ ds ∧ m ≤ 1000000 := by
  obtain ⟨hl, hpq⟩ := fr_eq heq
  have hk2 : k < qs.length := by omega
  obtain ⟨e0, e1⟩ := hpq k hk hk2
  obtain ⟨gf, o1, hFa, p0, p1, _, hr1, _⟩ := hp k hk
  obtain ⟨b, o, hA, q0, q1, _, hr2, _⟩ := hq k hk2
  have h1 := hbd _ (List.getElem_mem hk)
  have h2 : ps[k].bs.length = ps[k].x.n := hr1.len
  rw [← e0] at q0
  rw [← e1] at hr2
  exact ⟨gf, o1, b, o, ps[k].x.A, ps[k].x.n, ps[k].x.c, qs[k].x.A, qs[k].x.n, qs[k].x.c, ps[k].k, ps[k].bs, hFa, hA, (hs.cell (p := ⟨gf, o1 + k * 2, none⟩) (block_lt_of_cell p0)).trans p0, (hs.cell (p := ⟨gf, o1 + k * 2 + 1, none⟩) (block_lt_of_cell p1)).trans p1, (hs.cell (p := ⟨b, o + k * 2, none⟩) (block_lt_of_cell q0)).trans q0, (hs.cell (p := ⟨b, o + k * 2 + 1, none⟩) (block_lt_of_cell q1)).trans q1, hs.row hr1, hs.row hr2, by omega⟩
set_option maxHeartbeats 8000000 in
set_option maxRecDepth 100000 in
theorem same_any (Fa A : Option Addr) (n cF c : Nat) (ps qs : List FR) (w : World) (hp : OnesP w Fa ps) (hq : OnesP w A qs) (hn : ps.length = n) (hn2 : n ≤ 1000000) (heq : ps.map FR.fr = qs.map FR.fr) (hbd : ∀ p ∈ ps, p.bs.length ≤ 1000000) :
    Calls Try.prog 25 #[.slice Fa n cF, .slice A n c] w (Says w) := by
  have HP := Lib.hid hp; have HQ := Lib.hid hq; have HN := Lib.hid hn; have HE := Lib.hid heq; have HBD := Lib.hid hbd
  clear hp hq hn heq hbd
  go_enter Try.func25, Try.ntmps25
  go_wp2_with fail
  go_loopw [5] (fun v wr => ∃ k : Nat, v = .int .i64 (k : Int) ∧ k ≤ n ∧ Since w wr) (fun i _ => n - (intOf i).toNat)
  case atStart => exact ⟨0, rfl, Nat.zero_le _, Below.refl _ _⟩
  case round =>
    obtain ⟨k, rfl, hk, hs⟩ := hrel
    have HS := Lib.hid hs
    have k0 : (0 : Int) ≤ (k : Int) := by omega
    clear hs
    by_cases hlt : k < n
    · have i1 : (k : Int) < (n : Int) := by omega
      obtain ⟨gf, o1, b, o, D, m, d, D2, m2, d2, kd, ds, hFa, hA, p0, p1, q0, q1, hg, hr, hm⟩ := pair_at HP.out HQ.out HE.out HS.out HBD.out k (by have := HN.out; omega)
      subst hFa hA
      have HG := Lib.hid hg; have HR := Lib.hid hr
      clear hg hr
      have dd : wr.drew.cell? ⟨gf, o1 + k * 2, none⟩ = some (.int .i64 kd) ∧ wr.drew.cell? ⟨gf, o1 + k * 2 + 1, none⟩ = some (.slice D m d) ∧ wr.drew.cell? ⟨b, o + k * 2, none⟩ = some (.int .i64 kd) ∧ wr.drew.cell? ⟨b, o + k * 2 + 1, none⟩ = some (.slice D2 m2 d2) := ⟨p0, p1, q0, q1⟩
      go_upto_region 6 with fail
      go_region_held3 (fun w' => w'.cell? ⟨gf, o1 + k * 2, none⟩ = some (.int .i64 kd) ∧ w'.cell? ⟨gf, o1 + k * 2 + 1, none⟩ = some (.slice D m d) ∧ w'.cell? ⟨b, o + k * 2, none⟩ = some (.int .i64 kd) ∧ w'.cell? ⟨b, o + k * 2 + 1, none⟩ = some (.slice D2 m2 d2))
        (first
          | with_reducible exact dd
          | with_reducible exact ⟨p0, p1, q0, q1⟩
          | fail "keep")
        (first
          | (go_at_call 17; refine (same_made HG.out HR.out (by omega) (Since.drew (Below.refl _ _))).mono ?_; rintro e w7 ⟨rfl, hb7⟩; have HS7 := Lib.hid (HS.out.trans (((Since.drew (Below.refl _ _)).trans hb7).mono HS.out.size)); have p0 := (hb7.cell (p := ⟨gf, o1 + k * 2, none⟩) (block_lt_of_cell dd.1)).trans dd.1; have p1 := (hb7.cell (p := ⟨gf, o1 + k * 2 + 1, none⟩) (block_lt_of_cell dd.2.1)).trans dd.2.1; have q0 := (hb7.cell (p := ⟨b, o + k * 2, none⟩) (block_lt_of_cell dd.2.2.1)).trans dd.2.2.1; have q1 := (hb7.cell (p := ⟨b, o + k * 2 + 1, none⟩) (block_lt_of_cell dd.2.2.2)).trans dd.2.2.2; clear hb7)
          | fail "arm")
      clear dd
      go_wp2_with fail
      go_roundw
      case rel => exact ⟨k + 1, by go_num, by omega, HS7.out⟩
      case measure => simp [intOf]; omega
    · have i1 : ¬ (k : Int) < (n : Int) := by omega
      go_wp2_with fail
      go_ret
      exact ⟨rfl, HS.out⟩
/-- what a scan has told, in memory -/
theorem scan_onesP {w w' : World} {Fa : Option Addr} {cF : Nat} {ps : List FR} (h : Bank w w' (frAcc Fa cF ps :: ps.reverse.map FR.acc)) (he : F.perr (ps.map FR.fr) = 0) : OnesP w' Fa ps := fun i hi => by
  obtain ⟨g, rfl, hc⟩ := frame_cells (h.at 0 rfl) (by omega)
  have ho := h.own (FR.acc ps[i]) (List.mem_cons_of_mem _ (List.mem_map.2 ⟨ps[i], List.mem_reverse.2 (List.getElem_mem _), rfl⟩))
  have ho' : w'.ownsRow w.heap.size 5 1 (.slice ps[i].x.A ps[i].x.n ps[i].x.c) ps[i].x.n (bv ps[i].bs) := ho
  obtain ⟨r1, r2, _⟩ := row_room ho'
  have hk := ((F.errOf_ok _).1 ((F.perr_zero _).1 he ps[i].fr (List.mem_map.2 ⟨ps[i], List.getElem_mem _, rfl⟩)))
  have hk1 : 0 ≤ ps[i].k := hk.1
  have hk2 : ps[i].k ≤ 255 := hk.2.1
  refine ⟨g, 0, rfl, ?_, ?_, ⟨by omega, by omega⟩, RowRd.of_row ho', r1, r2⟩
  · rw [Nat.zero_add]; exact (hc i hi).1
  · rw [Nat.zero_add]; exact (hc i hi).2
theorem perr_len {ps : List FR} (he : F.perr (ps.map FR.fr) = 0) : ∀ p ∈ ps, p.bs.length ≤ 1000000 := fun p hp => by
  have h : p.bs.length ≤ 262144 := ((F.errOf_ok _).1 ((F.perr_zero _).1 he p.fr (List.mem_map.2 ⟨p, hp, rfl⟩))).2.2
  omega
end Go.Proofs.Ytfpjmeknjhhakaa.K
