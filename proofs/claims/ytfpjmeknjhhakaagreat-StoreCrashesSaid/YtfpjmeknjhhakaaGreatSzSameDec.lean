/- barbicankit's SameEntry and SameEntries, of whatever: they decide. -/
import Derived.Test.YtfpjmeknjhhakaaGreatSz12
namespace Go.Proofs.YtfpjmeknjhhakaaGreat.K
open Go Go.RowKit

/-- a truth was told that decides p -/
def SaidD (w : World) (p : Prop) (e : Ending) (w' : World) : Prop := ∃ b : Bool, (b = true ↔ p) ∧ e = .returned (.bool b) ∧ Since w w'
set_option maxHeartbeats 2000000 in
set_option maxRecDepth 100000 in
theorem SameEntry_dec (x y : M.Ent) (A B : Option Addr) (n c m d : Nat) (w : World) (hx : RowRd w ⟨A, n, c⟩ x.data) (hy : RowRd w ⟨B, m, d⟩ y.data) (hn2 : n ≤ 4611686018427387904) (hm2 : m ≤ 4611686018427387904) :
    Calls Tryz.prog 71 #[.agg #[.int .i64 x.term, B8 x.kind, .int .i64 x.version, .int .i64 x.server, .bool x.good, .slice A n c], .agg #[.int .i64 y.term, B8 y.kind, .int .i64 y.version, .int .i64 y.server, .bool y.good, .slice B m d]] w (SaidD w (x = y)) := by
  obtain ⟨t, K, v, s, G, bs⟩ := x
  obtain ⟨t2, K2, v2, s2, G2, cs⟩ := y
  generalize hp : ((⟨t, K, v, s, G, bs⟩ : M.Ent) = ⟨t2, K2, v2, s2, G2, cs⟩) = p
  have HP := Lib.hid hp
  clear hp
  have hb : Below w.heap.size w ((w.alloc (.cells #[.int .i64 t, B8 K, .int .i64 v, .int .i64 s, .bool G, .slice A n c] 62)).alloc (.cells #[.int .i64 t2, B8 K2, .int .i64 v2, .int .i64 s2, .bool G2, .slice B m d] 62)) := ((Below.refl _ _).alloc (Nat.le_refl _) _).alloc (by simp) _
  have HX := Lib.hid (hx.below hb); have HY := Lib.hid (hy.below hb); have HB := Lib.hid hb
  have hK : ∀ t, binOp .eql t (B8 K) (B8 K2) = pure (.bool (K == K2)) := fun t => B8_eql t K K2
  clear hx hy hb
  go_enter Tryz.func71, Tryz.ntmps71
  by_cases e0 : t = t2
  rotate_left
  · have HFIN := Lib.hid (show SaidD w p (.returned (.bool false)) _ from ⟨false, by rw [← HP.out]; simp [e0], rfl, HB.out⟩)
    go_wp2
    go_ret
    exact HFIN.out
  subst e0
  by_cases e1 : K = K2
  rotate_left
  · have e1b : (K == K2) = false := by rw [beq_eq_false_iff_ne]; exact e1
    rw [e1b] at hK
    have HFIN := Lib.hid (show SaidD w p (.returned (.bool false)) _ from ⟨false, by rw [← HP.out]; simp [e1], rfl, HB.out⟩)
    clear e1 e1b
    go_wp2
    go_ret
    exact HFIN.out
  have e1b : (K == K2) = true := by rw [beq_iff_eq]; exact e1
  rw [e1b] at hK
  by_cases e2 : v = v2
  rotate_left
  · have HFIN := Lib.hid (show SaidD w p (.returned (.bool false)) _ from ⟨false, by rw [← HP.out]; simp [e2], rfl, HB.out⟩)
    clear e1 e1b
    go_wp2
    go_ret
    exact HFIN.out
  subst e2
  by_cases e3 : s = s2
  rotate_left
  · have HFIN := Lib.hid (show SaidD w p (.returned (.bool false)) _ from ⟨false, by rw [← HP.out]; simp [e3], rfl, HB.out⟩)
    clear e1 e1b
    go_wp2
    go_ret
    exact HFIN.out
  subst e3
  by_cases e4 : G = G2
  rotate_left
  · have HFIN := Lib.hid (show SaidD w p (.returned (.bool false)) _ from ⟨false, by rw [← HP.out]; simp [e4], rfl, HB.out⟩)
    have e4b : (G == G2) = false := by rw [beq_eq_false_iff_ne]; exact e4
    clear e1 e1b e4
    go_wp2
    go_ret
    exact HFIN.out
  subst e4
  have HE1 := Lib.hid e1
  clear e1 e1b
  have e4b : (G == G) = true := beq_self_eq_true G
  go_wp2_with fail
  refine (SameBytes_any A B n m c d bs cs _ HX.out.rd HY.out.rd HX.out.len HY.out.len hn2 hm2).mono ?_
  rintro e w1 ⟨rfl, q, rfl⟩
  have HFIN := Lib.hid (show SaidD w p (.returned (.bool (decide (bs = cs)))) _ from ⟨decide (bs = cs), by rw [← HP.out]; simp [HE1.out], rfl, below_drewN HB.out q⟩)
  generalize World.drewN _ q = w2 at *
  generalize decide (bs = cs) = bb at *
  go_wp2
  go_ret
  exact HFIN.out
set_option maxHeartbeats 2000000 in
set_option maxRecDepth 100000 in
theorem SameEntries_dec (A : Option Addr) (n c : Nat) (B : Option Addr) (m d : Nat) (es fs : List M.Ent) (w : World) (hl : es.length = n) (hl2 : fs.length = m) (hA : EntsRd w A es) (hB : EntsRd w B fs) (hn : n ≤ 9223372036854775807) (hD : ∀ e ∈ es, e.data.length ≤ 4611686018427387904) (hD2 : ∀ e ∈ fs, e.data.length ≤ 4611686018427387904) :
    Calls Tryz.prog 45 #[.slice A n c, .slice B m d] w (SaidD w (es = fs)) := by
  by_cases hnm : n = m
  rotate_left
  · exact (SameEntries_ne A n c B m d w hnm).mono fun e w' ⟨he, hs⟩ => ⟨false, by simp; intro h; rw [h] at hl; omega, he, hs⟩
  subst hnm
  have HA := Lib.hid hA; have HB := Lib.hid hB; have HL := Lib.hid hl; have HL2 := Lib.hid hl2; have HD := Lib.hid hD; have HD2 := Lib.hid hD2
  clear hA hB hl hl2 hD hD2
  go_enter Tryz.func45, Tryz.ntmps45
  go_wp2
  go_loopw [5] (fun i wr => ∃ k : Nat, k ≤ n ∧ i = .int .i64 (k : Int) ∧ es.take k = fs.take k ∧ Since w wr) (fun i _ => n - (intOf i).toNat)
  case atStart => exact ⟨0, by omega, rfl, rfl, Below.refl _ _⟩
  case round =>
    obtain ⟨k, hk, rfl, htk, hs⟩ := hrel
    have S1 := Lib.hid hs; have HTK := Lib.hid htk
    clear hs htk
    have k0 : (0 : Int) ≤ (k : Int) := by omega
    rcases Nat.lt_or_ge k n with h1 | h1
    · have i1 : (k : Int) < (n : Int) := by omega
      have hkl : k < es.length := by rw [HL.out]; exact h1
      have hkl2 : k < fs.length := by rw [HL2.out]; exact h1
      obtain ⟨b, o, rfl, A', m', c', ⟨y0, y1, y2, y3, y4, y5⟩, hra⟩ := HA.out.since S1.out.drew k hkl
      obtain ⟨b2, o2, rfl, B', m2, d', ⟨z0, z1, z2, z3, z4, z5⟩, hrb⟩ := HB.out.since S1.out.drew k hkl2
      obtain ⟨x, hx⟩ : ∃ x, x = es[k] := ⟨_, rfl⟩
      obtain ⟨y, hy⟩ : ∃ y, y = fs[k] := ⟨_, rfl⟩
      rw [← hx] at y0 y1 y2 y3 y4 hra
      rw [← hy] at z0 z1 z2 z3 z4 hrb
      have HDX := Lib.hid (show m' ≤ 4611686018427387904 by have h := HD.out _ (List.getElem_mem hkl); rw [← hx] at h; have := hra.len; dsimp only at this; omega)
      have HDY := Lib.hid (show m2 ≤ 4611686018427387904 by have h := HD2.out _ (List.getElem_mem hkl2); rw [← hy] at h; have := hrb.len; dsimp only at this; omega)
      have HNX := Lib.hid (show x = y → es.take (k + 1) = fs.take (k + 1) by
        intro hxy
        rw [List.take_succ_eq_append_getElem hkl, List.take_succ_eq_append_getElem hkl2, ← hx, ← hy, hxy, HTK.out])
      have HNO := Lib.hid (show es = fs → x = y by
        intro hxy
        rw [hx, hy]
        simp only [hxy])
      have HRA := Lib.hid hra; have HRB := Lib.hid hrb
      clear hx hy hra hrb
      go_wp2_with fail
      go_region_law (first
        | (go_simp; go_at_call 71; refine (SameEntry_dec x y A' B' m' c' m2 d' _ HRA.out HRB.out HDX.out HDY.out).mono ?_; rintro e w3 ⟨bb, hbb, rfl, hs3⟩; have S3 := Lib.hid (S1.out.drew.add hs3); have HBB := Lib.hid hbb; clear hbb hs3)
        | fail "arm")
      all_goals
        clear y0 y1 y2 y3 y4 y5 z0 z1 z2 z3 z4 z5
        cases bb with
        | false =>
          have HFIN := Lib.hid (show SaidD w (es = fs) (.returned (.bool false)) _ from ⟨false, by simp; intro h; exact absurd (HBB.out.2 (HNO.out h)) (by decide), rfl, S3.out⟩)
          go_wp2
          go_ret
          exact HFIN.out
        | true =>
          have HTK2 := Lib.hid (HNX.out (HBB.out.1 rfl))
          go_wp2_with fail
          go_roundw
          case rel => exact ⟨k + 1, by omega, by go_num, HTK2.out, S3.out⟩
          case measure => simp [intOf]; omega
    · have i1 : ¬ (k : Int) < (n : Int) := by omega
      have HFIN := Lib.hid (show SaidD w (es = fs) (.returned (.bool true)) _ from ⟨true, by
        have h := HTK.out
        rw [List.take_of_length_le (by have := HL.out; omega), List.take_of_length_le (by have := HL2.out; omega)] at h
        simp [h], rfl, S1.out⟩)
      go_wp2
      go_ret
      exact HFIN.out
end Go.Proofs.YtfpjmeknjhhakaaGreat.K
