/- The contract of the reference store's Read. -/
import Derived.Test.YtfpjmeknjhhakaaSqRefDo2
import Derived.Test.YtfpjmeknjhhakaaSqFrRefScan
import Derived.Test.YtfpjmeknjhhakaaSqLaw22L
namespace Go.Proofs.Ytfpjmeknjhhakaa.K
open Go Go.RowKit Go.Maps

set_option maxHeartbeats 4000000 in
set_option maxRecDepth 100000 in
theorem rDo_other (w : World) (G : Nat) (c : S.Cl) (xs : List EV) (k : Int) (B0 : Option Addr) (m0 c0 : Nat) (d : List (BitVec 8)) (hr : RowRd w ⟨B0, m0, c0⟩ d) (hm : m0 ≤ 1000000000) (k1 : k ≠ 1) (k2 : k ≠ 2) :
    Calls Try.prog 60 #[.pointer (some ⟨G, 0, none⟩), .agg #[.int .i64 k, .slice B0 m0 c0]] w (RDoPost w G c xs ⟨k, d⟩) := by
  have BK0 := Lib.hid ((Bank.nil (Below.refl w.heap.size w)).box #[.int .i64 k, .slice B0 m0 c0] 46 (by simp))
  have HR := Lib.hid (Since.row BK0.out.since hr)
  clear hr
  go_enter Try.func60, Try.ntmps60
  go_wp2_with fail
  obtain ⟨F0, hF0⟩ : ∃ F0, F0 = w.heap.size := ⟨_, rfl⟩
  rw [← hF0] at BK0
  rw [← hF0]
  generalize w.alloc (.cells #[.int .i64 k, .slice B0 m0 c0] 46) = wa at *
  refine (rNew_any B0 m0 c0 d wa HR.out (by omega)).mono ?_
  rintro e w2 ⟨R, Bd, cB, rfl, hR, hq, hBd, hb⟩
  have BK2 := Lib.hid (BK0.out.call hb)
  have x0 := BK2.out.cell 0 rfl 0 rfl
  have HFIN := Lib.hid (show RDoPost w G c xs ⟨k, d⟩ (.returned (.bool false)) w2 from .inl ⟨by simp [S.sdo, k1, k2], rfl, BK2.out.since⟩)
  clear hq hBd hb hR BK0 hF0
  go_wp2
  go_ret
  exact HFIN.out
theorem rDo_any (w : World) (G : Nat) (c : S.Cl) (A : Option Addr) (n cE : Nat) (xs : List EV) (f : F.Fr) (B0 : Option Addr) (m0 c0 : Nat) (hM : RBox w G c A n cE) (hE : w.ownsRow 0 81 6 (.slice A n cE) n (xs.flatMap EV.cells)) (hn : xs.length = n) (hn2 : n ≤ 1000000) (hr : RowRd w ⟨B0, m0, c0⟩ f.data) (hm : m0 ≤ 1000000000) :
    Calls Try.prog 60 #[.pointer (some ⟨G, 0, none⟩), .agg #[.int .i64 f.kind, .slice B0 m0 c0]] w (RDoPost w G c xs f) := by
  obtain ⟨k, d⟩ := f
  by_cases k1 : k = 1
  · subst k1; exact rDo_set w G c A n cE xs B0 m0 c0 d hM hr hm
  by_cases k2 : k = 2
  · subst k2; exact rDo_stand w G c A n cE xs B0 m0 c0 d hM hE hn hn2 hr hm
  · exact rDo_other w G c xs k B0 m0 c0 d hr hm k1 k2
/-- the reference's store as accounts, ahead of the rest -/
def RfL (G : Nat) (c : S.Cl) (A : Option Addr) (cE : Nat) (xs : List EV) (L : List Acc) : List Acc := boxAcc G 85 (refCells c A xs.length cE) :: evsAcc A xs.length cE xs :: (evRows xs ++ L)
theorem rf_box {w0 w : World} {G : Nat} {c : S.Cl} {A : Option Addr} {cE : Nat} {xs : List EV} {L : List Acc} (h : Bank w0 w (RfL G c A cE xs L)) : RBox w G c A xs.length cE := (h.boxAt 0 rfl).2
theorem rf_own {w0 w : World} {G : Nat} {c : S.Cl} {A : Option Addr} {cE : Nat} {xs : List EV} {L : List Acc} (h : Bank w0 w (RfL G c A cE xs L)) : w.ownsRow 0 81 6 (.slice A xs.length cE) xs.length (xs.flatMap EV.cells) := row_base (h.at 1 rfl) (Nat.zero_le _)
theorem rf_rd {w0 w : World} {G : Nat} {c : S.Cl} {A : Option Addr} {cE : Nat} {xs : List EV} {L : List Acc} (h : Bank w0 w (RfL G c A cE xs L)) : EntsRd w A (xs.map EV.e) :=
  evs_rd (n := xs.length) (c := cE) h (.tail _ (.head _)) (fun x hx => .tail _ (.tail _ (List.mem_append_left _ (List.mem_map.2 ⟨x, by simpa using hx, rfl⟩)))) rfl
theorem rf_c {w0 w : World} {G : Nat} {c : S.Cl} {A : Option Addr} {cE : Nat} {xs : List EV} {L : List Acc} (h : Bank w0 w (RfL G c A cE xs L)) : RefC w G c A xs.length cE := ⟨h.cell 0 rfl 0 rfl, h.cell 0 rfl 1 rfl, h.cell 0 rfl 2 rfl, h.cell 0 rfl 3 rfl, h.cell 0 rfl 4 rfl⟩
theorem Bank.permS {w0 w : World} {L L' : List Acc} (h : Bank w0 w L) (hp : L.Perm L') : Bank w0 w L' := ⟨h.since, fun p hm => h.own p (hp.mem_iff.2 hm), (List.Perm.pairwise_iff (fun {_ _} h => Apartness.symm h) hp).1 h.sep⟩
/-- behind a frame -/
theorem rf_done {w0 w w' : World} {G : Nat} {c : S.Cl} {A : Option Addr} {cE : Nat} {xs : List EV} {L : List Acc} {f : F.Fr} {e : Ending} (h : Bank w0 w (RfL G c A cE xs L)) (hp : RDoPost w G c xs f e w') :
    (S.sdo ⟨c, xs.map EV.e⟩ f = none ∧ e = .returned (.bool false) ∧ Bank w0 w' (RfL G c A cE xs L)) ∨
    (∃ c' A' cE' xs', S.sdo ⟨c, xs.map EV.e⟩ f = some ⟨c', xs'.map EV.e⟩ ∧ xs'.length ≤ xs.length + 1 ∧ e = .returned (.bool true) ∧ Bank w0 w' (RfL G c' A' cE' xs' L)) := by
  rcases hp with ⟨h1, he, hs⟩ | ⟨c', w1, h1, he, hs, rfl⟩ | ⟨w1, q, A', cE', en, B, m, cB, h1, hq, he, hB, rfl⟩
  · exact .inl ⟨h1, he, h.call hs⟩
  · exact .inr ⟨c', A, cE, xs, h1, by omega, he, ((((h.call hs).boxSet 0 rfl 0 (.int .i64 c'.term)).boxSet 0 rfl 1 (.int .i64 c'.vote)).boxSet 0 rfl 2 (.int .i64 c'.applied)).boxSet 0 rfl 3 (.int .i64 c'.active)⟩
  · have hl : (xs.take q ++ [⟨en, B, m, cB⟩] : List EV).length = q + 1 := by simp; omega
    refine .inr ⟨c, A', cE', _, h1, by omega, he, ?_⟩
    have h2 : Bank w0 (w1.setCell ⟨G, 4, none⟩ (.slice A' (q + 1) cE')) ([evsAcc A' (q + 1) cE' (xs.take q ++ [⟨en, B, m, cB⟩]), rowAcc B m cB en.data] ++ boxAcc G 85 (refCells c A' (q + 1) cE') :: (evsAcc A xs.length cE xs :: (evRows xs ++ L))) := (bank_underS h hB).boxSet 2 rfl 4 (.slice A' (q + 1) cE')
    have h3 := (h2.permS (L' := boxAcc G 85 (refCells c A' (q + 1) cE') :: ([evsAcc A' (q + 1) cE' (xs.take q ++ [⟨en, B, m, cB⟩]), rowAcc B m cB en.data] ++ (evsAcc A xs.length cE xs :: (evRows xs ++ L)))) List.perm_middle).sub (L' := boxAcc G 85 (refCells c A' (q + 1) cE') :: evsAcc A' (q + 1) cE' (xs.take q ++ [⟨en, B, m, cB⟩]) :: ((rowAcc B m cB en.data :: evRows (xs.take q)) ++ L)) (.cons_cons _ (.cons_cons _ (.cons_cons _ (.cons _ ((evRows_take xs q).append (List.Sublist.refl _))))))
    show Bank w0 _ (boxAcc G _ (refCells c A' _ cE') :: evsAcc A' _ cE' _ :: (evRows _ ++ L))
    rw [hl, evRows_snoc]
    exact h3
/-- a reference's frame of a bank's -/
theorem rfr_at {w0 w : World} {L : List Acc} {Fa : Option Addr} {cF : Nat} {ps : List FR} (h : Bank w0 w L) (ha : rfrAcc Fa cF ps ∈ L) (hr : ∀ p ∈ ps, p.acc ∈ L) (i : Nat) (hi : i < ps.length) :
    ∃ g, Fa = some ⟨g, 0, none⟩ ∧ w.cell? ⟨g, i * 2, none⟩ = some (.int .i64 ps[i].k) ∧ w.cell? ⟨g, i * 2 + 1, none⟩ = some (.slice ps[i].x.A ps[i].x.n ps[i].x.c) ∧ RowRd w ⟨ps[i].x.A, ps[i].x.n, ps[i].x.c⟩ ps[i].bs := by
  have hx := h.own _ (hr _ (List.getElem_mem hi))
  have ho := h.own _ ha
  have hA : ∃ g, Fa = some ⟨g, 0, none⟩ := by
    rcases ho.2 with ⟨h0, _⟩ | ⟨g, cap, cur, hv, _⟩
    · exfalso
      have h1 : ps.length = 0 := by
        simp only [rfrAcc, Value.slice.injEq] at h0
        exact h0.2.1
      omega
    · simp only [rfrAcc, Value.slice.injEq] at hv
      exact ⟨g, hv.1⟩
  obtain ⟨g, rfl⟩ := hA
  have hc : ∀ j, j < 2 → w.cell? ⟨g, i * 2 + j, none⟩ = (ps[i]).cells[j]? := fun j hj => (World.ownsRow.cellAt ho (i * 2 + j) (by show _ < ps.length * 2; omega)).trans (flat2 ps i j hi hj)
  exact ⟨g, rfl, hc 0 (by omega), hc 1 (by omega), RowRd.of_row hx⟩
/-- a file's bytes were read -/
def RReadPost (w : World) (bs : List (BitVec 8)) (e : Ending) (w' : World) : Prop :=
  (S.sdos S.zero (F.scan bs).1 = none ∧ e = .returned (.tuple #[.pointer none, .int .i64 0, .bool false]) ∧ Since w w') ∨
  (∃ G c' A' cE' xs', S.sdos S.zero (F.scan bs).1 = some ⟨c', xs'.map EV.e⟩ ∧ e = .returned (.tuple #[.pointer (some ⟨G, 0, none⟩), .int .i64 ((F.scan bs).2.1 : Int), .bool (!(F.scan bs).2.2)]) ∧ Bank w w' (RfL G c' A' cE' xs' []))
set_option maxHeartbeats 4000000 in
set_option maxRecDepth 100000 in
theorem rRead_any (A : Option Addr) (n c : Nat) (bs : List (BitVec 8)) (w : World) (hr : RowRd w ⟨A, n, c⟩ bs) (hn : n ≤ c) (hc : c ≤ 9223372036854775807) (hl : bs.length ≤ 8388608) :
    Calls Try.prog 31 #[.slice A n c] w (RReadPost w bs) := by
  have HSC := Lib.hid (rscan_any A n c bs w hr hn hc (by omega))
  clear hr
  go_enter Try.func31, Try.ntmps31
  go_wp2_with fail
  refine HSC.out.mono ?_
  rintro e w1 ⟨ps, Fa, cF, u, s, rfl, hsc, hu, hp9, hB⟩
  have hpn : ∀ p ∈ ps, p.x.n ≤ 100000000 := fun p hp => by
    have h1 : p.bs.length = p.x.n := (RowRd.of_row (A := p.x.A) (n := p.x.n) (c := p.x.c) (hB.own p.acc (.tail _ (List.mem_map.2 ⟨p, by simpa using hp, rfl⟩)))).len
    have h2 := (scan_fr hsc p hp).2
    omega
  have h2 := ((hB.none 81 6).box #[.int .i64 0, .int .i64 0, .int .i64 0, .int .i64 0, .slice none 0 0] 85 (by simp))
  have H2 : Hid (Bank w _ (RfL w1.heap.size S.zeroCl none 0 [] (rfrAcc Fa cF ps :: ps.reverse.map FR.acc))) := Lib.hid h2
  have HSCN := Lib.hid hsc; have HPN := Lib.hid hpn
  obtain ⟨m, hm⟩ : ∃ m, m = ps.length := ⟨_, rfl⟩
  have HM := Lib.hid hm
  have hm9 : m * 9 ≤ 8388608 := by omega
  obtain ⟨fs, hfs⟩ : ∃ fs, fs = ps.map FR.fr := ⟨_, rfl⟩
  have HFS := Lib.hid hfs
  have HF1 := Lib.hid (show (F.scan bs).1 = fs by rw [hsc, hfs])
  have HF2 := Lib.hid (show (F.scan bs).2.1 = u by rw [hsc])
  have HF3 := Lib.hid (show (F.scan bs).2.2 = s by rw [hsc])
  rw [← hm]
  clear hsc hp9 hB h2 hpn hu hm hfs HSC
  go_wp2_with fail
  obtain ⟨G, hG⟩ : ∃ G, G = w1.heap.size := ⟨_, rfl⟩
  rw [← hG] at H2
  rw [← hG]
  clear hG
  go_loopw [9] (fun i wr => ∃ (k : Nat) (c' : S.Cl) (A' : Option Addr) (cE' : Nat) (xs' : List EV), k ≤ m ∧ i = .int .i64 (k : Int) ∧ S.sdos S.zero (fs.take k) = some ⟨c', xs'.map EV.e⟩ ∧ xs'.length ≤ k ∧ Bank w wr (RfL G c' A' cE' xs' (rfrAcc Fa cF ps :: ps.reverse.map FR.acc))) (fun i _ => m - (intOf i).toNat)
  case atStart => exact ⟨0, S.zeroCl, none, 0, [], by omega, rfl, by rw [List.take_zero]; rfl, Nat.le_refl _, H2.out⟩
  case round =>
    clear H2
    obtain ⟨k, c', A', cE', xs', hk, rfl, hsd, hxl, hS⟩ := hrel
    have k0 : (0 : Int) ≤ (k : Int) := by omega
    have HSK := Lib.hid hsd
    have H3 := Lib.hid hS
    rcases Nat.lt_or_ge k m with h1 | h1
    · have i1 : (k : Int) < (m : Int) := by omega
      have hkp : k < ps.length := by rw [← HM.out]; exact h1
      obtain ⟨g, hFa, x0, x1, hrd⟩ := rfr_at hS (.tail _ (.tail _ (List.mem_append_right _ (.head _)))) (fun p hp => .tail _ (.tail _ (List.mem_append_right _ (.tail _ (List.mem_map.2 ⟨p, by simpa using hp, rfl⟩))))) k hkp
      obtain ⟨p, hpe⟩ : ∃ p, p = ps[k] := ⟨_, rfl⟩
      rw [← hpe] at x0 x1 hrd
      have hpm : p ∈ ps := by rw [hpe]; exact List.getElem_mem hkp
      have hfk : fs.take (k + 1) = fs.take k ++ [p.fr] := by
        rw [HFS.out, ← List.map_take, ← List.map_take, List.take_succ_eq_append_getElem hkp, List.map_append, hpe]; rfl
      subst hFa
      have HDO := Lib.hid (rDo_any wr G c' A' xs'.length cE' xs' p.fr p.x.A p.x.n p.x.c (rf_box hS) (rf_own hS) rfl (by omega) hrd (by have := HPN.out p hpm; omega))
      have hnext : S.sdos S.zero (fs.take (k + 1)) = S.sdo ⟨c', xs'.map EV.e⟩ p.fr := by
        rw [hfk, S.sdos_append, hsd]
        simp [S.sdos]
      have HNX := Lib.hid hnext
      clear hsd hS hrd hpe hfk hnext
      go_wp2_with fail
      refine HDO.out.mono ?_
      rintro e w4 hp4
      rcases rf_done H3.out hp4 with ⟨h2, rfl, h4⟩ | ⟨c5, A5, cE5, xs5, h2, h5, rfl, h4⟩
      · have hno : S.sdos S.zero fs = none := by
          cases hx : S.sdos S.zero fs with
          | none => rfl
          | some t =>
            exfalso
            obtain ⟨t2, ht2⟩ := S.sdos_take hx (k + 1)
            rw [HNX.out, h2] at ht2
            cases ht2
        have HFIN := Lib.hid (show RReadPost w bs (.returned (.tuple #[.pointer none, .int .i64 0, .bool false])) w4 from .inl ⟨by rw [HF1.out]; exact hno, rfl, h4.since⟩)
        clear h2 h4 hno HDO x0 x1 hp4
        go_wp2
        go_ret3
        exact HFIN.out
      · have HS5 := Lib.hid h4
        have HN5 := Lib.hid (HNX.out.trans h2)
        clear h2 h4 HDO x0 x1 hp4
        go_wp2_with fail
        go_roundw
        case rel => exact ⟨k + 1, c5, A5, cE5, xs5, by omega, by go_num, HN5.out, by omega, HS5.out⟩
        case measure => simp [intOf]; omega
    · have i1 : ¬ (k : Int) < (m : Int) := by omega
      obtain rfl : k = m := by omega
      have HFIN := Lib.hid (show RReadPost w bs (.returned (.tuple #[.pointer (some ⟨G, 0, none⟩), .int .i64 (u : Int), .bool (!s)])) wr from .inr ⟨G, c', A', cE', xs', by
        rw [HF1.out]
        have h := HSK.out
        rw [List.take_of_length_le (by rw [HFS.out, List.length_map, ← HM.out]; omega)] at h
        exact h, by rw [HF2.out, HF3.out], H3.out.sub (.cons_cons _ (.cons_cons _ ((List.Sublist.refl _).append (List.nil_sublist _))))⟩)
      clear hsd hS
      go_wp2
      go_ret3
      exact HFIN.out
end Go.Proofs.Ytfpjmeknjhhakaa.K
