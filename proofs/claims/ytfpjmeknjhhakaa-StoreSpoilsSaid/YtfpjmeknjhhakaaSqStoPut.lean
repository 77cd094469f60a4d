/- The contract of store's put. -/
import Derived.Test.YtfpjmeknjhhakaaSqStoLift
import Derived.Test.YtfpjmeknjhhakaaSq8
namespace Go.Proofs.Ytfpjmeknjhhakaa.K
open Go Go.RowKit Go.Maps

theorem app_any (w0 w : World) (D R : Nat) (room : Int) (o : Option Fil) (L : List Acc) (B : Option Addr) (m c : Nat) (bs : List (BitVec 8)) (h : Dk w0 w D R room o L) (hr : RowRd w ⟨B, m, c⟩ bs) (hn : olen o ≤ 100000000) (hm : m ≤ 100000000) :
    Calls Try.prog 29 #[.pointer (some ⟨D, 0, none⟩), .string storeS, .slice B m c] w (AppPost w0 D R room o L m bs) := by
  cases o with
  | none => exact appN_any w0 w D R room L B m c bs h hr hm
  | some f => exact appF_any w0 w D R room f L B m c bs h hr hn hm
/-- frames as accounts, ahead of the rest -/
def frL (Fa : Option Addr) (cF : Nat) (ps : List FR) (L : List Acc) : List Acc := frAcc Fa cF ps :: (ps.reverse.map FR.acc ++ L)
theorem flat2 : ∀ (ps : List FR) (i j : Nat) (hi : i < ps.length), j < 2 → (ps.flatMap FR.cells)[i * 2 + j]? = (ps[i]).cells[j]?
  | [], i, j, hi, hj => absurd hi (Nat.not_lt_zero _)
  | x :: ps, 0, j, hi, hj => by
    rw [List.flatMap_cons, Nat.zero_mul, Nat.zero_add, List.getElem?_append_left (show j < 2 from hj)]; rfl
  | x :: ps, i + 1, j, hi, hj => by
    rw [List.flatMap_cons, List.getElem?_append_right (show 2 ≤ (i + 1) * 2 + j by omega), show (i + 1) * 2 + j - x.cells.length = i * 2 + j by show (i + 1) * 2 + j - 2 = _; omega]
    exact flat2 ps i j (by simpa using hi) hj
/-- a frame of a bank's -/
theorem fr_at {w0 w : World} {L : List Acc} {Fa : Option Addr} {cF : Nat} {ps : List FR} (h : Bank w0 w L) (ha : frAcc Fa cF ps ∈ L) (hr : ∀ p ∈ ps, p.acc ∈ L) (i : Nat) (hi : i < ps.length) :
    ∃ g, Fa = some ⟨g, 0, none⟩ ∧ w.cell? ⟨g, i * 2, none⟩ = some (.int .i64 ps[i].k) ∧ w.cell? ⟨g, i * 2 + 1, none⟩ = some (.slice ps[i].x.A ps[i].x.n ps[i].x.c) ∧ RowRd w ⟨ps[i].x.A, ps[i].x.n, ps[i].x.c⟩ ps[i].bs := by
  have hx := h.own _ (hr _ (List.getElem_mem hi))
  have ho := h.own _ ha
  have hA : ∃ g, Fa = some ⟨g, 0, none⟩ := by
    rcases ho.2 with ⟨h0, _⟩ | ⟨g, cap, cur, hv, _⟩
    · exfalso
      have h1 : ps.length = 0 := by
        simp only [frAcc, Value.slice.injEq] at h0
        exact h0.2.1
      omega
    · simp only [frAcc, Value.slice.injEq] at hv
      exact ⟨g, hv.1⟩
  obtain ⟨g, rfl⟩ := hA
  have hc : ∀ j, j < 2 → w.cell? ⟨g, i * 2 + j, none⟩ = (ps[i]).cells[j]? := fun j hj => (World.ownsRow.cellAt ho (i * 2 + j) (by show _ < ps.length * 2; omega)).trans (flat2 ps i j hi hj)
  exact ⟨g, rfl, hc 0 (by omega), hc 1 (by omega), RowRd.of_row hx⟩
theorem fr_ones {w0 w : World} {L : List Acc} {Fa : Option Addr} {cF : Nat} {ps : List FR} (h : Bank w0 w L) (ha : frAcc Fa cF ps ∈ L) (hr : ∀ p ∈ ps, p.acc ∈ L) (hk : ∀ p ∈ ps, M.inI64 p.k) : Ones w Fa (ps.map FR.fr) := fun i hi => by
  rw [List.length_map] at hi
  obtain ⟨g, rfl, h0, h1, h2⟩ := fr_at h ha hr i hi
  have hx := h.own _ (hr _ (List.getElem_mem hi))
  refine ⟨g, 0, rfl, ps[i].x.A, ps[i].x.n, ps[i].x.c, fun j u hu => ?_, by rw [List.getElem_map]; exact hk _ (List.getElem_mem hi), by rw [List.getElem_map]; exact h2, ?_⟩
  · rw [List.getElem_map] at hu
    rw [Nat.zero_add]
    match j, hu with
    | 0, hu => cases hu; exact h0
    | 1, hu => cases hu; exact h1
  · rcases hx.2 with ⟨h3, _⟩ | ⟨g', cap, cur, hv, _, _, h4, h5, _⟩
    · replace h3 : Value.slice ps[i].x.A ps[i].x.n ps[i].x.c = .slice none 0 0 := h3
      simp only [Value.slice.injEq] at h3
      omega
    · replace hv : Value.slice ps[i].x.A ps[i].x.n ps[i].x.c = .slice (some ⟨g', 0, none⟩) ps[i].x.n cap := hv
      simp only [Value.slice.injEq, true_and] at hv
      replace h4 : ps[i].x.n ≤ cap := h4
      unfold maxLen at h5
      omega
/-- frames were put and done, or there was no room -/
def PutS (w0 : World) (D R : Nat) (room : Int) (o : Option Fil) (Z : Nat) (c : S.Cl) (A : Option Addr) (cE : Nat) (xs : List EV) (L : List Acc) (fs : List F.Fr) (st : S.St) (e : Ending) (w' : World) : Prop :=
  (8388608 < olen o + (F.pbytes fs).length ∧ e = .returned (.int .i64 3) ∧ SK w0 w' D R room o Z c A cE xs L) ∨
  (¬ 8388608 < olen o + (F.pbytes fs).length ∧ room < ((olen o + (F.pbytes fs).length : Nat) : Int) ∧ e = .returned (.int .i64 5) ∧ SK w0 w' D R room o Z c A cE xs L) ∨
  (¬ 8388608 < olen o + (F.pbytes fs).length ∧ ¬ room < ((olen o + (F.pbytes fs).length : Nat) : Int) ∧ e = .returned (.int .i64 0) ∧ ∃ g A2 c2 c' A' cE' xs', st = ⟨c', xs'.map EV.e⟩ ∧ xs'.length ≤ xs.length + fs.length ∧
    SK w0 w' D R room (some ⟨g, A2, olen o + (F.pbytes fs).length, c2, obytes o ++ F.pbytes fs, osafe o⟩) Z c' A' cE' xs' L)
set_option maxHeartbeats 4000000 in
set_option maxRecDepth 100000 in
theorem sput_any (w0 w : World) (D R : Nat) (room : Int) (o : Option Fil) (Z : Nat) (c : S.Cl) (A : Option Addr) (cE : Nat) (xs : List EV) (L : List Acc) (Fa : Option Addr) (cF : Nat) (ps : List FR) (st : S.St) (m : Nat)
    (h : SK w0 w D R room o Z c A cE xs (frL Fa cF ps L)) (hm : ps.length = m) (hk : ∀ p ∈ ps, M.inI64 p.k) (hp : F.perr (ps.map FR.fr) = 0) (hs : S.sdos ⟨c, xs.map EV.e⟩ (ps.map FR.fr) = some st) (hT : (F.pbytes (ps.map FR.fr)).length ≤ 100000000) (ho : olen o ≤ 100000000) (hx : xs.length + m ≤ 900000) (hd : ∀ p ∈ ps, p.x.n ≤ 100000000) :
    Calls Try.prog 68 #[.pointer (some ⟨Z, 0, none⟩), .slice Fa m cF] w (PutS w0 D R room o Z c A cE xs L (ps.map FR.fr) st) := by
  have hmemF : frAcc Fa cF ps ∈ StL Z D c A cE xs (frL Fa cF ps L) := .tail _ (.tail _ (List.mem_append_right _ (.head _)))
  have hmemR : ∀ p ∈ ps, p.acc ∈ StL Z D c A cE xs (frL Fa cF ps L) := fun p hp => .tail _ (.tail _ (List.mem_append_right _ (.tail _ (List.mem_append_left _ (List.mem_map.2 ⟨p, by simpa using hp, rfl⟩)))))
  have HPUT := Lib.hid (put_any Fa m cF (ps.map FR.fr) w (fr_ones h.dk.rest hmemF hmemR hk) (by rw [List.length_map, hm]) (by omega))
  have HP := Lib.hid hp; have HSD := Lib.hid hs; have HT := Lib.hid hT; have HM := Lib.hid hm; have HKK := Lib.hid hk; have HD := Lib.hid hd
  have H0 := Lib.hid h
  have c0 := h.box.c0
  clear h hm hk hp hs hT hd hmemF hmemR
  obtain ⟨fs, hfs⟩ : ∃ fs, fs = ps.map FR.fr := ⟨_, rfl⟩
  rw [← hfs] at HPUT HP HSD HT ⊢
  have HFS := Lib.hid hfs
  clear hfs
  go_enter Try.func68, Try.ntmps68
  go_wp2_with fail
  refine HPUT.out.mono ?_
  rintro e w1 ⟨B, N, cB, rfl, hN, hob, hsb⟩
  rw [HP.out, show ((0 : Nat) : Int) = 0 from rfl]
  have hpo : pout fs = F.pbytes fs := by unfold pout; rw [if_pos HP.out]
  rw [hpo] at hN hob
  have H1 := Lib.hid (H0.out.dk.madeB hsb hob)
  have HN := Lib.hid hN
  have c0 := (H0.out.call hsb).box.c0
  clear hN hob hsb hpo H0 HPUT
  have c0 := c0
  have HAP := Lib.hid (app_any w0 w1 D R room o _ B N cB (F.pbytes fs) H1.out (H1.out.row 0 rfl) ho (by have h1 := HN.out; have h2 := HT.out; omega))
  clear H1
  unfold storeS at HAP
  go_wp2_with fail
  refine HAP.out.mono ?_
  rintro e w2 (⟨a1, rfl, a2⟩ | ⟨a1, a3, rfl, a2⟩ | ⟨a1, a3, rfl, a2⟩)
  · have HFIN := Lib.hid (show PutS w0 D R room o Z c A cE xs L fs st (.returned (.int .i64 3)) w2 from .inl ⟨by rw [← HN.out]; exact a1, rfl, (a2.sub (.cons _ (List.Sublist.refl _))).sub (.cons_cons _ (.cons_cons _ ((List.Sublist.refl _).append (.cons _ (List.sublist_append_right _ _)))))⟩)
    clear a1 a2 HAP
    go_wp2
    go_ret
    exact HFIN.out
  · have HFIN := Lib.hid (show PutS w0 D R room o Z c A cE xs L fs st (.returned (.int .i64 5)) w2 from .inr (.inl ⟨by rw [← HN.out]; exact a1, by rw [← HN.out]; exact a3, rfl, (a2.sub (.cons _ (List.Sublist.refl _))).sub (.cons_cons _ (.cons_cons _ ((List.Sublist.refl _).append (.cons _ (List.sublist_append_right _ _)))))⟩))
    clear a1 a2 a3 HAP
    go_wp2
    go_ret
    exact HFIN.out
  obtain ⟨g2, A2, c2, hD2⟩ := a2
  rw [HN.out] at a1 a3 hD2
  have HA1 := Lib.hid a1; have HA3 := Lib.hid a3
  have H2 := Lib.hid (show SK w0 w2 D R room (some ⟨g2, A2, olen o + (F.pbytes fs).length, c2, obytes o ++ F.pbytes fs, osafe o⟩) Z c A cE xs (frL Fa cF ps L) from hD2.sub (.cons _ (List.Sublist.refl _)))
  clear a1 a3 hD2 HAP c0
  obtain ⟨o2, ho2⟩ : ∃ o2, o2 = some (Fil.mk g2 A2 (olen o + (F.pbytes fs).length) c2 (obytes o ++ F.pbytes fs) (osafe o)) := ⟨_, rfl⟩
  rw [← ho2] at H2
  have HO2 := Lib.hid ho2
  clear ho2
  go_wp2_with fail
  go_loopw [29] (fun i wr => ∃ (k : Nat) (c' : S.Cl) (A' : Option Addr) (cE' : Nat) (xs' : List EV), k ≤ m ∧ i = .int .i64 (k : Int) ∧ S.sdos ⟨c, xs.map EV.e⟩ (fs.take k) = some ⟨c', xs'.map EV.e⟩ ∧ xs'.length ≤ xs.length + k ∧ SK w0 wr D R room o2 Z c' A' cE' xs' (frL Fa cF ps L)) (fun i _ => m - (intOf i).toNat)
  case atStart => exact ⟨0, c, A, cE, xs, by omega, rfl, by rw [List.take_zero]; rfl, by omega, H2.out⟩
  case round =>
    clear H2
    obtain ⟨k, c', A', cE', xs', hk, rfl, hsd, hxl, hS⟩ := hrel
    have k0 : (0 : Int) ≤ (k : Int) := by omega
    have HSK := Lib.hid hsd
    have H3 := Lib.hid hS
    rcases Nat.lt_or_ge k m with h1 | h1
    · have i1 : (k : Int) < (m : Int) := by omega
      have hkp : k < ps.length := by rw [HM.out]; exact h1
      obtain ⟨g, hFa, x0, x1, hrd⟩ := fr_at hS.dk.rest (.tail _ (.tail _ (List.mem_append_right _ (.head _)))) (fun p hp => .tail _ (.tail _ (List.mem_append_right _ (.tail _ (List.mem_append_left _ (List.mem_map.2 ⟨p, by simpa using hp, rfl⟩)))))) k hkp
      obtain ⟨p, hpe⟩ : ∃ p, p = ps[k] := ⟨_, rfl⟩
      rw [← hpe] at x0 x1 hrd
      have hpm : p ∈ ps := by rw [hpe]; exact List.getElem_mem hkp
      have hfk : fs.take (k + 1) = fs.take k ++ [p.fr] := by
        rw [HFS.out, ← List.map_take, ← List.map_take, List.take_succ_eq_append_getElem hkp, List.map_append, hpe]; rfl
      have HFK := Lib.hid hfk
      subst hFa
      have hs1 := Since.alloc (Below.refl wr.heap.size wr) (.cells #[.int .i64 p.k, .slice p.x.A p.x.n p.x.c] 36)
      have h4 := hS.call hs1
      have HDO := Lib.hid (do_any _ Z D c' A' xs'.length cE' xs' p.fr p.x.A p.x.n p.x.c h4.box h4.own rfl (by omega) (Since.row hs1 hrd) (by have := HD.out p hpm; omega) (HKK.out p hpm))
      have H4 := Lib.hid h4
      clear hsd hS hrd hpe hfk hs1 h4 H3
      go_wp2_with fail
      refine HDO.out.mono ?_
      rintro e w4 hp4
      have hnext : S.sdos ⟨c, xs.map EV.e⟩ (fs.take (k + 1)) = S.sdo ⟨c', xs'.map EV.e⟩ p.fr := by
        rw [HFK.out, S.sdos_append, HSK.out]
        simp [S.sdos]
      rcases H4.out.done hp4 with ⟨hn, _, _⟩ | ⟨c5, A5, cE5, xs5, hs5, hl5, rfl, hS5⟩
      · exfalso
        obtain ⟨t, ht⟩ := S.sdos_take HSD.out (k + 1)
        rw [hnext, hn] at ht
        cases ht
      · have HS5 := Lib.hid hS5
        have HN5 := Lib.hid (hnext.trans hs5)
        clear hS5 hnext hs5 hp4 HDO H4 x0 x1
        go_wp2_with fail
        go_roundw
        case rel => exact ⟨k + 1, c5, A5, cE5, xs5, by omega, by go_num, HN5.out, by omega, HS5.out⟩
        case measure => simp [intOf]; omega
    · have i1 : ¬ (k : Int) < (m : Int) := by omega
      obtain rfl : k = m := by omega
      clear hsd hS
      go_wp2
      go_ret
      refine .inr (.inr ⟨HA1.out, by have h := HA3.out; omega, rfl, g2, A2, c2, c', A', cE', xs', ?_, ?_, ?_⟩)
      · have h := HSK.out
        rw [List.take_of_length_le (by rw [HFS.out, List.length_map, HM.out]; omega), HSD.out] at h
        exact Option.some.inj h
      · rw [HFS.out, List.length_map, HM.out]; exact hxl
      · have h := H3.out
        rw [HO2.out] at h
        exact h.dk.sub (.cons_cons _ (.cons_cons _ ((List.Sublist.refl _).append (.cons _ (List.sublist_append_right _ _)))))
theorem SK.bank {w0 w : World} {D R : Nat} {room : Int} {o : Option Fil} {Z : Nat} {c : S.Cl} {A : Option Addr} {cE : Nat} {xs : List EV} {L : List Acc} (h : SK w0 w D R room o Z c A cE xs L) : Bank w0 w L := h.dk.rest.sub (.cons _ (.cons _ (List.sublist_append_right _ _)))
theorem SK.sub {w0 w : World} {D R : Nat} {room : Int} {o : Option Fil} {Z : Nat} {c : S.Cl} {A : Option Addr} {cE : Nat} {xs : List EV} {L L' : List Acc} (h : SK w0 w D R room o Z c A cE xs L) (hs : L'.Sublist L) : SK w0 w D R room o Z c A cE xs L' :=
  h.dk.sub (.cons_cons _ (.cons_cons _ ((List.Sublist.refl _).append hs)))
section
variable {w0 w' : World} {D R : Nat} {room : Int} {o : Option Fil} {Z : Nat} {c : S.Cl} {A : Option Addr} {cE : Nat} {xs : List EV} {L L' : List Acc} {fs : List F.Fr} {st : S.St} {e : Ending}
theorem PutS.bank (h : PutS w0 D R room o Z c A cE xs L fs st e w') : Bank w0 w' L := by
  rcases h with ⟨_, _, h⟩ | ⟨_, _, _, h⟩ | ⟨_, _, _, _, _, _, _, _, _, _, _, _, h⟩ <;> exact h.bank
theorem PutS.sub (h : PutS w0 D R room o Z c A cE xs L fs st e w') (hs : L'.Sublist L) : PutS w0 D R room o Z c A cE xs L' fs st e w' := by
  rcases h with ⟨h1, h2, h⟩ | ⟨h1, h2, h3, h⟩ | ⟨h1, h2, h3, g, A2, c2, c', A', cE', xs', h4, h5, h⟩
  · exact .inl ⟨h1, h2, h.sub hs⟩
  · exact .inr (.inl ⟨h1, h2, h3, h.sub hs⟩)
  · exact .inr (.inr ⟨h1, h2, h3, g, A2, c2, c', A', cE', xs', h4, h5, h.sub hs⟩)
theorem PutS.ret (h : PutS w0 D R room o Z c A cE xs L fs st e w') : ∃ n : Int, e = .returned (.int .i64 n) := by
  rcases h with ⟨_, h, _⟩ | ⟨_, _, h, _⟩ | ⟨_, _, h, _⟩ <;> exact ⟨_, h⟩
end
end Go.Proofs.Ytfpjmeknjhhakaa.K
