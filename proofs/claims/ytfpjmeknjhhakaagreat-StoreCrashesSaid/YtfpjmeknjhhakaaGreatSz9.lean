/- Merged: StoPut, StoKeep, StoSame, FrScanN, FrAllS, FrAll, FrRound, StoApp, FrScan, StoSmall. -/
import Derived.Test.YtfpjmeknjhhakaaGreatSz8
import Derived.WalkLawsBesides
set_option linter.unusedVariables false
/- The contract of store's put. -/
namespace Go.Proofs.YtfpjmeknjhhakaaGreat.K
open Go Go.RowKit Go.Maps

theorem app_any (w0 w : World) (D R : Nat) (room : Int) (o : Option Fil) (L : List Acc) (B : Option Addr) (m c : Nat) (bs : List (BitVec 8)) (h : Dk w0 w D R room o L) (hr : RowRd w ⟨B, m, c⟩ bs) (hn : olen o ≤ 100000000) (hm : m ≤ 100000000) :
    Calls Tryz.prog 78 #[.pointer (some ⟨D, 0, none⟩), .string storeS, .slice B m c] w (AppPost w0 D R room o L m bs) := by
  cases o with
  | none => exact appN_any w0 w D R room L B m c bs h hr hm
  | some f => exact appF_any w0 w D R room f L B m c bs h hr hn hm
/-- frames as accounts, ahead of the rest -/
def frL (Fa : Option Addr) (cF : Nat) (ps : List FR) (L : List Acc) : List Acc := frAcc Fa cF ps :: (ps.reverse.map FR.acc ++ L)
theorem flat2 : ∀ (ps : List FR) (i j : Nat) (hi : i < ps.length), j < 2 → (ps.flatMap FR.cells)[i * 2 + j]? = (ps[i]).cells[j]?
  | [], i, j, hi, hj => absurd hi (Nat.not_lt_zero _)
  | x :: ps, 0, j, hi, hj => by
    rw [List.flatMap_cons, Nat.zero_mul, Nat.zero_add, List.getElem?_append_left (show j < 2 from hj)]; rfl
  | x :: ps, i + 1, j, hi, hj => by
    rw [List.flatMap_cons, List.getElem?_append_right (show 2 ≤ (i + 1) * 2 + j by omega), show (i + 1) * 2 + j - x.cells.length = i * 2 + j by show (i + 1) * 2 + j - 2 = _; omega]
    exact flat2 ps i j (by simpa using hi) hj
/-- a frame of a bank's -/
theorem fr_at {w0 w : World} {L : List Acc} {Fa : Option Addr} {cF : Nat} {ps : List FR} (h : Bank w0 w L) (ha : frAcc Fa cF ps ∈ L) (hr : ∀ p ∈ ps, p.acc ∈ L) (i : Nat) (hi : i < ps.length) :
    ∃ g, Fa = some ⟨g, 0, none⟩ ∧ w.cell? ⟨g, i * 2, none⟩ = some (.int .i64 ps[i].k) ∧ w.cell? ⟨g, i * 2 + 1, none⟩ = some (.slice ps[i].x.A ps[i].x.n ps[i].x.c) ∧ RowRd w ⟨ps[i].x.A, ps[i].x.n, ps[i].x.c⟩ ps[i].bs := by
  have hx := h.own _ (hr _ (List.getElem_mem hi))
  have ho := h.own _ ha
  have hA : ∃ g, Fa = some ⟨g, 0, none⟩ := by
    rcases ho.2 with ⟨h0, _⟩ | ⟨g, cap, cur, hv, _⟩
    · exfalso
      have h1 : ps.length = 0 := by
        simp only [frAcc, Value.slice.injEq] at h0
        exact h0.2.1
      omega
    · simp only [frAcc, Value.slice.injEq] at hv
      exact ⟨g, hv.1⟩
  obtain ⟨g, rfl⟩ := hA
  have hc : ∀ j, j < 2 → w.cell? ⟨g, i * 2 + j, none⟩ = (ps[i]).cells[j]? := fun j hj => (World.ownsRow.cellAt ho (i * 2 + j) (by show _ < ps.length * 2; omega)).trans (flat2 ps i j hi hj)
  exact ⟨g, rfl, hc 0 (by omega), hc 1 (by omega), RowRd.of_row hx⟩
theorem fr_ones {w0 w : World} {L : List Acc} {Fa : Option Addr} {cF : Nat} {ps : List FR} (h : Bank w0 w L) (ha : frAcc Fa cF ps ∈ L) (hr : ∀ p ∈ ps, p.acc ∈ L) (hk : ∀ p ∈ ps, M.inI64 p.k) : Ones w Fa (ps.map FR.fr) := fun i hi => by
  rw [List.length_map] at hi
  obtain ⟨g, rfl, h0, h1, h2⟩ := fr_at h ha hr i hi
  have hx := h.own _ (hr _ (List.getElem_mem hi))
  refine ⟨g, 0, rfl, ps[i].x.A, ps[i].x.n, ps[i].x.c, fun j u hu => ?_, by rw [List.getElem_map]; exact hk _ (List.getElem_mem hi), by rw [List.getElem_map]; exact h2, ?_⟩
  · rw [List.getElem_map] at hu
    rw [Nat.zero_add]
    match j, hu with
    | 0, hu => cases hu; exact h0
    | 1, hu => cases hu; exact h1
  · rcases hx.2 with ⟨h3, _⟩ | ⟨g', cap, cur, hv, _, _, h4, h5, _⟩
    · replace h3 : Value.slice ps[i].x.A ps[i].x.n ps[i].x.c = .slice none 0 0 := h3
      simp only [Value.slice.injEq] at h3
      omega
    · replace hv : Value.slice ps[i].x.A ps[i].x.n ps[i].x.c = .slice (some ⟨g', 0, none⟩) ps[i].x.n cap := hv
      simp only [Value.slice.injEq, true_and] at hv
      replace h4 : ps[i].x.n ≤ cap := h4
      unfold maxLen at h5
      omega
/-- frames were put and done, or there was no room -/
def PutS (w0 : World) (D R : Nat) (room : Int) (o : Option Fil) (Z : Nat) (c : S.Cl) (A : Option Addr) (cE : Nat) (xs : List EV) (L : List Acc) (fs : List F.Fr) (st : S.St) (e : Ending) (w' : World) : Prop :=
  (8388608 < olen o + (F.pbytes fs).length ∧ e = .returned (.int .i64 3) ∧ SK w0 w' D R room o Z c A cE xs L) ∨
  (¬ 8388608 < olen o + (F.pbytes fs).length ∧ room < ((olen o + (F.pbytes fs).length : Nat) : Int) ∧ e = .returned (.int .i64 5) ∧ SK w0 w' D R room o Z c A cE xs L) ∨
  (¬ 8388608 < olen o + (F.pbytes fs).length ∧ ¬ room < ((olen o + (F.pbytes fs).length : Nat) : Int) ∧ e = .returned (.int .i64 0) ∧ ∃ g A2 c2 c' A' cE' xs', st = ⟨c', xs'.map EV.e⟩ ∧ xs'.length ≤ xs.length + fs.length ∧
    SK w0 w' D R room (some ⟨g, A2, olen o + (F.pbytes fs).length, c2, obytes o ++ F.pbytes fs, osafe o⟩) Z c' A' cE' xs' L)
set_option maxHeartbeats 4000000 in
set_option maxRecDepth 100000 in
theorem sput_any (w0 w : World) (D R : Nat) (room : Int) (o : Option Fil) (Z : Nat) (c : S.Cl) (A : Option Addr) (cE : Nat) (xs : List EV) (L : List Acc) (Fa : Option Addr) (cF : Nat) (ps : List FR) (st : S.St) (m : Nat)
    (h : SK w0 w D R room o Z c A cE xs (frL Fa cF ps L)) (hm : ps.length = m) (hk : ∀ p ∈ ps, M.inI64 p.k) (hp : F.perr (ps.map FR.fr) = 0) (hs : S.sdos ⟨c, xs.map EV.e⟩ (ps.map FR.fr) = some st) (hT : (F.pbytes (ps.map FR.fr)).length ≤ 100000000) (ho : olen o ≤ 100000000) (hx : xs.length + m ≤ 900000) (hd : ∀ p ∈ ps, p.x.n ≤ 100000000) :
    Calls Tryz.prog 50 #[.pointer (some ⟨Z, 0, none⟩), .slice Fa m cF] w (PutS w0 D R room o Z c A cE xs L (ps.map FR.fr) st) := by
  have hmemF : frAcc Fa cF ps ∈ StL Z D c A cE xs (frL Fa cF ps L) := .tail _ (.tail _ (List.mem_append_right _ (.head _)))
  have hmemR : ∀ p ∈ ps, p.acc ∈ StL Z D c A cE xs (frL Fa cF ps L) := fun p hp => .tail _ (.tail _ (List.mem_append_right _ (.tail _ (List.mem_append_left _ (List.mem_map.2 ⟨p, by simpa using hp, rfl⟩)))))
  have HPUT := Lib.hid (put_any Fa m cF (ps.map FR.fr) w (fr_ones h.dk.rest hmemF hmemR hk) (by rw [List.length_map, hm]) (by omega))
  have HP := Lib.hid hp; have HSD := Lib.hid hs; have HT := Lib.hid hT; have HM := Lib.hid hm; have HKK := Lib.hid hk; have HD := Lib.hid hd
  have H0 := Lib.hid h
  have c0 := h.box.c0
  clear h hm hk hp hs hT hd hmemF hmemR
  obtain ⟨fs, hfs⟩ : ∃ fs, fs = ps.map FR.fr := ⟨_, rfl⟩
  rw [← hfs] at HPUT HP HSD HT ⊢
  have HFS := Lib.hid hfs
  clear hfs
  go_enter Tryz.func50, Tryz.ntmps50
  go_wp2_with fail
  refine HPUT.out.mono ?_
  rintro e w1 ⟨B, N, cB, rfl, hN, hob, hsb⟩
  rw [HP.out, show ((0 : Nat) : Int) = 0 from rfl]
  have hpo : pout fs = F.pbytes fs := by unfold pout; rw [if_pos HP.out]
  rw [hpo] at hN hob
  have H1 := Lib.hid (H0.out.dk.madeB hsb hob)
  have HN := Lib.hid hN
  have c0 := (H0.out.call hsb).box.c0
  clear hN hob hsb hpo H0 HPUT
  have c0 := c0
  have HAP := Lib.hid (app_any w0 w1 D R room o _ B N cB (F.pbytes fs) H1.out (H1.out.row 0 rfl) ho (by have h1 := HN.out; have h2 := HT.out; omega))
  clear H1
  unfold storeS at HAP
  go_wp2_with fail
  refine HAP.out.mono ?_
  rintro e w2 (⟨a1, rfl, a2⟩ | ⟨a1, a3, rfl, a2⟩ | ⟨a1, a3, rfl, a2⟩)
  · have HFIN := Lib.hid (show PutS w0 D R room o Z c A cE xs L fs st (.returned (.int .i64 3)) w2 from .inl ⟨by rw [← HN.out]; exact a1, rfl, (a2.sub (.cons _ (List.Sublist.refl _))).sub (.cons_cons _ (.cons_cons _ ((List.Sublist.refl _).append (.cons _ (List.sublist_append_right _ _)))))⟩)
    clear a1 a2 HAP
    go_wp2
    go_ret
    exact HFIN.out
  · have HFIN := Lib.hid (show PutS w0 D R room o Z c A cE xs L fs st (.returned (.int .i64 5)) w2 from .inr (.inl ⟨by rw [← HN.out]; exact a1, by rw [← HN.out]; exact a3, rfl, (a2.sub (.cons _ (List.Sublist.refl _))).sub (.cons_cons _ (.cons_cons _ ((List.Sublist.refl _).append (.cons _ (List.sublist_append_right _ _)))))⟩))
    clear a1 a2 a3 HAP
    go_wp2
    go_ret
    exact HFIN.out
  obtain ⟨g2, A2, c2, hD2⟩ := a2
  rw [HN.out] at a1 a3 hD2
  have HA1 := Lib.hid a1; have HA3 := Lib.hid a3
  have H2 := Lib.hid (show SK w0 w2 D R room (some ⟨g2, A2, olen o + (F.pbytes fs).length, c2, obytes o ++ F.pbytes fs, osafe o⟩) Z c A cE xs (frL Fa cF ps L) from hD2.sub (.cons _ (List.Sublist.refl _)))
  clear a1 a3 hD2 HAP c0
  obtain ⟨o2, ho2⟩ : ∃ o2, o2 = some (Fil.mk g2 A2 (olen o + (F.pbytes fs).length) c2 (obytes o ++ F.pbytes fs) (osafe o)) := ⟨_, rfl⟩
  rw [← ho2] at H2
  have HO2 := Lib.hid ho2
  clear ho2
  go_wp2_with fail
  go_loopw [29] (fun i wr => ∃ (k : Nat) (c' : S.Cl) (A' : Option Addr) (cE' : Nat) (xs' : List EV), k ≤ m ∧ i = .int .i64 (k : Int) ∧ S.sdos ⟨c, xs.map EV.e⟩ (fs.take k) = some ⟨c', xs'.map EV.e⟩ ∧ xs'.length ≤ xs.length + k ∧ SK w0 wr D R room o2 Z c' A' cE' xs' (frL Fa cF ps L)) (fun i _ => m - (intOf i).toNat)
  case atStart => exact ⟨0, c, A, cE, xs, by omega, rfl, by rw [List.take_zero]; rfl, by omega, H2.out⟩
  case round =>
    clear H2
    obtain ⟨k, c', A', cE', xs', hk, rfl, hsd, hxl, hS⟩ := hrel
    have k0 : (0 : Int) ≤ (k : Int) := by omega
    have HSK := Lib.hid hsd
    have H3 := Lib.hid hS
    rcases Nat.lt_or_ge k m with h1 | h1
    · have i1 : (k : Int) < (m : Int) := by omega
      have hkp : k < ps.length := by rw [HM.out]; exact h1
      obtain ⟨g, hFa, x0, x1, hrd⟩ := fr_at hS.dk.rest (.tail _ (.tail _ (List.mem_append_right _ (.head _)))) (fun p hp => .tail _ (.tail _ (List.mem_append_right _ (.tail _ (List.mem_append_left _ (List.mem_map.2 ⟨p, by simpa using hp, rfl⟩)))))) k hkp
      obtain ⟨p, hpe⟩ : ∃ p, p = ps[k] := ⟨_, rfl⟩
      rw [← hpe] at x0 x1 hrd
      have hpm : p ∈ ps := by rw [hpe]; exact List.getElem_mem hkp
      have hfk : fs.take (k + 1) = fs.take k ++ [p.fr] := by
        rw [HFS.out, ← List.map_take, ← List.map_take, List.take_succ_eq_append_getElem hkp, List.map_append, hpe]; rfl
      have HFK := Lib.hid hfk
      subst hFa
      have hs1 := Since.alloc (Below.refl wr.heap.size wr) (.cells #[.int .i64 p.k, .slice p.x.A p.x.n p.x.c] 78)
      have h4 := hS.call hs1
      have HDO := Lib.hid (do_any _ Z D c' A' xs'.length cE' xs' p.fr p.x.A p.x.n p.x.c h4.box h4.own rfl (by omega) (Since.row hs1 hrd) (by have := HD.out p hpm; omega) (HKK.out p hpm))
      have H4 := Lib.hid h4
      clear hsd hS hrd hpe hfk hs1 h4 H3
      go_wp2_with fail
      refine HDO.out.mono ?_
      rintro e w4 hp4
      have hnext : S.sdos ⟨c, xs.map EV.e⟩ (fs.take (k + 1)) = S.sdo ⟨c', xs'.map EV.e⟩ p.fr := by
        rw [HFK.out, S.sdos_append, HSK.out]
        simp [S.sdos]
      rcases H4.out.done hp4 with ⟨hn, _, _⟩ | ⟨c5, A5, cE5, xs5, hs5, hl5, rfl, hS5⟩
      · exfalso
        obtain ⟨t, ht⟩ := S.sdos_take HSD.out (k + 1)
        rw [hnext, hn] at ht
        cases ht
      · have HS5 := Lib.hid hS5
        have HN5 := Lib.hid (hnext.trans hs5)
        clear hS5 hnext hs5 hp4 HDO H4 x0 x1
        go_wp2_with fail
        go_roundw
        case rel => exact ⟨k + 1, c5, A5, cE5, xs5, by omega, by go_num, HN5.out, by omega, HS5.out⟩
        case measure => simp [intOf]; omega
    · have i1 : ¬ (k : Int) < (m : Int) := by omega
      obtain rfl : k = m := by omega
      clear hsd hS
      go_wp2
      go_ret
      refine .inr (.inr ⟨HA1.out, by have h := HA3.out; omega, rfl, g2, A2, c2, c', A', cE', xs', ?_, ?_, ?_⟩)
      · have h := HSK.out
        rw [List.take_of_length_le (by rw [HFS.out, List.length_map, HM.out]; omega), HSD.out] at h
        exact Option.some.inj h
      · rw [HFS.out, List.length_map, HM.out]; exact hxl
      · have h := H3.out
        rw [HO2.out] at h
        exact h.dk.sub (.cons_cons _ (.cons_cons _ ((List.Sublist.refl _).append (.cons _ (List.sublist_append_right _ _)))))
theorem SK.bank {w0 w : World} {D R : Nat} {room : Int} {o : Option Fil} {Z : Nat} {c : S.Cl} {A : Option Addr} {cE : Nat} {xs : List EV} {L : List Acc} (h : SK w0 w D R room o Z c A cE xs L) : Bank w0 w L := h.dk.rest.sub (.cons _ (.cons _ (List.sublist_append_right _ _)))
theorem SK.sub {w0 w : World} {D R : Nat} {room : Int} {o : Option Fil} {Z : Nat} {c : S.Cl} {A : Option Addr} {cE : Nat} {xs : List EV} {L L' : List Acc} (h : SK w0 w D R room o Z c A cE xs L) (hs : L'.Sublist L) : SK w0 w D R room o Z c A cE xs L' :=
  h.dk.sub (.cons_cons _ (.cons_cons _ ((List.Sublist.refl _).append hs)))
section
variable {w0 w' : World} {D R : Nat} {room : Int} {o : Option Fil} {Z : Nat} {c : S.Cl} {A : Option Addr} {cE : Nat} {xs : List EV} {L L' : List Acc} {fs : List F.Fr} {st : S.St} {e : Ending}
theorem PutS.bank (h : PutS w0 D R room o Z c A cE xs L fs st e w') : Bank w0 w' L := by
  rcases h with ⟨_, _, h⟩ | ⟨_, _, _, h⟩ | ⟨_, _, _, _, _, _, _, _, _, _, _, _, h⟩ <;> exact h.bank
theorem PutS.sub (h : PutS w0 D R room o Z c A cE xs L fs st e w') (hs : L'.Sublist L) : PutS w0 D R room o Z c A cE xs L' fs st e w' := by
  rcases h with ⟨h1, h2, h⟩ | ⟨h1, h2, h3, h⟩ | ⟨h1, h2, h3, g, A2, c2, c', A', cE', xs', h4, h5, h⟩
  · exact .inl ⟨h1, h2, h.sub hs⟩
  · exact .inr (.inl ⟨h1, h2, h3, h.sub hs⟩)
  · exact .inr (.inr ⟨h1, h2, h3, g, A2, c2, c', A', cE', xs', h4, h5, h.sub hs⟩)
theorem PutS.ret (h : PutS w0 D R room o Z c A cE xs L fs st e w') : ∃ n : Int, e = .returned (.int .i64 n) := by
  rcases h with ⟨_, h, _⟩ | ⟨_, _, h, _⟩ | ⟨_, _, h, _⟩ <;> exact ⟨_, h⟩
end
end Go.Proofs.YtfpjmeknjhhakaaGreat.K

/- The contract of store's Keep. -/
namespace Go.Proofs.YtfpjmeknjhhakaaGreat.K
open Go Go.RowKit Go.Maps

theorem join_litS (l : List RB) (w : World) (cs : Array Value) (k c : Nat) (hcs : cs = (l.map fun p => p.1.v).toArray) (hk : k = l.length) (hl : ∀ p ∈ l, RowRd w p.1 p.2) (hm : l.length ≤ 1000) (hN : (flat l).length ≤ 100000000000000) :
    Calls Tryz.prog 51 #[.slice (some ⟨w.heap.size, 0, none⟩) k c] (w.alloc (.cells cs 37)) (MadeO (w.alloc (.cells cs 37)) (flat l)) := by
  subst hcs hk
  have hj : joined (bytesAt l) l.length = flat l := joined_all l
  refine (join_any _ l.length c (rowsOf l) (bytesAt l) _ (parts_of l rfl hl) (by omega) (by rw [hj]; exact hN)).mono ?_
  rintro e w' ⟨A, N, c', he, hN', ho, hb⟩
  rw [hj] at hN' ho
  exact ⟨A, N, c', he, hN', ho, hb⟩
theorem num_madeS (n : Int) (w : World) : Calls Tryz.prog 52 #[.int .i64 n] w (Made w (M.num n)) :=
  (wnum_any n w).mono fun e w' ⟨g, he, ho, hb⟩ => ⟨g, 8, 8, he, rfl, ho, hb⟩
/-- what was made stands with the rest of a disk and its store -/
theorem SK.add {w0 w w' : World} {D R : Nat} {room : Int} {o : Option Fil} {Z : Nat} {c : S.Cl} {A : Option Addr} {cE : Nat} {xs : List EV} {L F : List Acc} (h : SK w0 w D R room o Z c A cE xs L) (h' : Bank w w' F) : SK w0 w' D R room o Z c A cE xs (F ++ L) := by
  have h1 := h.dk.under h'
  refine h1.perm ?_
  show (F ++ ((stAcc Z D c A xs.length cE :: evsAcc A xs.length cE xs :: evRows xs) ++ L)).Perm ((stAcc Z D c A xs.length cE :: evsAcc A xs.length cE xs :: evRows xs) ++ (F ++ L))
  rw [← List.append_assoc, ← List.append_assoc]
  exact List.Perm.append_right _ List.perm_append_comm
abbrev BoxC (w : World) (X : Nat) (c : S.Cl) : Prop := w.cell? ⟨X, 0, none⟩ = some (.int .i64 c.term) ∧ w.cell? ⟨X, 1, none⟩ = some (.int .i64 c.vote) ∧ w.cell? ⟨X, 2, none⟩ = some (.int .i64 c.applied) ∧ w.cell? ⟨X, 3, none⟩ = some (.int .i64 c.active)
theorem boxC_of {w0 w : World} {L : List Acc} {X i : Nat} {c : S.Cl} (h : Bank w0 w L) (hi : L[i]? = some (boxAcc X 38 (clCells c))) : BoxC w X c := ⟨h.cell i hi 0 rfl, h.cell i hi 1 rfl, h.cell i hi 2 rfl, h.cell i hi 3 rfl⟩
set_option maxHeartbeats 2000000 in
set_option maxRecDepth 100000 in
theorem keep_bad (w : World) (Z D : Nat) (c : S.Cl) (A : Option Addr) (n cE : Nat) (d : S.Cl) (h : StBox w Z D c A n cE) (hm : S.may d = false) :
    Calls Tryz.prog 18 #[.pointer (some ⟨Z, 0, none⟩), .agg #[.int .i64 d.term, .int .i64 d.vote, .int .i64 d.applied, .int .i64 d.active]] w fun e w' => e = .returned (.int .i64 2) ∧ Since w w' := by
  have hs := Since.alloc (Below.refl w.heap.size w) (.cells #[.int .i64 d.term, .int .i64 d.vote, .int .i64 d.applied, .int .i64 d.active] 38)
  have HTH := Lib.hid (there_any Z D _ (h.since hs).c0)
  have HS := Lib.hid hs
  have HM := Lib.hid (may_any d)
  have HB := Lib.hid hm
  clear h hm hs
  go_enter Tryz.func18, Tryz.ntmps18
  go_wp2_with (go_at_call 48; refine HTH.out.mono ?_; rintro e w' ⟨rfl, rfl⟩)
  refine (HM.out _).mono ?_
  rintro e w2 ⟨rfl, hs2⟩
  rw [HB.out]
  have HFIN := Lib.hid (HS.out.add hs2)
  clear hs2 HTH HM HB HS
  go_wp2
  go_ret
  exact ⟨rfl, HFIN.out⟩
set_option maxHeartbeats 2000000 in
set_option maxRecDepth 100000 in
theorem keep_nil (w : World) (d : S.Cl) :
    Calls Tryz.prog 18 #[.pointer none, .agg #[.int .i64 d.term, .int .i64 d.vote, .int .i64 d.applied, .int .i64 d.active]] w fun e w' => e = .returned (.int .i64 1) ∧ Since w w' := by
  have HS := Lib.hid (Since.alloc (Below.refl w.heap.size w) (.cells #[.int .i64 d.term, .int .i64 d.vote, .int .i64 d.applied, .int .i64 d.active] 38))
  have HTH := Lib.hid (show Calls Tryz.prog 48 #[.pointer none] (w.alloc (.cells #[.int .i64 d.term, .int .i64 d.vote, .int .i64 d.applied, .int .i64 d.active] 38)) _ from there_nil _)
  go_enter Tryz.func18, Tryz.ntmps18
  go_wp2_with (go_at_call 48; refine HTH.out.mono ?_; rintro e w' ⟨rfl, rfl⟩)
  go_ret
  exact ⟨rfl, HS.out⟩
set_option maxHeartbeats 2000000 in
set_option maxRecDepth 100000 in
theorem keep_empty (Z : Nat) (w : World) (d : S.Cl) (h : w.cell? ⟨Z, 0, none⟩ = some (.pointer none)) :
    Calls Tryz.prog 18 #[.pointer (some ⟨Z, 0, none⟩), .agg #[.int .i64 d.term, .int .i64 d.vote, .int .i64 d.applied, .int .i64 d.active]] w fun e w' => e = .returned (.int .i64 1) ∧ Since w w' := by
  have HS := Lib.hid (Since.alloc (Below.refl w.heap.size w) (.cells #[.int .i64 d.term, .int .i64 d.vote, .int .i64 d.applied, .int .i64 d.active] 38))
  have HTH := Lib.hid (show Calls Tryz.prog 48 #[.pointer (some ⟨Z, 0, none⟩)] (w.alloc (.cells #[.int .i64 d.term, .int .i64 d.vote, .int .i64 d.applied, .int .i64 d.active] 38)) _ from there_empty Z _ (cell_old _ h))
  clear h
  go_enter Tryz.func18, Tryz.ntmps18
  go_wp2_with (go_at_call 48; refine HTH.out.mono ?_; rintro e w' ⟨rfl, rfl⟩)
  go_ret
  exact ⟨rfl, HS.out⟩
set_option maxHeartbeats 4000000 in
set_option maxRecDepth 100000 in
theorem keep_any (w0 w : World) (D R : Nat) (room : Int) (o : Option Fil) (Z : Nat) (c : S.Cl) (A : Option Addr) (cE : Nat) (xs : List EV) (L : List Acc) (d : S.Cl)
    (h : SK w0 w D R room o Z c A cE xs L) (hm : S.may d = true) (ho : olen o ≤ 100000000) (hx : xs.length ≤ 800000) :
    Calls Tryz.prog 18 #[.pointer (some ⟨Z, 0, none⟩), .agg #[.int .i64 d.term, .int .i64 d.vote, .int .i64 d.applied, .int .i64 d.active]] w (PutS w0 D R room o Z c A cE xs L [S.kept d] ⟨d, xs.map EV.e⟩) := by
  have hs := Since.alloc (Below.refl w.heap.size w) (.cells #[.int .i64 d.term, .int .i64 d.vote, .int .i64 d.applied, .int .i64 d.active] 38)
  have HTH := Lib.hid (there_any Z D _ (h.box.since hs).c0)
  have HM := Lib.hid (may_any d)
  have HB := Lib.hid hm
  have H0 := Lib.hid h
  have bk := (Bank.nil (Below.refl w.heap.size w)).box #[.int .i64 d.term, .int .i64 d.vote, .int .i64 d.applied, .int .i64 d.active] 38 (by simp)
  have BKA := Lib.hid bk
  clear h hm hs bk
  go_enter Tryz.func18, Tryz.ntmps18
  go_wp2_with (go_at_call 48; refine HTH.out.mono ?_; rintro e w' ⟨rfl, rfl⟩)
  refine (HM.out _).mono ?_
  rintro e w2 ⟨rfl, hs2⟩
  rw [HB.out]
  have BKB := Lib.hid (BKA.out.call hs2)
  clear hs2 HTH HM BKA
  go_upto_region 5 with fail
  obtain ⟨X, hX⟩ : ∃ X, X = w.heap.size := ⟨_, rfl⟩
  rw [← hX] at BKB
  rw [← hX]
  clear hX
  have BK0 : Hid (Bank w w2.drew [boxAcc X 38 (clCells d)]) := Lib.hid BKB.out.drew
  refine WL.region (SApp 99 (fun _ => True) (fun w' => BoxC w' X d)) (by kernel_rfl) ?_
  intro hsh
  have hS : SApp 99 (fun _ => True) (fun w' => BoxC w' X d) (Array.replicate 19 false) w2.drew := ⟨fun _ => trivial, boxC_of BK0.out (i := 0) rfl⟩
  clear BKB
  refine WL.take (i := 0) (v := ?_) (S0 := fun _ => True) rfl (by kernel_rfl) (by kernel_rfl) (by kernel_rfl) (fun _ _ _ h => h) (SApp.hm (by decide)) (SApp.any) hsh (Or.inl ⟨by rfl, ?_⟩) hS ?_
  rotate_left
  · intro w hSw; clear hSw; go_simp <;> rfl
  clear hsh hS; intro hsh hS
  try simp only [Act.put, List.setIfInBounds_toArray]
  refine WL.take (i := 1) (v := ?_) (S0 := fun _ => True) rfl (by kernel_rfl) (by kernel_rfl) (by kernel_rfl) (fun _ _ _ h => h) (SApp.hm (by decide)) (SApp.any) hsh (Or.inl ⟨by rfl, ?_⟩) hS ?_
  rotate_left
  · intro w hSw; clear hSw; go_simp <;> rfl
  clear hsh hS; intro hsh hS
  try simp only [Act.put]
  refine WL.take (i := 2) (v := ?_) rfl (by kernel_rfl) (by kernel_rfl) (by kernel_rfl) (fun _ _ _ h => h) (SApp.hm (by decide)) (SApp.right) hsh (Or.inl ⟨by rfl, ?_⟩) hS ?_
  rotate_left
  · intro w hSw; go_simp <;> rfl
  clear hsh hS; intro hsh hS
  try simp only [Act.put]
  refine WL.take (i := 4) (v := ?_) (S0 := fun _ => True) rfl (by kernel_rfl) (by kernel_rfl) (by kernel_rfl) (fun _ _ _ h => h) (SApp.hm (by decide)) (SApp.any) hsh (Or.inl ⟨by rfl, ?_⟩) hS ?_
  rotate_left
  · intro w hSw; clear hSw; go_simp <;> rfl
  clear hsh hS; intro hsh hS
  try simp only [Act.put]
  refine WL.take (i := 5) (v := ?_) rfl (by kernel_rfl) (by kernel_rfl) (by kernel_rfl) (fun _ _ _ h => h) (SApp.hm (by decide)) (SApp.right) hsh (Or.inl ⟨by rfl, ?_⟩) hS ?_
  rotate_left
  · intro w hSw; go_simp <;> rfl
  clear hsh hS; intro hsh hS
  try simp only [Act.put]
  refine WL.take (i := 7) (v := ?_) (S0 := fun _ => True) rfl (by kernel_rfl) (by kernel_rfl) (by kernel_rfl) (fun _ _ _ h => h) (SApp.hm (by decide)) (SApp.any) hsh (Or.inl ⟨by rfl, ?_⟩) hS ?_
  rotate_left
  · intro w hSw; clear hSw; go_simp <;> rfl
  clear hsh hS; intro hsh hS
  try simp only [Act.put]
  refine WL.take (i := 8) (v := ?_) rfl (by kernel_rfl) (by kernel_rfl) (by kernel_rfl) (fun _ _ _ h => h) (SApp.hm (by decide)) (SApp.right) hsh (Or.inl ⟨by rfl, ?_⟩) hS ?_
  rotate_left
  · intro w hSw; go_simp <;> rfl
  clear hsh hS; intro hsh hS
  try simp only [Act.put]
  refine WL.take (i := 10) (v := ?_) (S0 := fun _ => True) rfl (by kernel_rfl) (by kernel_rfl) (by kernel_rfl) (fun _ _ _ h => h) (SApp.hm (by decide)) (SApp.any) hsh (Or.inl ⟨by rfl, ?_⟩) hS ?_
  rotate_left
  · intro w hSw; clear hSw; go_simp <;> rfl
  clear hsh hS; intro hsh hS
  try simp only [Act.put]
  refine WL.take (i := 11) (v := ?_) rfl (by kernel_rfl) (by kernel_rfl) (by kernel_rfl) (fun _ _ _ h => h) (SApp.hm (by decide)) (SApp.right) hsh (Or.inl ⟨by rfl, ?_⟩) hS ?_
  rotate_left
  · intro w hSw; go_simp <;> rfl
  clear hsh hS; intro hsh hS
  try simp only [Act.put]
  have HSH := Lib.hid hsh
  clear hsh hS
  refine WL.one (i := 3) HSH.out (by kernel_rfl) rfl ?_
  intro K hK
  have HK := Lib.hid hK
  clear hK
  go_simp
  refine (num_madeS d.term _).mono ?_
  rintro e u1 ⟨g0, N0, q0, rfl, hN0, ho, hb⟩
  have BK1 := Lib.hid (BK0.out.madeB hb ho)
  have HN0 := Lib.hid hN0
  clear ho hb BK0 hN0
  refine HK.out _ _ (SApp.intro (fun _ => trivial) (boxC_of BK1.out (i := 1) rfl)) ?_
  clear K HK HSH
  intro hsh hS
  try simp only [Act.put, List.setIfInBounds_toArray, List.set_cons_zero, List.set_cons_succ]
  have HSH := Lib.hid hsh
  clear hsh hS
  refine WL.one (i := 6) HSH.out (by kernel_rfl) rfl ?_
  intro K hK
  have HK := Lib.hid hK
  clear hK
  go_simp
  refine (num_madeS d.vote _).mono ?_
  rintro e u2 ⟨g1, N1, q1, rfl, hN1, ho, hb⟩
  have BK2 := Lib.hid (BK1.out.madeB hb ho)
  have HN1 := Lib.hid hN1
  clear ho hb BK1 hN1
  refine HK.out _ _ (SApp.intro (fun _ => trivial) (boxC_of BK2.out (i := 2) rfl)) ?_
  clear K HK HSH
  intro hsh hS
  try simp only [Act.put, List.setIfInBounds_toArray, List.set_cons_zero, List.set_cons_succ]
  have HSH := Lib.hid hsh
  clear hsh hS
  refine WL.one (i := 9) HSH.out (by kernel_rfl) rfl ?_
  intro K hK
  have HK := Lib.hid hK
  clear hK
  go_simp
  refine (num_madeS d.applied _).mono ?_
  rintro e u3 ⟨g2, N2, q2, rfl, hN2, ho, hb⟩
  have BK3 := Lib.hid (BK2.out.madeB hb ho)
  have HN2 := Lib.hid hN2
  clear ho hb BK2 hN2
  refine HK.out _ _ (SApp.intro (fun _ => trivial) (boxC_of BK3.out (i := 3) rfl)) ?_
  clear K HK HSH
  intro hsh hS
  try simp only [Act.put, List.setIfInBounds_toArray, List.set_cons_zero, List.set_cons_succ]
  have HSH := Lib.hid hsh
  clear hsh hS
  refine WL.one (i := 12) HSH.out (by kernel_rfl) rfl ?_
  intro K hK
  have HK := Lib.hid hK
  clear hK
  go_simp
  refine (num_madeS d.active _).mono ?_
  rintro e u4 ⟨g3, N3, q3, rfl, hN3, ho, hb⟩
  have BK4 := Lib.hid (BK3.out.madeB hb ho)
  have HN3 := Lib.hid hN3
  clear ho hb BK3 hN3
  refine HK.out _ _ (SApp.intro (fun _ => trivial) (boxC_of BK4.out (i := 4) rfl)) ?_
  clear K HK HSH
  intro hsh hS
  try simp only [Act.put, List.setIfInBounds_toArray, List.set_cons_zero, List.set_cons_succ]
  have HSH := Lib.hid hsh
  clear hsh hS
  refine WL.one (i := 13) HSH.out (by kernel_rfl) rfl ?_
  intro K hK
  have HK := Lib.hid hK
  clear hK
  go_simp
  have BK5 := Lib.hid (BK4.out.alloc (.cells #[.slice (some ⟨g0, 0, none⟩) N0 q0, .slice (some ⟨g1, 0, none⟩) N1 q1, .slice (some ⟨g2, 0, none⟩) N2 q2, .slice (some ⟨g3, 0, none⟩) N3 q3] 37))
  refine HK.out _ _ (SApp.intro (fun _ => trivial) (boxC_of BK5.out (i := 4) rfl)) ?_
  clear K HK HSH
  intro hsh hS
  try simp only [Act.put, List.setIfInBounds_toArray, List.set_cons_zero, List.set_cons_succ]
  have HSH := Lib.hid hsh
  clear hsh hS
  refine WL.one (i := 14) HSH.out (by kernel_rfl) rfl ?_
  intro K hK
  have HK := Lib.hid hK
  clear hK
  go_simp
  have hrows : ∀ p ∈ ([(⟨some ⟨g0, 0, none⟩, N0, q0⟩, M.num d.term), (⟨some ⟨g1, 0, none⟩, N1, q1⟩, M.num d.vote), (⟨some ⟨g2, 0, none⟩, N2, q2⟩, M.num d.applied), (⟨some ⟨g3, 0, none⟩, N3, q3⟩, M.num d.active)] : List RB), RowRd u4 p.1 p.2 := by
    intro p hp
    simp only [List.mem_cons, List.not_mem_nil, or_false] at hp
    rcases hp with rfl | rfl | rfl | rfl
    · exact BK4.out.row 3 rfl
    · exact BK4.out.row 2 rfl
    · exact BK4.out.row 1 rfl
    · exact BK4.out.row 0 rfl
  have hfl : flat ([(⟨some ⟨g0, 0, none⟩, N0, q0⟩, M.num d.term), (⟨some ⟨g1, 0, none⟩, N1, q1⟩, M.num d.vote), (⟨some ⟨g2, 0, none⟩, N2, q2⟩, M.num d.applied), (⟨some ⟨g3, 0, none⟩, N3, q3⟩, M.num d.active)] : List RB) = S.cdata d := by simp [flat, S.cdata]
  refine (join_litS ([(⟨some ⟨g0, 0, none⟩, N0, q0⟩, M.num d.term), (⟨some ⟨g1, 0, none⟩, N1, q1⟩, M.num d.vote), (⟨some ⟨g2, 0, none⟩, N2, q2⟩, M.num d.applied), (⟨some ⟨g3, 0, none⟩, N3, q3⟩, M.num d.active)] : List RB) u4 _ 4 4 rfl rfl hrows (by simp) (by rw [hfl, S.cdata_length]; omega)).mono ?_
  rintro e u5 ⟨Aj, Nj, cj, rfl, hNj, hoj, hbj⟩
  rw [hfl] at hNj hoj
  have BK6 := Lib.hid (BK5.out.madeB hbj hoj)
  have HNJ := Lib.hid hNj
  clear hrows hfl hNj hoj hbj BK5
  refine HK.out _ _ (SApp.intro (fun _ => trivial) (boxC_of BK6.out (i := 5) rfl)) ?_
  clear K HK HSH
  intro hsh hS
  try simp only [Act.put, List.setIfInBounds_toArray, List.set_cons_zero, List.set_cons_succ]
  refine WL.take (i := 15) (v := ?_) (S0 := fun _ => True) rfl (by kernel_rfl) (by kernel_rfl) (by kernel_rfl) (fun _ _ _ h => h) (SApp.hm (by decide)) (SApp.any) hsh (Or.inl ⟨by rfl, ?_⟩) hS ?_
  rotate_left
  · intro w hSw; clear hSw; go_simp <;> rfl
  clear hsh hS; intro hsh hS
  try simp only [Act.put, List.setIfInBounds_toArray]
  have HSH := Lib.hid hsh
  clear hsh hS
  refine WL.one (i := 16) HSH.out (by kernel_rfl) rfl ?_
  intro K hK
  have HK := Lib.hid hK
  clear hK
  go_simp
  have BK7 := Lib.hid ((BK6.out.made ((Below.refl _ _).alloc (Nat.le_refl _) (.cells #[.int .i64 1, .slice Aj Nj cj] 78)) (World.ownsRow_lit (e := 78) (size := 2) u5 #[.int .i64 1, .slice Aj Nj cj] 1 (Nat.le_refl _) (by unfold maxLen; omega) rfl)).sub (L' := [frAcc (some ⟨u5.heap.size, 0, none⟩) 1 [⟨1, ⟨Aj, Nj, cj⟩, S.cdata d⟩], FR.acc ⟨1, ⟨Aj, Nj, cj⟩, S.cdata d⟩, boxAcc X 38 (clCells d)]) (.cons_cons _ (.cons_cons _ (.cons _ (.cons _ (.cons _ (.cons _ (List.Sublist.refl _))))))))
  have HSKP := Lib.hid (H0.out.add BK7.out)
  clear BK6
  refine HK.out _ _ (SApp.intro (fun _ => trivial) (boxC_of BK7.out (i := 2) rfl)) ?_
  clear K HK HSH
  intro hsh hS
  try simp only [Act.put, List.setIfInBounds_toArray, List.set_cons_zero, List.set_cons_succ]
  have HSH := Lib.hid hsh
  clear hsh hS
  refine WL.one (i := 17) HSH.out (by kernel_rfl) rfl ?_
  intro K hK
  have HK := Lib.hid hK
  clear hK
  go_simp
  refine (sput_any w0 _ D R room o Z c A cE xs (boxAcc X 38 (clCells d) :: L) (some ⟨u5.heap.size, 0, none⟩) 1 [⟨1, ⟨Aj, Nj, cj⟩, S.cdata d⟩] ⟨d, xs.map EV.e⟩ 1 HSKP.out rfl (by intro p hp; simp only [List.mem_singleton] at hp; subst hp; show M.inI64 1; unfold M.inI64; omega) ?_ ?_ ?_ ho (by omega) ?_).mono ?_
  · rw [F.perr_zero]
    intro f hf
    simp only [List.map_cons, List.map_nil, List.mem_singleton] at hf
    subst hf
    exact S.kept_err d
  · have h := S.sdo_kept ⟨c, xs.map EV.e⟩ d HB.out
    show (S.sdo _ (S.kept d)).bind _ = _
    rw [h]
    rfl
  · simp [F.pbytes, FR.fr, F.one_length, S.cdata_length]
  · intro p hp
    simp only [List.mem_singleton] at hp
    subst hp
    show Nj ≤ _
    rw [HNJ.out, S.cdata_length]
    omega
  rintro e u7 hp7
  obtain ⟨n7, rfl⟩ := hp7.ret
  have HP7 := Lib.hid hp7
  clear hp7
  refine HK.out _ _ (SApp.intro (fun _ => trivial) (boxC_of HP7.out.bank (i := 0) rfl)) ?_
  clear K HK HSH
  intro hsh hS
  try simp only [Act.put, List.setIfInBounds_toArray, List.set_cons_zero, List.set_cons_succ]
  have HSH := Lib.hid hsh
  clear hsh hS
  refine WL.one (i := 18) HSH.out (by kernel_rfl) rfl ?_
  intro K hK
  have HK := Lib.hid hK
  clear hK
  go_simp
  refine HK.out _ _ (SApp.intro (fun _ => trivial) (boxC_of HP7.out.bank (i := 0) rfl)) ?_
  clear K HK HSH
  intro _ _
  refine WL.done (by kernel_rfl) ?_ _
  have HFIN : Hid (PutS w0 D R room o Z c A cE xs L [S.kept d] ⟨d, xs.map EV.e⟩ (.returned (.int .i64 n7)) u7) := Lib.hid (HP7.out.sub (.cons _ (List.Sublist.refl _)))
  clear HP7
  simp only [Exit.then]
  go_wp2
  go_ret
  exact HFIN.out
end Go.Proofs.YtfpjmeknjhhakaaGreat.K

/- The contracts of slices.Equal for bytes and of store's same, at what is alike. -/
namespace Go.Proofs.YtfpjmeknjhhakaaGreat.K
open Go Go.RowKit Go.Maps

set_option maxHeartbeats 2000000 in
set_option maxRecDepth 100000 in
theorem equal8_any (A B : Option Addr) (n c d : Nat) (bs : List (BitVec 8)) (w : World) (hx : RowRd w ⟨A, n, c⟩ bs) (hy : RowRd w ⟨B, n, d⟩ bs) (hn : n ≤ 1000000000000) :
    Calls Tryz.prog 85 #[.slice A n c, .slice B n d] w fun e w' => e = .returned (.bool true) ∧ ∃ k, w' = w.drewN k := by
  have HX := Lib.hid hx; have HY := Lib.hid hy
  have HL := Lib.hid (show bs.length = n from hx.len)
  clear hx hy
  go_enter Tryz.func85, Tryz.ntmps85
  go_wp2
  go_loopw [13] (fun i wr => ∃ k : Nat, k ≤ n ∧ i = .int .i64 (k : Int) ∧ ∃ q, wr = w.drewN q) (fun i _ => n - (intOf i).toNat)
  case atStart => exact ⟨0, Nat.zero_le _, rfl, 0, rfl⟩
  case round =>
    obtain ⟨k, hk, rfl, q, rfl⟩ := hrel
    have k0 : (0 : Int) ≤ (k : Int) := by omega
    by_cases hlt : k < n
    · have i1 : (k : Int) < (n : Int) := by omega
      have hkl : k < bs.length := by rw [HL.out]; exact hlt
      obtain ⟨b, o, hA, hcx⟩ := HX.out.rd k hkl
      obtain ⟨b', o', hB, hcy⟩ := HY.out.rd k hkl
      have hA' : A = some ⟨b, o, none⟩ := hA
      have hB' : B = some ⟨b', o', none⟩ := hB
      subst hA' hB'
      generalize bs[k] = y at *
      clear hA hB
      go_wp2
      go_quiet (fail)
      go_wp2
      go_roundw
      case rel => exact ⟨k + 1, by omega, by go_num, _, rfl⟩
      case measure => simp [intOf]; omega
    · have i1 : ¬ (k : Int) < (n : Int) := by omega
      go_wp2
      go_ret
      exact ⟨rfl, _, rfl⟩
set_option maxHeartbeats 4000000 in
set_option maxRecDepth 100000 in
theorem same_any (e : M.Ent) (A B : Option Addr) (n c d : Nat) (w : World) (hx : RowRd w ⟨A, n, c⟩ e.data) (hy : RowRd w ⟨B, n, d⟩ e.data) (hn : n ≤ 1000000000000) :
    Calls Tryz.prog 57 #[.agg #[.int .i64 e.term, B8 e.kind, .int .i64 e.version, .int .i64 e.server, .bool e.good, .slice A n c], .agg #[.int .i64 e.term, B8 e.kind, .int .i64 e.version, .int .i64 e.server, .bool e.good, .slice B n d]] w fun e' w' => e' = .returned (.bool true) ∧ Since w w' := by
  have hs1 := Since.alloc (Below.refl w.heap.size w) (.cells #[.int .i64 e.term, B8 e.kind, .int .i64 e.version, .int .i64 e.server, .bool e.good, .slice A n c] 62)
  have hs2 := Since.alloc hs1 (.cells #[.int .i64 e.term, B8 e.kind, .int .i64 e.version, .int .i64 e.server, .bool e.good, .slice B n d] 62)
  have HEQ := Lib.hid (equal8_any A B n c d e.data _ (Since.row hs2 hx) (Since.row hs2 hy) hn)
  have S2 := Lib.hid hs2
  clear hs1 hs2 hx hy
  have b1 : ∀ w, (binOp .eql 60 (B8 e.kind) (B8 e.kind)).run Tryz.prog w = .ok (.bool true) w := fun w => by
    simp [B8, go_sem]
  go_enter Tryz.func57, Tryz.ntmps57
  go_wp2_with fail
  refine HEQ.out.mono ?_
  rintro e' w3 ⟨rfl, q, rfl⟩
  have HFIN := Lib.hid (Since.drewN S2.out q)
  clear HEQ S2
  go_wp2
  go_ret
  exact ⟨rfl, HFIN.out⟩
end Go.Proofs.YtfpjmeknjhhakaaGreat.K

/- frame's scan.next, in what holds between two rounds. -/
namespace Go.Proofs.YtfpjmeknjhhakaaGreat.K
open Go Go.RowKit

/-- a frame is at hand -/
def SPend (w0 : World) (l0 : List (BitVec 8)) (Bx S Bf Lr Dd : Nat) (rec : LoopState → Option Code → Loop) (T : List Acc) (ps : List FR) (p : FR) (W : World) : Prop :=
  ∃ A n c u Fa cF, Bank w0 W (p.acc :: (T ++ backL Bx S Bf A n c u false Fa cF ps)) ∧ LeftAt w0 l0 A n c u (ps ++ [p]) ∧ W.heap[Lr]? = some (.loop (rec .ready none)) ∧ W.heap[Dd]? = some (.deferred (some [])) ∧ w0.heap.size ≤ Lr ∧ w0.heap.size ≤ Dd
def NextI (w0 : World) (l0 : List (BitVec 8)) (Bx S Bf Lr Dd : Nat) (rec : LoopState → Option Code → Loop) (T : List Acc) (ps : List FR) (e : Ending) (W' : World) : Prop :=
  (∃ p : FR, e = .returned (.tuple #[.agg #[.int .i64 p.k, .slice p.x.A p.x.n p.x.c], .bool true]) ∧ SPend w0 l0 Bx S Bf Lr Dd rec T ps p W') ∨
  (∃ kd D m d, e = .returned (.tuple #[.agg #[.int .i64 kd, .slice D m d], .bool false]) ∧ SEnd w0 l0 Bx S Bf Lr Dd rec T ps W')
theorem back_at {T : List Acc} {X : List Acc} (i : Nat) : (T ++ X)[T.length + i]? = X[i]? := by
  rw [List.getElem?_append_right (by omega), show T.length + i - T.length = i by omega]
theorem back_set {T : List Acc} {X : List Acc} (i : Nat) (y : Acc) : (T ++ X).set (T.length + i) y = T ++ X.set i y := by
  rw [List.set_append_right _ _ (by omega), show T.length + i - T.length = i by omega]
theorem next_inv (w0 : World) (l0 : List (BitVec 8)) (Bx S Bf Lr Dd : Nat) (rec : LoopState → Option Code → Loop) (T : List Acc) (ps : List FR) (W : World) (hl0 : l0.length ≤ 100000000000) (h : SInv w0 l0 Bx S Bf Lr Dd rec T ps W) :
    Calls Tryz.prog 89 #[.pointer (some ⟨S, 0, none⟩)] W (NextI w0 l0 Bx S Bf Lr Dd rec T ps) := by
  obtain ⟨A, n, c, u, Fa, cF, hB, hL, hLr, hDd, hLr0, hDd0⟩ := h
  have hSi : (T ++ backL Bx S Bf A n c u false Fa cF ps)[T.length + 1]? = some (boxAcc S 113 (scanL A n c u false)) := by rw [back_at]; rfl
  obtain ⟨hS0, hSg⟩ := hB.boxAt (T.length + 1) hSi
  have hne : ∀ a, A = some a → a.block ≠ S := fun a e e2 => by have := hL.lay a e; omega
  have hun := hL.un
  have hdrop : (l0.drop u).length = n := hL.row.len
  have hLS : ∀ {o : Obj}, o.isCells = false → ∀ l, W.heap[l]? = some o → l ≠ S := fun {o} ho l hl e => by
    subst e
    rw [hSg] at hl
    cases hl
    simp [Obj.isCells] at ho
  refine (next_any S A n c u (l0.drop u) W hSg (Since.row hB.since hL.row) hL.nc hL.c63 (by omega) hne).mono ?_
  rintro e W' (⟨s, kd, D, m, d, hf, rfl, hS', hg⟩ | ⟨f, A', D, m, d, hf, hm, rfl, ho, hS', hr', hA', hg⟩)
  · refine .inr ⟨kd, D, m, d, rfl, A, n, c, u, s, Fa, cF, ?_, ?_, by omega, hL.few, ?_, ?_, hLr0, hDd0⟩
    · have := hB.scanned (T.length + 1) hSi (vs' := scanL A n c u s) rfl (by simp [scanL]) hg hS'
      rw [back_set] at this
      exact this
    · rw [hL.eq, F.scan_none hf]; simp
    · exact (hg.block Lr (Array.getElem?_eq_some_iff.1 hLr).1 (by have := hLS (by rfl) _ hLr; simpa using this)).trans hLr
    · exact (hg.block Dd (Array.getElem?_eq_some_iff.1 hDd).1 (by have := hLS (by rfl) _ hDd; simpa using this)).trans hDd
  · have h1 := F.first_some hf
    rw [hdrop] at h1
    have hm2 : f.data.length = m := hm.symm
    rw [hm2] at h1
    have hB2 := hB.scanned (T.length + 1) hSi (vs' := scanL A' (n - (9 + m)) (c - (9 + m)) (u + (9 + m)) false) rfl (by simp [scanL]) hg hS'
    rw [back_set] at hB2
    have hlt : ∀ p ∈ T ++ (backL Bx S Bf A n c u false Fa cF ps).set 1 (boxAcc S 113 (scanL A' (n - (9 + m)) (c - (9 + m)) (u + (9 + m)) false)), ∀ b, p.v.ownBlock = some b → b < W.heap.size := by
      intro p hp b hb
      rcases List.mem_append.1 hp with hp | hp
      · exact (hB.lt (List.mem_append_left _ hp) hb).2
      · rcases List.mem_or_eq_of_mem_set hp with hp | hp
        · exact (hB.lt (List.mem_append_right _ hp) hb).2
        · subst hp
          have : S = b := by simpa [boxAcc, Value.ownBlock] using hb
          subst this
          exact (Array.getElem?_eq_some_iff.1 hSg).1
    have hB3 := hB2.fresh hlt hB.since.size ho
    refine .inl ⟨⟨f.kind, ⟨D, m, d⟩, f.data⟩, rfl, A', n - (9 + m), c - (9 + m), u + (9 + m), Fa, cF, hB3, ?_, ?_, ?_, hLr0, hDd0⟩
    · have hlay : ∀ a, A' = some a → a.block < w0.heap.size := fun a e => by
        obtain ⟨a0, e0, e1⟩ := hA' a e
        rw [← e1]; exact hL.lay a0 e0
      have hdd : (l0.drop u).drop (9 + m) = l0.drop (u + (9 + m)) := by rw [List.drop_drop]
      rw [hdd] at hr'
      refine ⟨⟨fun k hk => ?_, hr'.len, hr'.none⟩, ?_, ?_, ?_, ?_, hlay, ?_⟩
      · obtain ⟨b, o, e, hc⟩ := hr'.rd k hk
        have hb : b < w0.heap.size := hlay _ e
        refine ⟨b, o, e, ?_⟩
        have hbS : b ≠ S := by omega
        rw [← hc]
        have h2 := hB3.since.cell (p := ⟨b, o + k, none⟩) hb
        exact h2.symm
      · have := hL.nc; omega
      · have := hL.c63; omega
      · omega
      · have := hL.few; simp; omega
      · rw [hL.eq, F.scan_some hf, hm2, hdd]
        simp [FR.fr, Nat.add_assoc]
    · exact (hg.block Lr (Array.getElem?_eq_some_iff.1 hLr).1 (by have := hLS (by rfl) _ hLr; simpa using this)).trans hLr
    · exact (hg.block Dd (Array.getElem?_eq_some_iff.1 hDd).1 (by have := hLS (by rfl) _ hDd; simpa using this)).trans hDd
end Go.Proofs.YtfpjmeknjhhakaaGreat.K

/- What holds between two rounds, through the small steps of the iterator. -/
namespace Go.Proofs.YtfpjmeknjhhakaaGreat.K
open Go Go.RowKit

section
variable {w0 : World} {l0 : List (BitVec 8)} {Bx S Bf Lr Dd : Nat} {rec : LoopState → Option Code → Loop} {T : List Acc} {ps : List FR} {p : FR} {W : World}
theorem heap_alloc_keep {l : Nat} {o : Obj} (x : Obj) (h : W.heap[l]? = some o) : (W.alloc x).heap[l]? = some o := (Below.heap_alloc W x l (Array.getElem?_eq_some_iff.1 h).1).trans h
theorem heap_set_keep {l X j : Nat} {v : Value} {o : Obj} (h : W.heap[l]? = some o) (hX : ∃ cs t fr, W.heap[X]? = some (.cells cs t fr)) (ho : o.isCells = false) : (W.setCell ⟨X, j, none⟩ v).heap[l]? = some o := by
  refine (heap_setCell_other W ⟨X, j, none⟩ l v ?_).trans h
  intro e
  obtain ⟨cs, t, fr, hc⟩ := hX
  have e2 : l = X := by simpa using e
  subst e2
  rw [hc] at h
  cases h
  simp [Obj.isCells] at ho
theorem SInv.alloc (h : SInv w0 l0 Bx S Bf Lr Dd rec T ps W) (cs : Array Value) (t : TypeId) (hs : cs.size ≤ 1000000) : SInv w0 l0 Bx S Bf Lr Dd rec (boxAcc W.heap.size t cs.toList :: T) ps (W.alloc (.cells cs t)) := by
  obtain ⟨A, n, c, u, Fa, cF, hB, hL, h1, h2, h3, h4⟩ := h
  exact ⟨A, n, c, u, Fa, cF, hB.box cs t hs, hL, heap_alloc_keep _ h1, heap_alloc_keep _ h2, h3, h4⟩
theorem SPend.alloc (h : SPend w0 l0 Bx S Bf Lr Dd rec T ps p W) (cs : Array Value) (t : TypeId) (hs : cs.size ≤ 1000000) : SPend w0 l0 Bx S Bf Lr Dd rec (boxAcc W.heap.size t cs.toList :: T) ps p (W.alloc (.cells cs t)) := by
  obtain ⟨A, n, c, u, Fa, cF, hB, hL, h1, h2, h3, h4⟩ := h
  exact ⟨A, n, c, u, Fa, cF, (hB.box cs t hs).swap, hL, heap_alloc_keep _ h1, heap_alloc_keep _ h2, h3, h4⟩
theorem SEnd.alloc (h : SEnd w0 l0 Bx S Bf Lr Dd rec T ps W) (cs : Array Value) (t : TypeId) (hs : cs.size ≤ 1000000) : SEnd w0 l0 Bx S Bf Lr Dd rec (boxAcc W.heap.size t cs.toList :: T) ps (W.alloc (.cells cs t)) := by
  obtain ⟨A, n, c, u, s, Fa, cF, hB, hL, h0, h0', h1, h2, h3, h4⟩ := h
  exact ⟨A, n, c, u, s, Fa, cF, hB.box cs t hs, hL, h0, h0', heap_alloc_keep _ h1, heap_alloc_keep _ h2, h3, h4⟩
theorem SPend.set {X : Nat} {t : TypeId} {vs : List Value} (h : SPend w0 l0 Bx S Bf Lr Dd rec (boxAcc X t vs :: T) ps p W) (j : Nat) (v : Value) : SPend w0 l0 Bx S Bf Lr Dd rec (boxAcc X t (vs.set j v) :: T) ps p (W.setCell ⟨X, j, none⟩ v) := by
  obtain ⟨A, n, c, u, Fa, cF, hB, hL, h1, h2, h3, h4⟩ := h
  have hX := (hB.boxAt 1 rfl).2
  exact ⟨A, n, c, u, Fa, cF, hB.boxSet 1 rfl j v, hL, heap_set_keep h1 ⟨_, _, _, hX⟩ rfl, heap_set_keep h2 ⟨_, _, _, hX⟩ rfl, h3, h4⟩
theorem SEnd.set {X : Nat} {t : TypeId} {vs : List Value} (h : SEnd w0 l0 Bx S Bf Lr Dd rec (boxAcc X t vs :: T) ps W) (j : Nat) (v : Value) : SEnd w0 l0 Bx S Bf Lr Dd rec (boxAcc X t (vs.set j v) :: T) ps (W.setCell ⟨X, j, none⟩ v) := by
  obtain ⟨A, n, c, u, s, Fa, cF, hB, hL, h0, h0', h1, h2, h3, h4⟩ := h
  have hX := (hB.boxAt 0 rfl).2
  exact ⟨A, n, c, u, s, Fa, cF, hB.boxSet 0 rfl j v, hL, h0, h0', heap_set_keep h1 ⟨_, _, _, hX⟩ rfl, heap_set_keep h2 ⟨_, _, _, hX⟩ rfl, h3, h4⟩
/-- the receiver's box -/
theorem SInv.recv (h : SInv w0 l0 Bx S Bf Lr Dd rec T ps W) : W.cell? ⟨Bx, 0, none⟩ = some (.pointer (some ⟨S, 0, none⟩)) := by
  obtain ⟨A, n, c, u, Fa, cF, hB, _⟩ := h
  exact hB.cell (T.length + 0) (by rw [back_at]; rfl) 0 rfl
/-- the loop variable's box -/
theorem SInv.head {X : Nat} {t : TypeId} {vs : List Value} (h : SInv w0 l0 Bx S Bf Lr Dd rec (boxAcc X t vs :: T) ps W) : W.heap[X]? = some (.cells vs.toArray t (0, 0)) := by
  obtain ⟨A, n, c, u, Fa, cF, hB, _⟩ := h
  exact (hB.boxAt 0 rfl).2
theorem SPend.head {X : Nat} {t : TypeId} {vs : List Value} (h : SPend w0 l0 Bx S Bf Lr Dd rec (boxAcc X t vs :: T) ps p W) : W.heap[X]? = some (.cells vs.toArray t (0, 0)) := by
  obtain ⟨A, n, c, u, Fa, cF, hB, _⟩ := h
  exact (hB.boxAt 1 rfl).2
theorem SEnd.head {X : Nat} {t : TypeId} {vs : List Value} (h : SEnd w0 l0 Bx S Bf Lr Dd rec (boxAcc X t vs :: T) ps W) : W.heap[X]? = some (.cells vs.toArray t (0, 0)) := by
  obtain ⟨A, n, c, u, s, Fa, cF, hB, _⟩ := h
  exact (hB.boxAt 0 rfl).2
theorem cells_two {X : Nat} {t : TypeId} {a b : Value} (h : W.heap[X]? = some (.cells [a, b].toArray t (0, 0))) : (W.cell? ⟨X, 0, none⟩ = some a ∧ W.cell? ⟨X, 1, none⟩ = some b) ∧ W.frozen? ⟨X, 0, none⟩ = false ∧ W.frozen? ⟨X, 1, none⟩ = false :=
  ⟨⟨block_cell h rfl, block_cell h rfl⟩, frozen_of_row W X 0 _ _ h, frozen_of_row W X 1 _ _ h⟩
/-- how many frames are told, read off the world -/
def toldOf (Bf : Nat) (W : World) : Nat := match W.cell? ⟨Bf, 0, none⟩ with
  | some (.slice _ n _) => n
  | _ => 0
theorem SPend.told (h : SPend w0 l0 Bx S Bf Lr Dd rec T ps p W) : toldOf Bf W = ps.length ∧ ps.length < l0.length := by
  obtain ⟨A, n, c, u, Fa, cF, hB, hL, _⟩ := h
  have hc : W.cell? ⟨Bf, 0, none⟩ = some (.slice Fa ps.length cF) := hB.cell ((p.acc :: T).length + 2) (by rw [← List.cons_append, back_at]; rfl) 0 rfl
  have h1 := hL.few
  have h2 := hL.un
  unfold toldOf
  rw [hc]
  simp at h1
  exact ⟨rfl, by omega⟩
end
end Go.Proofs.YtfpjmeknjhhakaaGreat.K

/- The iterator of frame's scan. -/
namespace Go.Proofs.YtfpjmeknjhhakaaGreat.K
open Go Go.RowKit Go.Shelf
attribute [local go_sem] Oper.semAt_some

theorem all_any (S : Nat) (w : World) : Calls Tryz.prog 60 #[.pointer (some ⟨S, 0, none⟩)] w fun e w' => e = .returned (.func (.func 88) #[] #[.pointer (some ⟨w.heap.size, 0, none⟩)]) ∧ w' = w.alloc (.cells #[.pointer (some ⟨S, 0, none⟩)] 109) := by
  have hmf : ∀ (fn : Fn) (first cap : Array Value) (w : World), (Instr.makeFunc fn first cap).run Tryz.prog w = .ok (.func fn first cap) w := fun _ _ _ _ => rfl
  go_enter Tryz.func60, Tryz.ntmps60
  go_wp2
  go_ret
  exact ⟨rfl, rfl⟩
/-- what next has told, both ways -/
def Uni (w0 : World) (l0 : List (BitVec 8)) (Bx S Bf Lr Dd : Nat) (rec : LoopState → Option Code → Loop) (T : List Acc) (ps : List FR) (kd : Int) (D : Option Addr) (m d : Nat) (bb : Bool) (W : World) : Prop :=
  (bb = true ∧ ∃ bs, SPend w0 l0 Bx S Bf Lr Dd rec T ps ⟨kd, ⟨D, m, d⟩, bs⟩ W) ∨ (bb = false ∧ SEnd w0 l0 Bx S Bf Lr Dd rec T ps W)
section
variable {w0 : World} {l0 : List (BitVec 8)} {Bx S Bf Lr Dd : Nat} {rec : LoopState → Option Code → Loop} {T : List Acc} {ps : List FR} {W : World} {kd : Int} {D : Option Addr} {m d : Nat} {bb : Bool}
theorem mono_next (hl0 : l0.length ≤ 100000000000) (h : SInv w0 l0 Bx S Bf Lr Dd rec T ps W) (n : Nat) :
    CallsIn Fence.wide n Tryz.prog 89 #[.pointer (some ⟨S, 0, none⟩)] W fun e W' => ∃ kd D m d bb, e = .returned (.tuple #[.agg #[.int .i64 kd, .slice D m d], .bool bb]) ∧ Uni w0 l0 Bx S Bf Lr Dd rec T ps kd D m d bb W' :=
  callsIn_wide.2 ((next_inv w0 l0 Bx S Bf Lr Dd rec T ps W hl0 h).mono fun e W' h => by
    rcases h with ⟨p, he, hP⟩ | ⟨kd, D, m, d, he, hE⟩
    · exact ⟨_, _, _, _, true, he, .inl ⟨rfl, p.bs, hP⟩⟩
    · exact ⟨_, _, _, _, false, he, .inr ⟨rfl, hE⟩⟩)
theorem Uni.alloc (h : Uni w0 l0 Bx S Bf Lr Dd rec T ps kd D m d bb W) (cs : Array Value) (t : TypeId) (hs : cs.size ≤ 1000000) : Uni w0 l0 Bx S Bf Lr Dd rec (boxAcc W.heap.size t cs.toList :: T) ps kd D m d bb (W.alloc (.cells cs t)) :=
  h.imp (fun ⟨h, bs, hp⟩ => ⟨h, bs, hp.alloc cs t hs⟩) (fun ⟨h, hp⟩ => ⟨h, hp.alloc cs t hs⟩)
theorem Uni.set {X : Nat} {t : TypeId} {vs : List Value} (h : Uni w0 l0 Bx S Bf Lr Dd rec (boxAcc X t vs :: T) ps kd D m d bb W) (j : Nat) (v : Value) : Uni w0 l0 Bx S Bf Lr Dd rec (boxAcc X t (vs.set j v) :: T) ps kd D m d bb (W.setCell ⟨X, j, none⟩ v) :=
  h.imp (fun ⟨h, bs, hp⟩ => ⟨h, bs, hp.set j v⟩) (fun ⟨h, hp⟩ => ⟨h, hp.set j v⟩)
theorem Uni.head {X : Nat} {t : TypeId} {vs : List Value} (h : Uni w0 l0 Bx S Bf Lr Dd rec (boxAcc X t vs :: T) ps kd D m d bb W) : W.heap[X]? = some (.cells vs.toArray t (0, 0)) := by
  rcases h with ⟨_, bs, h⟩ | ⟨_, h⟩
  · exact h.head
  · exact h.head
end
def AllRel (w0 : World) (l0 : List (BitVec 8)) (Bx S Bf Lr Dd : Nat) (rec : LoopState → Option Code → Loop) (a b : Value) (wr : World) : Prop :=
  ∃ T ps X kd D m d bb, a = .pointer (some ⟨X, 0, none⟩) ∧ b = .bool bb ∧ Uni w0 l0 Bx S Bf Lr Dd rec (boxAcc X 78 [.int .i64 kd, .slice D m d] :: T) ps kd D m d bb wr
/-- how much may be to come -/
def leftOf (l0 : List (BitVec 8)) (Bf : Nat) (b : Value) (wr : World) : Nat := match b with
  | .bool true => l0.length + 1 - toldOf Bf wr
  | _ => 0
set_option maxHeartbeats 4000000 in
set_option maxRecDepth 100000 in
theorem all1_in (w0 : World) (l0 : List (BitVec 8)) (Bx S Bf Lr Dd : Nat) (rec : LoopState → Option Code → Loop) (n : Nat) (hl0 : l0.length ≤ 100000000000)
    (hY : ∀ T ps p W, SPend w0 l0 Bx S Bf Lr Dd rec T ps p W → YieldAt Fence.wide (n - 1) Tryz.prog Lr #[.agg #[.int .i64 p.k, .slice p.x.A p.x.n p.x.c]] W fun e W' => e = .returned (.bool true) ∧ SInv w0 l0 Bx S Bf Lr Dd rec T (ps ++ [p]) W')
    (W : World) (h0 : SInv w0 l0 Bx S Bf Lr Dd rec [] [] W) :
    CallsIn Fence.wide n Tryz.prog 88 #[.func (.yield Lr) #[] #[], .pointer (some ⟨Bx, 0, none⟩)] W fun e W' => (∃ v, e = .returned v) ∧ ∃ T ps, SEnd w0 l0 Bx S Bf Lr Dd rec T ps W' := by
  refine callsIn_of_wp Tryz.func88 rfl trivial ?_ rfl
  simp only [Tryz.ntmps88, List.size_toArray, List.length_cons, List.length_nil, Nat.reduceAdd, Nat.reduceSub, Array.replicate_succ, Array.replicate_zero, List.push_toArray, List.append_toArray, List.nil_append, List.cons_append]
  have hc := h0.recv
  have HI := Lib.hid h0
  have HY := Lib.hid hY
  clear h0 hY
  gi_wp2_with fail
  refine ⟨trivial, (fun h => by simp [Fence.wide] at h), ?_⟩
  refine (mono_next hl0 HI.out _).mono ?_
  rintro e w1 ⟨kd, D, m, d, bb, rfl, hU⟩
  have HR := Lib.hid (show AllRel w0 l0 Bx S Bf Lr Dd rec (.pointer (some ⟨w1.heap.size, 0, none⟩)) (.bool bb) (w1.alloc (.cells #[.int .i64 kd, .slice D m d] 78)) from ⟨_, _, _, kd, D, m, d, bb, rfl, rfl, hU.alloc #[.int .i64 kd, .slice D m d] 78 (by simp)⟩)
  clear hU hc HI
  gi_wp2_with fail
  gi_loopw [3, 4] (fun a b wr => AllRel w0 l0 Bx S Bf Lr Dd rec a b wr) (fun _ b wr => leftOf l0 Bf b wr)
  case atStart => exact HR.out
  case round =>
    clear HR
    obtain ⟨T, ps, X, kd', D', m', d', bb', rfl, rfl, hU⟩ := hrel
    obtain ⟨⟨x0, x1⟩, y0, y1⟩ := cells_two hU.head
    rcases hU with ⟨rfl, bs, hP⟩ | ⟨rfl, hE⟩
    · obtain ⟨fn, tmps, assign, body, hy, hR⟩ := HY.out _ _ _ _ hP
      have hlt := hP.told
      have HLT := Lib.hid hlt
      clear hlt
      have HP := Lib.hid hP
      clear hP
      gi_wp2_with fail
      refine ⟨(fun h => by simp [Fence.wide] at h), ?_⟩
      refine hR.mono ?_
      rintro e w2 ⟨rfl, hI⟩
      obtain ⟨⟨q0, q1⟩, z0, z1⟩ := cells_two hI.head
      have HI2 := Lib.hid (hI.alloc #[.int .i64 kd', .slice D' m' d'] 78 (by simp))
      have rc := HI2.out.recv
      clear hI x0 x1 y0 y1 hR
      gi_wp2_with fail
      refine ⟨trivial, (fun h => by simp [Fence.wide] at h), ?_⟩
      refine (mono_next hl0 HI2.out _).mono ?_
      rintro e w3 ⟨kd3, D3, m3, d3, bb3, rfl, hU3⟩
      have HU4 := Lib.hid ((hU3.set 0 (.int .i64 kd3)).set 1 (.slice D3 m3 d3))
      obtain ⟨⟨v0, v1⟩, f0, f1⟩ := cells_two hU3.head
      clear hU3 q0 q1 z0 z1 rc HI2
      gi_wp2_with fail
      have hrel : AllRel w0 l0 Bx S Bf Lr Dd rec (.pointer (some ⟨w2.heap.size, 0, none⟩)) (.bool bb3) ((w3.setCell ⟨w2.heap.size, 0, none⟩ (.int .i64 kd3)).setCell ⟨w2.heap.size, 1, none⟩ (.slice D3 m3 d3)) := ⟨_, _, _, kd3, D3, m3, d3, bb3, rfl, rfl, HU4.out⟩
      have hmeas : leftOf l0 Bf (.bool bb3) ((w3.setCell ⟨w2.heap.size, 0, none⟩ (.int .i64 kd3)).setCell ⟨w2.heap.size, 1, none⟩ (.slice D3 m3 d3)) < leftOf l0 Bf (.bool true) wr := by
        have h1 := HLT.out
        show _ < l0.length + 1 - toldOf Bf wr
        rcases HU4.out with ⟨rfl, bs3, hP3⟩ | ⟨rfl, _⟩
        · have h2 := hP3.told
          show l0.length + 1 - toldOf Bf _ < _
          rw [h2.1, h1.1]
          have h3 := h2.2
          rw [List.length_append] at h3 ⊢
          simp at h3 ⊢
          omega
        · show 0 < _
          omega
      have HM := Lib.hid hmeas; have HRL := Lib.hid hrel
      clear hmeas hrel
      go_roundw
      case rel => exact HRL.out
      case measure => exact HM.out
    · have HE := Lib.hid hE
      clear hE
      gi_wp2_with fail
      refine ⟨fun _ h => (by cases h), ?_⟩
      gi_wp2_with fail
      go_end0
      exact ⟨⟨_, rfl⟩, _, _, HE.out⟩
end Go.Proofs.YtfpjmeknjhhakaaGreat.K

/- One round of frame.Scan's range over a function. -/
namespace Go.Proofs.YtfpjmeknjhhakaaGreat.K
open Go Go.RowKit Go.Shelf
attribute [local go_sem] Oper.semAt_some

theorem wpListIn_append_bankG {F : Fence} {nn : Nat} {P : Program} {w0 w : World} {L : List Acc} {ops : Array Oper} {rest : List Oper} {o : Oper} {a : Act} {Q : Exit → Act → World → Prop} (h : Bank w0 w L) (hgd : o.guard = Option.none) (s y : Operand) (t : TypeId)
    (ho : o.op = .call { callee := .builtin .append, args := #[s, y], argTypes := #[t, t] })
    (e : TypeId) (z : Value) (size bytes : Nat) (hz : (P.info? e).map (fun i => (i.zero, i.size, i.bytes)) = some (some z, size, bytes)) (ht : P.underlying t = some (.slice e)) (hzs : z.cells.size = size) (hsz : 0 < size)
    (k : Nat) (A : Option Addr) (n cap : Nat) (xs : List Value) (hs : a.eval s = .slice A n cap) (hk : L[k]? = some ⟨.slice A n cap, n, e, size, xs⟩)
    (ad : Addr) (m c : Nat) (news : List Value) (hx : a.eval y = .slice (some ad) m c) (hl : news.length = m * size) (hnews : ∀ j u, news[j]? = some u → w.cell? (ad.add j) = some u) (h1 : ∀ u ∈ news, u.oneCell' = true)
    (h63 : n + m ≤ maxLen) (hbytes : (n + m) * bytes ≤ 140737488355328)
    (hK : ∀ A' n' c' w', n' = n + m → Bank w0 w' (L.set k ⟨.slice A' n' c', n', e, size, xs ++ news⟩) → w.grownBy w' (Value.slice A n cap).ownBlock → wpListIn F nn P ops Q rest (a.put o.dst (.slice A' n' c')) w') : wpListIn F nn P ops Q (o :: rest) a w := by
  obtain ⟨i0, hi, hz0, hz1, hz2⟩ := info_parts hz
  refine wpListIn_plain hgd fun K hK' => ?_
  obtain ⟨A', c', w', hr, h2, h3, h4⟩ := run_append_bankG (P := P) h t o.type e i0 z size bytes ht hi hz0 hz1 hz2 hzs hsz k A n cap xs hk ad m c news hl hnews h1 h63 hbytes
  unfold Oper.wpIn
  refine ⟨?_, ?_⟩
  · simp [Oper.about, ho, resolve, Target.leads, Sem.run_pure]
  · rw [Oper.semAt_plain F _ _ (by rw [ho]; intro c hc'; cases hc')]
    simp [execOp, ho, resolve, invoke, builtin, hs, hx, hr, Result.andThen]
    exact hK' _ _ (hK A' _ c' w' rfl h2 h3)
theorem infoFrame : (Tryz.prog.info? 78).map (fun i => (i.zero, i.size, i.bytes)) = some (some (.agg #[.int .i64 0, .slice none 0 0]), 2, 32) := by kernel_rfl
/-- a range over a function: the record, and the mark, are laid; the one call -/
theorem wp_rangeFunc_F {F : Fence} {nn : Nat} {P : Program} {g : Operand} {ps : Array Tmp} {assign body : Code} {Q : Exit → Act → World → Prop} {a : Act} {w : World} (hro : F.round = none) (h1 : F.depth.isSome = true → 1 ≤ nn) {gf : Nat} {lb : Array Value} (hg : a.eval g = .func (.func gf) #[] lb) (hFg : F.fn gf) (eg : ∀ args w, (callFunc gf args).run P w = .ok (.enter gf args) w)
    (h : ∀ fn, F.fn fn → CallsIn F (nn - 1) P gf (#[.func (.yield (w.heap.size + 1)) #[] #[]] ++ lb) ((w.alloc (.deferred (some []))).alloc (.loop { state := .ready, pending := none, fn, tmps := a.tmps, params := ps, assign, body, defers := w.heap.size }))
      (rangePost F nn P (w.heap.size + 1) Q { a with defers := [{ target := .collected w.heap.size, args := #[] }] ++ a.defers })) :
    (Code.rangeFunc g ps assign body).wpIn F nn P Q a w := by
  refine wpIn_rangeFunc ?_
  intro fn hfn
  rw [hro]
  have hh := h fn hfn
  obtain ⟨W1, hW1⟩ : ∃ W1, (w.alloc (.deferred (some []))).alloc (.loop { state := .ready, pending := none, fn, tmps := a.tmps, params := ps, assign, body, defers := w.heap.size }) = W1 := ⟨_, rfl⟩
  rw [hW1] at hh
  refine ⟨w.heap.size + 1, [{ target := .collected w.heap.size, args := #[] }], W1, { target := .fn (.func gf) lb, args := #[.func (.yield (w.heap.size + 1)) #[] #[]] }, W1, gf, #[.func (.yield (w.heap.size + 1)) #[] #[]] ++ lb, W1, ?_, ?_, ?_, ?_, h1, ?_⟩
  · rw [← hW1]; exact run_enterLoop_outer _ _ _ _ _
  · simp only [resolve, hg]
    simp [go_sem]
  · intro f' hf'; simp [Target.leads] at hf'; subst hf'; exact hFg
  · simp [invoke, go_sem, eg]
  · exact hh
section
variable {w0 : World} {l0 : List (BitVec 8)} {Bx S Bf Lr Dd : Nat} {T : List Acc} {ps : List FR} {p : FR} {W : World}
theorem perm_told (a b c d q : Acc) (T R : List Acc) : (q :: (T ++ a :: b :: c :: d :: R)).Perm (T ++ a :: b :: c :: d :: q :: R) := by
  have h1 : (q :: (T ++ a :: b :: c :: d :: R)) = q :: ((T ++ [a, b, c, d]) ++ R) := by simp
  have h2 : (T ++ a :: b :: c :: d :: q :: R) = (T ++ [a, b, c, d]) ++ q :: R := by simp
  rw [h1, h2]
  exact List.perm_middle.symm
end
theorem cells_lit2 (w : World) (a b : Value) (t : TypeId) : ∀ j u, [a, b][j]? = some u → (w.alloc (.cells #[a, b] t)).cell? ((⟨w.heap.size, 0, none⟩ : Addr).add j) = some u := by
  intro j u hu
  match j, hu with
  | 0, hu => simp at hu; subst hu; simp [Addr.add]
  | 1, hu => simp at hu; subst hu; simp [Addr.add]
/-- what a record is good for -/
def RecOk (rec : LoopState → Option Code → Loop) : Prop := (∀ st pe, (rec st pe).state = st) ∧ (∀ pe, (rec .ready pe).pending = pe) ∧ { { rec .ready none with state := .busy } with state := .ready, pending := none } = rec .ready none
/-- the range over the scan's iterator -/
theorem wp_scan_range {g : Operand} {assign body : Code} {Q : Exit → Act → World → Prop} {a : Act} {W0 : World} {tt : Tmp} (w : World) (l0 : List (BitVec 8)) (Bx S Bf : Nat) (A : Option Addr) (n c : Nat) (hl0 : l0.length ≤ 100000000000)
    (hg : a.eval g = .func (.func 88) #[] #[.pointer (some ⟨Bx, 0, none⟩)]) (hB0 : Bank w W0 (backL Bx S Bf A n c 0 false none 0 [])) (hL0 : LeftAt w l0 A n c 0 [])
    (hround : ∀ (rec : LoopState → Option Code → Loop) (Lr Dd : Nat) T ps p W, RecOk rec → SPend w l0 Bx S Bf Lr Dd rec T ps p W →
      assign.wpIn (Fence.wide.inRound Lr) 7 Tryz.prog (Exit.then (fun a₁ w₁ => ∃ w₂, (Instr.beginRound Lr).run Tryz.prog w₁ = .ok () w₂ ∧ body.wpIn (Fence.wide.inRound Lr) 7 Tryz.prog (roundPost Tryz.prog Lr (fun e W' => e = .returned (.bool true) ∧ SInv w l0 Bx S Bf Lr Dd rec T (ps ++ [p]) W')) a₁ w₂) (fun _ _ _ => False))
        { tmps := (#[tt].zip #[Value.agg #[.int .i64 p.k, .slice p.x.A p.x.n p.x.c]]).foldl (fun tmps (t, a) => tmps.setIfInBounds t a) a.tmps, defers := [] } W)
    (hdone : ∀ Dd T ps A n c u s Fa cF W, Bank w W (T ++ backL Bx S Bf A n c u s Fa cF ps) → F.scan l0 = (ps.map FR.fr, u, s) → u ≤ l0.length → ps.length * 9 ≤ u → W.heap[Dd]? = some (.deferred (some [])) → w.heap.size ≤ Dd → Q .normal { a with defers := [{ target := .collected Dd, args := #[] }] ++ a.defers } W) :
    (Code.rangeFunc g #[tt] assign body).wpIn Fence.wide 9 Tryz.prog Q a W0 := by
  refine wp_rangeFunc_F rfl (fun h => by simp [Fence.wide] at h) hg trivial (enters_of Tryz.func88 (by kernel_rfl) rfl) ?_
  intro fn hfn
  obtain ⟨rec, hrec⟩ : ∃ rec : LoopState → Option Code → Loop, rec = fun st pe => { state := st, pending := pe, fn, tmps := a.tmps, params := #[tt], assign, body, defers := W0.heap.size } := ⟨_, rfl⟩
  have hok : RecOk rec := by rw [hrec]; exact ⟨fun _ _ => rfl, fun _ => rfl, rfl⟩
  obtain ⟨W1, hW1⟩ : ∃ W1, (W0.alloc (.deferred (some []))).alloc (.loop (rec .ready none)) = W1 := ⟨_, rfl⟩
  have hL1 : W1.heap[W0.heap.size + 1]? = some (.loop (rec .ready none)) := by
    rw [← hW1]; have := World.alloc_heap_new (W0.alloc (.deferred (some []))) (.loop (rec .ready none)); rwa [World.size_alloc] at this
  have hK1 : W1.heap[W0.heap.size]? = some (.deferred (some [])) := by
    rw [← hW1]; exact (Below.heap_alloc _ _ _ (by simp)).trans (World.alloc_heap_new W0 _)
  have hB1 : Bank w W1 (backL Bx S Bf A n c 0 false none 0 []) := by rw [← hW1]; exact (hB0.alloc _).alloc _
  have hsz := hB0.since.size
  have h0 : SInv w l0 Bx S Bf (W0.heap.size + 1) W0.heap.size rec [] [] W1 := ⟨A, n, c, 0, none, 0, hB1, hL0, hL1, hK1, by omega, hsz⟩
  have hlit : (W0.alloc (.deferred (some []))).alloc (.loop { state := .ready, pending := none, fn, tmps := a.tmps, params := #[tt], assign, body, defers := W0.heap.size }) = W1 := by rw [← hW1, hrec]
  rw [hlit]
  refine (all1_in w l0 Bx S Bf (W0.heap.size + 1) W0.heap.size rec 8 hl0 ?_ W1 h0).mono ?_
  · intro T ps p W hP
    have hP' := hP
    obtain ⟨_, _, _, _, _, _, _, _, hl, _⟩ := hP
    have hy := run_yield (P := Tryz.prog) (args := #[Value.agg #[.int .i64 p.k, .slice p.x.A p.x.n p.x.c]]) hl (by rw [hrec]; rfl)
    have hrd := hround rec _ _ T ps p W hok hP'
    rw [hrec] at hy
    exact ⟨fn, _, assign, body, hy, roundIn_of_wpIn hfn hrd⟩
  · rintro e W2 ⟨⟨v, rfl⟩, T, ps, A', n', c', u, s, Fa, cF, hB, hsc, hu, h9, hl, hk, hl0', hk0'⟩
    have hrun := run_endLoop (P := Tryz.prog) hl (by rw [hok.1]; simp)
    rw [hok.2.1] at hrun
    refine ⟨none, _, hrun, ?_⟩
    refine hdone W0.heap.size T ps A' n' c' u s Fa cF _ (hB.putLoop _ hl0' hl rfl) hsc hu h9 ?_ hk0'
    exact (World.putObj_heap_other (by omega)).trans hk
end Go.Proofs.YtfpjmeknjhhakaaGreat.K

/- The contract of store's Append. -/
namespace Go.Proofs.YtfpjmeknjhhakaaGreat.K
open Go Go.RowKit Go.Maps

theorem entry_madeS {e : M.Ent} {A : Option Addr} {n c : Nat} {w : World} (hr : RowRd w ⟨A, n, c⟩ e.data) (hn : n ≤ 1000000000000) : Calls Tryz.prog 53 #[.agg #[.int .i64 e.term, B8 e.kind, .int .i64 e.version, .int .i64 e.server, .bool e.good, .slice A n c]] w (Made w (M.ent e)) :=
  (wentry_any e.term _ e.version e.server _ e.kind e.good A n c e.data w hr hn rfl rfl).mono fun _ _ ⟨g, N, c', he, hN, ho, hb⟩ => ⟨g, N, c', he, hN, ho, hb⟩
theorem frAcc_snoc (Fa : Option Addr) (cF : Nat) (ps : List FR) (p : FR) : frAcc Fa cF (ps ++ [p]) = ⟨.slice Fa (ps.length + 1) cF, ps.length + 1, 78, 2, ps.flatMap FR.cells ++ [.int .i64 p.k, p.x.v]⟩ := by
  rw [frAcc, List.length_append, List.flatMap_append]; simp [FR.cells]
theorem frRows_snoc (ps : List FR) (p : FR) : (ps ++ [p]).reverse.map FR.acc = p.acc :: ps.reverse.map FR.acc := by simp
theorem puts_take (i : Int) (es : List M.Ent) (k : Nat) (hk : k < es.length) : S.puts i (es.take (k + 1)) = S.puts i (es.take k) ++ [S.put (i + k) es[k]] := by
  rw [List.take_succ_eq_append_getElem hk, S.puts_append, List.length_take]
  simp [S.puts, Nat.min_eq_left (Nat.le_of_lt hk)]
theorem cells_litF (w : World) (a b : Value) (t : TypeId) : ∀ j u, [a, b][j]? = some u → (w.alloc (.cells #[a, b] t)).cell? ((⟨w.heap.size, 0, none⟩ : Addr).add j) = some u := cells_lit1 w [a, b] t
theorem puts_kind (es : List M.Ent) : ∀ (i : Int), ∀ f ∈ S.puts i es, f.kind = 2 := by
  induction es with
  | nil => intro i f hf; cases hf
  | cons e es ih =>
    intro i f hf
    rcases List.mem_cons.1 hf with rfl | hf
    · rfl
    · exact ih (i + 1) f hf
theorem rdEntry_ent0 {e : M.Ent} (h : e.Ok) : M.rdEntry (some (M.ent e)) = (e, some []) := by
  have h1 := M.rdEntry_ent e [] h
  rwa [List.append_nil] at h1
/-- entries were put, or not -/
def AppS (w0 : World) (D R : Nat) (room : Int) (o : Option Fil) (Z : Nat) (c : S.Cl) (A : Option Addr) (cE : Nat) (xs : List EV) (L : List Acc) (i : Int) (es : List M.Ent) (e : Ending) (w' : World) : Prop :=
  ((i < 1 ∨ (xs.length : Int) + 1 < i) ∧ e = .returned (.int .i64 2) ∧ SK w0 w' D R room o Z c A cE xs L) ∨
  ((1 ≤ i ∧ i ≤ (xs.length : Int) + 1) ∧ es = [] ∧ e = .returned (.int .i64 0) ∧ SK w0 w' D R room o Z c A cE xs L) ∨
  ((1 ≤ i ∧ i ≤ (xs.length : Int) + 1) ∧ es ≠ [] ∧ PutS w0 D R room o Z c A cE xs L (S.puts i es) ⟨c, (xs.map EV.e).take (i - 1).toNat ++ es⟩ e w')
set_option maxHeartbeats 8000000 in
set_option maxRecDepth 100000 in
theorem sApp_any (w0 w : World) (D R : Nat) (room : Int) (o : Option Fil) (Z : Nat) (c : S.Cl) (A : Option Addr) (cE : Nat) (xs : List EV) (L : List Acc) (i : Int) (E : Option Addr) (n cn : Nat) (es : List M.Ent)
    (h : SK w0 w D R room o Z c A cE xs L) (hl : es.length = n) (hE : EntsRd w E es) (hok : ∀ e ∈ es, e.Ok) (hd : ∀ e ∈ es, e.data.length ≤ 200000) (hT : (F.pbytes (S.puts i es)).length ≤ 100000000) (ho : olen o ≤ 100000000) (hx : xs.length + n ≤ 800000) :
    Calls Tryz.prog 19 #[.pointer (some ⟨Z, 0, none⟩), .int .i64 i, .slice E n cn] w (AppS w0 D R room o Z c A cE xs L i es) := by
  have c0 := h.box.c0
  have c5 := h.box.c5
  have HTH := Lib.hid (there_any Z D w c0)
  have H0 := Lib.hid h; have HL := Lib.hid hl; have HE := Lib.hid hE; have HOK := Lib.hid hok; have HD := Lib.hid hd; have HT := Lib.hid hT
  have hwr : IntKind.i64.wrap ((xs.length : Int) + 1) = (xs.length : Int) + 1 := IntWalk.i64_in _ (by omega)
  clear h hl hE hok hd hT c0
  obtain ⟨m, hm⟩ : ∃ m, m = xs.length := ⟨_, rfl⟩
  rw [← hm] at c5 hwr
  have HM := Lib.hid hm
  have hmn : m + n ≤ 800000 := by omega
  clear hm hx
  by_cases h1 : i < 1
  · have HFIN := Lib.hid (show AppS w0 D R room o Z c A cE xs L i es (.returned (.int .i64 2)) w from .inl ⟨.inl h1, rfl, H0.out⟩)
    go_enter Tryz.func19, Tryz.ntmps19
    go_wp2_with (go_at_call 48; refine HTH.out.mono ?_; rintro e w' ⟨rfl, rfl⟩)
    go_ret
    exact HFIN.out
  by_cases h2 : (m : Int) + 1 < i
  · have HFIN := Lib.hid (show AppS w0 D R room o Z c A cE xs L i es (.returned (.int .i64 2)) w from .inl ⟨.inr (by rw [← HM.out]; exact h2), rfl, H0.out⟩)
    go_enter Tryz.func19, Tryz.ntmps19
    go_wp2_with (go_at_call 48; refine HTH.out.mono ?_; rintro e w' ⟨rfl, rfl⟩)
    go_ret
    exact HFIN.out
  have BK0 := Lib.hid ((Bank.nil (Below.refl w.heap.size w)).none 78 2)
  have HRG := Lib.hid (show 1 ≤ i ∧ i ≤ (m : Int) + 1 by omega)
  go_enter Tryz.func19, Tryz.ntmps19
  go_wp2_with (go_at_call 48; refine HTH.out.mono ?_; rintro e w' ⟨rfl, rfl⟩)
  clear HTH hwr c5 h1 h2
  go_loopw [7, 32] (fun v j wr => ∃ (k : Nat) (ps : List FR) (Fa : Option Addr) (cF : Nat), k ≤ n ∧ j = .int .i64 (k : Int) ∧ v = .slice Fa k cF ∧ ps.length = k ∧ ps.map FR.fr = S.puts i (es.take k) ∧ (∀ p ∈ ps, p.x.n ≤ 100000000) ∧ Bank w wr (⟨.slice Fa k cF, k, 78, 2, ps.flatMap FR.cells⟩ :: ps.reverse.map FR.acc)) (fun _ j _ => n - (intOf j).toNat)
  case atStart => exact ⟨0, [], none, 0, by omega, rfl, rfl, rfl, by simp [S.puts], by simp, BK0.out⟩
  case round =>
    clear BK0
    obtain ⟨k, ps, Fa, cF, hk, rfl, rfl, hpl, hps, hpn, hB⟩ := hrel
    have k0 : (0 : Int) ≤ (k : Int) := by omega
    have HPL := Lib.hid hpl; have HPS := Lib.hid hps; have HPN := Lib.hid hpn
    have H2 := Lib.hid hB
    rcases Nat.lt_or_ge k n with h1 | h1
    · have i1 : (k : Int) < (n : Int) := by omega
      have hke : k < es.length := by rw [HL.out]; exact h1
      obtain ⟨b, q, rfl, De, me, ce, hcells, hrd⟩ := (HE.out.since hB.since) k hke
      obtain ⟨x0, x1, x2, x3, x4, x5⟩ := hcells
      obtain ⟨en, hen⟩ : ∃ en, en = es[k] := ⟨_, rfl⟩
      rw [← hen] at x0 x1 x2 x3 x4 hrd
      have hem : en ∈ es := by rw [hen]; exact List.getElem_mem hke
      have HEN := Lib.hid hen; have HRD := Lib.hid hrd; have HOKE := Lib.hid (HOK.out en hem); have HDE := Lib.hid (HD.out en hem)
      have hme : en.data.length = me := hrd.len
      have BK1 := Lib.hid (hB.box #[.int .i64 en.term, B8 en.kind, .int .i64 en.version, .int .i64 en.server, .bool en.good, .slice De me ce] 62 (by simp))
      have hmeb : me ≤ 200000 := by have := HDE.out; omega
      clear hB hpl hps hpn hen hrd hem hme H2
      go_wp2_with fail
      refine (entry_madeS (Since.row (Since.alloc (Below.refl wr.heap.size wr) _) HRD.out) (by omega)).mono ?_
      rintro e w3 ⟨gb, Nb, cb, rfl, hNb, hob, hbb⟩
      have BK3 := Lib.hid (BK1.out.madeB hbb hob)
      have HNb := Lib.hid hNb
      have SW3 := Lib.hid (Since.add (Since.alloc (Below.refl wr.heap.size wr) _) hbb)
      clear hNb hob hbb BK1 x0 x1 x2 x3 x4 x5
      go_wp2_with fail
      refine (pNew_any (some ⟨gb, 0, none⟩) Nb cb (M.ent en) w3 (BK3.out.row 0 rfl) (by have h := HNb.out; rw [M.ent_length] at h; have := HDE.out; omega)).mono ?_
      rintro e w4 ⟨P, A0, rfl, hP, hq, hA, hb4⟩
      have HH := Lib.hid (held_new hP hq hA hb4)
      clear hP hq hA hb4
      go_wp2_with fail
      refine (entry_held HH.out (rdEntry_ent0 HOKE.out)).mono ?_
      rintro e w5 ⟨Bd, md, cd, rfl, hH5⟩
      obtain rfl : md = me := by
        have h1 : en.data.length = md := (hH5.bank.row 0 rfl).len
        have h2 : en.data.length = me := HRD.out.len
        omega
      have HH5 := Lib.hid (hH5.box #[.int .i64 en.term, B8 en.kind, .int .i64 en.version, .int .i64 en.server, .bool en.good, .slice Bd md cd] 62 (by simp))
      clear hH5 HH
      go_wp2_with fail
      generalize w5.alloc (.cells #[.int .i64 en.term, B8 en.kind, .int .i64 en.version, .int .i64 en.server, .bool en.good, .slice Bd md cd] 62) = v5 at *
      generalize w5.heap.size = Y at *
      refine (pDoneN P (some []) A0 v5 HH5.out.q).mono ?_
      rintro e v6 ⟨rfl, rfl⟩
      rw [show decide ((some [] : M.Rdr) = some []) = true from by simp]
      have S5 := Lib.hid HH5.out.bank.since
      have BK5 := Lib.hid (BK3.out.call S5.out)
      obtain ⟨X, hX⟩ : ∃ X, X = wr.heap.size := ⟨_, rfl⟩
      rw [← hX] at BK5
      rw [← hX]
      clear hX BK3
      have y0 := HH5.out.bank.cell 0 rfl 0 rfl
      have y1 := HH5.out.bank.cell 0 rfl 1 rfl
      have y2 := HH5.out.bank.cell 0 rfl 2 rfl
      have y3 := HH5.out.bank.cell 0 rfl 3 rfl
      have y4 := HH5.out.bank.cell 0 rfl 4 rfl
      have y5 := HH5.out.bank.cell 0 rfl 5 rfl
      have z0 := BK5.out.cell 1 rfl 0 rfl
      have z1 := BK5.out.cell 1 rfl 1 rfl
      have z2 := BK5.out.cell 1 rfl 2 rfl
      have z3 := BK5.out.cell 1 rfl 3 rfl
      have z4 := BK5.out.cell 1 rfl 4 rfl
      have z5 := BK5.out.cell 1 rfl 5 rfl
      go_wp2_with fail
      refine (same_any en Bd De md cd ce v5 (HH5.out.bank.row 1 rfl) (Since.row (SW3.out.add S5.out) HRD.out) (by omega)).mono ?_
      rintro e w7 ⟨rfl, hs7⟩
      have BK7 := Lib.hid (BK5.out.call hs7)
      clear y0 y1 y2 y3 y4 y5 z0 z1 z2 z3 z4 z5 hs7 HH5 S5 BK5
      have hwk : IntKind.i64.wrap (i + (k : Int)) = i + (k : Int) := IntWalk.i64_in _ (by have := HRG.out; omega)
      go_wp2_with fail
      refine (num_madeS (i + (k : Int)) w7).mono ?_
      rintro e w8 ⟨g8, N8, c8, rfl, hN8, ho8, hb8⟩
      have BK8 := Lib.hid (BK7.out.madeB hb8 ho8)
      clear hN8 ho8 hb8 BK7
      have hrows : ∀ p ∈ ([(⟨some ⟨g8, 0, none⟩, N8, c8⟩, M.num (i + (k : Int))), (⟨some ⟨gb, 0, none⟩, Nb, cb⟩, M.ent en)] : List RB), RowRd w8 p.1 p.2 := by
        intro p hp
        simp only [List.mem_cons, List.not_mem_nil, or_false] at hp
        rcases hp with rfl | rfl
        · exact BK8.out.row 0 rfl
        · exact BK8.out.row 1 rfl
      have hfl : flat ([(⟨some ⟨g8, 0, none⟩, N8, c8⟩, M.num (i + (k : Int))), (⟨some ⟨gb, 0, none⟩, Nb, cb⟩, M.ent en)] : List RB) = S.edata (i + (k : Int)) en := by simp [flat, S.edata]
      have HJN := Lib.hid (join_litS ([(⟨some ⟨g8, 0, none⟩, N8, c8⟩, M.num (i + (k : Int))), (⟨some ⟨gb, 0, none⟩, Nb, cb⟩, M.ent en)] : List RB) w8 _ 2 2 rfl rfl hrows (by simp) (by rw [hfl, S.edata_length]; have := HDE.out; omega))
      rw [hfl] at HJN
      clear hrows hfl
      go_wp2_with fail
      refine HJN.out.mono ?_
      rintro e w9 ⟨Aj, Nj, cj, rfl, hNj, hoj, hbj⟩
      have BK9 := Lib.hid (((BK8.out.alloc _).madeB hbj hoj).sub (L' := rowAcc Aj Nj cj (S.edata (i + (k : Int)) en) :: ⟨.slice Fa k cF, k, 78, 2, ps.flatMap FR.cells⟩ :: ps.reverse.map FR.acc) (.cons_cons _ (.cons _ (.cons _ (.cons _ (.cons_cons _ (List.Sublist.refl _)))))))
      have HNJ := Lib.hid hNj
      clear hNj hoj hbj BK8 HJN hwk
      go_wp2_with (at_builtin; go_loud (refine wpList_append_bankG (BK9.out.alloc _) rfl _ _ 72 rfl 78 _ 2 32 infoFrame Tryz.underlying72 rfl (by decide) 1 Fa k cF (ps.flatMap FR.cells) rfl rfl _ 1 1 [.int .i64 2, .slice Aj Nj cj] rfl rfl (cells_litF w9 (.int .i64 2) (.slice Aj Nj cj) _) (by intro u hu; simp at hu; rcases hu with rfl | rfl <;> rfl) (by unfold maxLen; omega) (by omega) ?_; intro A' n' c' w10 hn' hB10 _ _; dsimp only [List.set] at hB10; have BK10 := Lib.hid hB10; have HN10 := Lib.hid hn'; clear hn' hB10))
      go_roundw
      case rel =>
        have hn10 := HN10.out
        subst hn10
        refine ⟨k + 1, ps ++ [⟨2, ⟨Aj, Nj, cj⟩, S.edata (i + (k : Int)) en⟩], A', c', by omega, by go_num, rfl, by rw [List.length_append, HPL.out]; rfl, ?_, ?_, ?_⟩
        · rw [List.map_append, HPS.out, puts_take _ _ _ (by rw [HL.out]; exact h1), HEN.out]; rfl
        · intro p hp
          rcases List.mem_append.1 hp with hp | hp
          · exact HPN.out p hp
          · rw [List.mem_singleton] at hp
            subst hp
            show Nj ≤ _
            rw [HNJ.out, S.edata_length]
            have := HDE.out
            omega
        · rw [frRows_snoc, List.flatMap_append]
          have h := BK10.out
          exact ⟨h.since, fun p hp => h.own p (by simp only [List.mem_cons] at hp ⊢; rcases hp with h | h | h; exact .inr (.inl h); exact .inl h; exact .inr (.inr h)), (List.Perm.pairwise_iff (fun {_ _} h => Apartness.symm h) (List.Perm.swap _ _ _)).1 h.sep⟩
      case measure => simp [intOf]; omega
    · have i1 : ¬ (k : Int) < (n : Int) := by omega
      obtain rfl : k = n := by omega
      have hpl2 := hpl
      have HB := Lib.hid (show Bank w wr (frAcc Fa cF ps :: ps.reverse.map FR.acc) by unfold frAcc; rw [hpl2]; exact hB)
      have HPSn : Hid (ps.map FR.fr = S.puts i es) := Lib.hid (by rw [hps, List.take_of_length_le (by rw [HL.out]; omega)])
      clear hB hpl hps hpn hpl2 H2 HPS
      by_cases hk0 : k = 0
      · subst hk0
        have HFIN := Lib.hid (show AppS w0 D R room o Z c A cE xs L i es (.returned (.int .i64 0)) wr from .inr (.inl ⟨by rw [← HM.out]; exact HRG.out, List.eq_nil_of_length_eq_zero HL.out, rfl, H0.out.call HB.out.since⟩))
        go_wp2
        go_ret
        exact HFIN.out
      · have hk1 : ¬ (k : Int) = 0 := by omega
        have HNE := Lib.hid (show es ≠ [] by intro h; have h2 := HL.out; rw [h] at h2; exact hk0 h2.symm)
        have hidx : i = (i.toNat : Int) := by have := HRG.out; omega
        have hdo : S.sdos ⟨c, xs.map EV.e⟩ (ps.map FR.fr) = some ⟨c, (xs.map EV.e).take (i - 1).toNat ++ es⟩ := by
          have h := S.sdos_puts es HOK.out ⟨c, xs.map EV.e⟩ i.toNat (by have := HRG.out; omega) (by have := HRG.out; have h3 := HM.out; show _ ≤ (xs.map EV.e).length + 1; rw [List.length_map]; omega) (by have := HRG.out; have h3 := HL.out; omega)
          rw [← hidx, if_neg HNE.out] at h
          rw [HPSn.out, h, show (i - 1).toNat = i.toNat - 1 by omega]
        have HSP := Lib.hid (sput_any w0 wr D R room o Z c A cE xs L Fa cF ps ⟨c, (xs.map EV.e).take (i - 1).toNat ++ es⟩ k (H0.out.add HB.out) HPL.out (by
          intro p hp
          have h := puts_kind es i p.fr (by rw [← HPSn.out]; exact List.mem_map.2 ⟨p, hp, rfl⟩)
          have h2 : p.k = 2 := h
          rw [h2]
          unfold M.inI64
          omega) (by rw [HPSn.out]; exact S.puts_err i es HD.out) hdo (by rw [HPSn.out]; exact HT.out) ho (by have := HM.out; omega) HPN.out)
        rw [HPSn.out] at HSP
        clear hdo hidx
        go_wp2_with fail
        refine HSP.out.mono ?_
        rintro e w4 hp
        obtain ⟨n4, rfl⟩ := hp.ret
        have HFIN := Lib.hid (show AppS w0 D R room o Z c A cE xs L i es (.returned (.int .i64 n4)) w4 from .inr (.inr ⟨by rw [← HM.out]; exact HRG.out, HNE.out, hp⟩))
        clear hp HSP
        go_wp2
        go_ret
        exact HFIN.out
end Go.Proofs.YtfpjmeknjhhakaaGreat.K

/- The contract of frame.Scan. -/
namespace Go.Proofs.YtfpjmeknjhhakaaGreat.K
open Go Go.RowKit Go.Shelf
attribute [local go_sem] Oper.semAt_some

/-- the body of the range in frame.Scan -/
def ScanPost (w : World) (l0 : List (BitVec 8)) (e : Ending) (W' : World) : Prop := ∃ (ps : List FR) (Fa : Option Addr) (cF u : Nat) (s : Bool), e = .returned (.tuple #[.slice Fa ps.length cF, .int .i64 (u : Int), .bool s]) ∧ F.scan l0 = (ps.map FR.fr, u, s) ∧ u ≤ l0.length ∧ ps.length * 9 ≤ u ∧ Bank w W' (frAcc Fa cF ps :: ps.reverse.map FR.acc)
theorem Bank.dropL {w0 w : World} {T L : List Acc} (h : Bank w0 w (T ++ L)) : Bank w0 w L := by
  induction T with
  | nil => exact h
  | cons p T ih => exact ih (Bank.drop h)
set_option maxHeartbeats 4000000 in
set_option maxRecDepth 100000 in
theorem scan_any (A : Option Addr) (n c : Nat) (l0 : List (BitVec 8)) (w : World) (hr : RowRd w ⟨A, n, c⟩ l0) (hn : n ≤ c) (hc : c ≤ 9223372036854775807) (hl0 : l0.length ≤ 100000000000) (hA : ∀ a, A = some a → a.block < w.heap.size) :
    Calls Tryz.prog 24 #[.slice A n c] w (ScanPost w l0) := by
  have HR := Lib.hid hr
  have hlen : l0.length = n := hr.len
  have HLEN := Lib.hid hlen
  clear hr hlen
  refine (callsIn_wide (n := 9)).1 (callsIn_of_wp_marks Tryz.func24 rfl trivial ?_ rfl)
  simp only [Tryz.ntmps24, List.size_toArray, List.length_cons, List.length_nil, Nat.reduceAdd, Nat.reduceSub, Array.replicate_succ, Array.replicate_zero, List.push_toArray, List.append_toArray, List.nil_append, List.cons_append]
  gi_wp2_with fail
  refine ⟨trivial, ?_⟩
  refine (callsIn_wide.2 (all_any _ _)).mono ?_
  rintro e w' ⟨rfl, rfl⟩
  gi_wp2_with fail
  have hB0 : Bank w (((w.alloc (.cells #[.slice none 0 0] 72)).alloc (.cells #[.slice A n c, .int .i64 0, .bool false] 113)).alloc (.cells #[.pointer (some ⟨w.heap.size + 1, 0, none⟩)] 109)) (backL (w.heap.size + 1 + 1) (w.heap.size + 1) w.heap.size A n c 0 false none 0 []) := by
    have h1 := (Bank.nil (Below.refl w.heap.size w)).none 78 2
    have h2 := h1.box #[.slice none 0 0] 72 (by simp)
    have h3 := h2.box #[.slice A n c, .int .i64 0, .bool false] 113 (by simp)
    have h4 := h3.box #[.pointer (some ⟨w.heap.size + 1, 0, none⟩)] 109 (by simp)
    simp only [World.size_alloc] at h3 h4
    exact h4
  have hL0 : LeftAt w l0 A n c 0 [] := ⟨HR.out, hn, hc, by rw [HLEN.out]; omega, by simp, hA, by simp⟩
  have HB0 := Lib.hid hB0; have HL0 := Lib.hid hL0
  clear hB0 hL0
  generalize ((w.alloc (.cells #[.slice none 0 0] 72)).alloc (.cells #[.slice A n c, .int .i64 0, .bool false] 113)).alloc (.cells #[.pointer (some ⟨w.heap.size + 1, 0, none⟩)] 109) = W0 at *
  refine wp_scan_range w l0 (w.heap.size + 1 + 1) (w.heap.size + 1) w.heap.size A n c hl0 rfl HB0.out HL0.out ?round ?done
  case round =>
    intro rec Lr Dd T ps p W hok h
    obtain ⟨A1, n1, c1, u, Fa, cF, hB, hL, h1, h2, h3, h4⟩ := h
    have hps : ps.length * 9 ≤ 100000000000 := by have h5 := hL.few; have h6 := hL.un; rw [List.length_append] at h5; omega
    have hB1 := hB.box #[.int .i64 p.k, .slice p.x.A p.x.n p.x.c] 78 (by simp)
    have h1' := heap_alloc_keep (.cells #[.int .i64 p.k, .slice p.x.A p.x.n p.x.c] 78) h1
    have h2' := heap_alloc_keep (.cells #[.int .i64 p.k, .slice p.x.A p.x.n p.x.c] 78) h2
    have hlt := (Array.getElem?_eq_some_iff.1 h1').1
    have B2 := Lib.hid (show Bank w _ ((boxAcc W.heap.size 78 [.int .i64 p.k, .slice p.x.A p.x.n p.x.c] :: p.acc :: T) ++ backL (w.heap.size + 1 + 1) (w.heap.size + 1) w.heap.size A1 n1 c1 u false Fa cF ps) from hB1.putLoop (.loop { rec .ready none with state := .busy }) h3 h1' rfl)
    have L2 := Lib.hid (World.putObj_heap_same (o := .loop { rec .ready none with state := .busy }) hlt)
    have D2 := Lib.hid ((World.putObj_heap_other (o := .loop { rec .ready none with state := .busy }) (show Dd ≠ Lr from fun e => by subst e; rw [h1'] at h2'; cases h2')).trans h2')
    have HBR := Lib.hid (run_beginRound (P := Tryz.prog) h1' (hok.1 _ _))
    have HL := Lib.hid hL; have HOK := Lib.hid hok
    clear hB hB1 h1 h2 h1' h2' hlt hL hok
    gi_wp2_with fail
    refine ⟨_, HBR.out, ?_⟩
    generalize (W.alloc (.cells #[.int .i64 p.k, .slice p.x.A p.x.n p.x.c] 78)).putObj Lr (.loop { rec .ready none with state := .busy }) = W2 at *
    generalize W.heap.size = X at *
    have hTl : ∃ T', T' = (boxAcc X 78 [.int .i64 p.k, .slice p.x.A p.x.n p.x.c] :: p.acc :: T) := ⟨_, rfl⟩
    have x0 := B2.out.cell 0 rfl 0 rfl
    have x1 := B2.out.cell 0 rfl 1 rfl
    obtain ⟨T', hT'⟩ := hTl
    have HT' := Lib.hid hT'
    have B2' := Lib.hid (show Bank w W2 (T' ++ backL (w.heap.size + 1 + 1) (w.heap.size + 1) w.heap.size A1 n1 c1 u false Fa cF ps) by rw [hT']; exact B2.out)
    clear hT' B2 HBR
    have cb := B2'.out.cell (T'.length + 2) (by rw [back_at]; rfl) 0 rfl
    gi_wp2_with (gi_at_builtin; refine wpListIn_append_bankG (B2'.out.alloc _) rfl _ _ 72 rfl 78 _ 2 32 infoFrame Tryz.underlying72 rfl (by decide) (T'.length + 3) _ _ _ (ps.flatMap FR.cells) rfl (by rw [back_at]; rfl) ⟨W2.heap.size, 0, none⟩ 1 1 [.int .i64 p.k, .slice p.x.A p.x.n p.x.c] rfl rfl (cells_lit2 _ _ _ _) (by intro v hv; simp at hv; rcases hv with rfl | rfl <;> rfl) (by unfold maxLen; omega) (by omega) ?_; intro A3 n3 c3 w3 hn3 hB3 hg3; rw [back_set] at hB3; have HN3 := Lib.hid hn3; have HB3 := Lib.hid hB3; have HG3 := Lib.hid hg3; have cb3 := hB3.cell (T'.length + 2) (by rw [back_at]; rfl) 0 rfl; have fb3 := hB3.free (T'.length + 2) (by rw [back_at]; rfl) 0; clear hn3 hB3 hg3 cb x0 x1)
    have hl2 := L2.out
    have hd2 := D2.out
    have hne : ∀ {o : Obj}, o.isCells = false → ∀ l, (W2.alloc (.cells #[.int .i64 p.k, .slice p.x.A p.x.n p.x.c] 78)).heap[l]? = some o → (Value.slice Fa ps.length cF).ownBlock ≠ some l := fun {o} ho l hl e => by
      rcases (((B2'.out.alloc (.cells #[.int .i64 p.k, .slice p.x.A p.x.n p.x.c] 78)).at (T'.length + 3) (p := frAcc Fa cF ps) (by rw [back_at]; rfl))).2 with ⟨h0, _⟩ | ⟨g, cap, cur, hv, _, hg, _⟩
      · have h0' : Value.slice Fa ps.length cF = .slice none 0 0 := h0
        rw [h0'] at e; cases e
      · have hv' : Value.slice Fa ps.length cF = .slice (some ⟨g, 0, none⟩) ps.length cap := hv
        rw [hv'] at e
        have e2 : g = l := by simpa [Value.ownBlock] using e
        subst e2
        rw [hg] at hl
        cases hl
        simp [Obj.isCells] at ho
    have hl3 := heap_alloc_keep (.cells #[.int .i64 p.k, .slice p.x.A p.x.n p.x.c] 78) hl2
    have hd3 := heap_alloc_keep (.cells #[.int .i64 p.k, .slice p.x.A p.x.n p.x.c] 78) hd2
    have hl4 := (HG3.out.block Lr (Array.getElem?_eq_some_iff.1 hl3).1 (fun e => hne rfl _ hl3 e.symm)).trans hl3
    have hd4 := (HG3.out.block Dd (Array.getElem?_eq_some_iff.1 hd3).1 (fun e => hne rfl _ hd3 e.symm)).trans hd3
    have hbf := (HB3.out.boxAt (T'.length + 2) (by rw [back_at]; rfl)).2
    have hl5 := heap_set_keep (j := 0) (v := .slice A3 n3 c3) hl4 ⟨_, _, _, hbf⟩ rfl
    have hd5 := heap_set_keep (j := 0) (v := .slice A3 n3 c3) hd4 ⟨_, _, _, hbf⟩ rfl
    refine ⟨_, _, run_endRound none hl5, rfl, ?_⟩
    have hB4 := HB3.out.boxSet (T'.length + 2) (by rw [back_at]; rfl) 0 (.slice A3 n3 c3)
    rw [back_set] at hB4
    have hB5 := hB4.putLoop (.loop { { rec .ready none with state := .busy } with state := if (none : Option Code).isNone then .ready else .done, pending := none }) h3 hl5 rfl
    have hn3 := HN3.out
    subst hn3
    have hB6 := hB5
    rw [HT'.out] at hB6
    have hB7 := (Bank.drop hB6).perm (perm_told _ _ _ _ _ _ _)
    refine ⟨A1, n1, c1, u, A3, c3, ?_, HL.out, ?_, ?_, h3, h4⟩
    · rw [show backL (w.heap.size + 1 + 1) (w.heap.size + 1) w.heap.size A1 n1 c1 u false A3 c3 (ps ++ [p]) = boxAcc (w.heap.size + 1 + 1) 109 [.pointer (some ⟨w.heap.size + 1, 0, none⟩)] :: boxAcc (w.heap.size + 1) 113 (scanL A1 n1 c1 u false) :: boxAcc w.heap.size 72 [.slice A3 (ps.length + 1) c3] :: ⟨.slice A3 (ps.length + 1) c3, ps.length + 1, 78, 2, ps.flatMap FR.cells ++ [.int .i64 p.k, .slice p.x.A p.x.n p.x.c]⟩ :: p.acc :: ps.reverse.map FR.acc by
        simp [backL, frAcc, FR.cells, Rw.v]]
      exact hB7
    · have := World.putObj_heap_same (o := .loop { { rec .ready none with state := .busy } with state := if (none : Option Code).isNone then .ready else .done, pending := none }) (Array.getElem?_eq_some_iff.1 hl5).1
      rw [this]
      exact congrArg (fun r => some (Obj.loop r)) HOK.out.2.2
    · exact (World.putObj_heap_other (fun e => by subst e; rw [hl5] at hd5; cases hd5)).trans hd5
  case done =>
    intro Dd T ps A1 n1 c1 u s Fa cF W hB hsc hu h9 hk hk0
    have cb := hB.cell (T.length + 2) (by rw [back_at]; rfl) 0 rfl
    have fb := hB.free (T.length + 2) (by rw [back_at]; rfl) 0
    have s1 := hB.cell (T.length + 1) (by rw [back_at]; rfl) 1 rfl
    have s2 := hB.cell (T.length + 1) (by rw [back_at]; rfl) 2 rfl
    have hB0x := hB
    have HB := Lib.hid hB; have HSC := Lib.hid hsc; have HK := Lib.hid hk
    clear hB hsc hk
    gi_wp2_with fail
    have hbx := (hB0x.boxAt (T.length + 2) (by rw [back_at]; rfl)).2
    have HK5 := Lib.hid (show (World.drew (W.setCell ⟨w.heap.size, 0, none⟩ (.slice Fa ps.length cF))).heap[Dd]? = some (.deferred (some [])) from heap_set_keep (j := 0) (v := .slice Fa ps.length cF) HK.out ⟨_, _, _, hbx⟩ rfl)
    have HB5 := Lib.hid (Bank.drew (HB.out.boxSet (T.length + 2) (by rw [back_at]; rfl) 0 (.slice Fa ps.length cF)))
    have HB6 := Lib.hid (HB5.out.putLoop (.deferred none) hk0 HK5.out rfl)
    have hfin : ∃ T', (T ++ backL (w.heap.size + 1 + 1) (w.heap.size + 1) w.heap.size A1 n1 c1 u s Fa cF ps).set (T.length + 2) (boxAcc w.heap.size 72 ([Value.slice Fa ps.length cF].set 0 (.slice Fa ps.length cF))) = T' := ⟨_, rfl⟩
    clear hfin hbx
    have HB7 := Lib.hid (HB6.out.cell (T.length + 2) (by rw [back_set, back_at]; rfl) 0 rfl)
    have HP := Lib.hid (show ScanPost w l0 (.returned (.tuple #[.slice Fa ps.length cF, .int .i64 (u : Int), .bool s])) ((World.drew (W.setCell ⟨w.heap.size, 0, none⟩ (.slice Fa ps.length cF))).putObj Dd (.deferred none)) from by
      refine ⟨ps, Fa, cF, u, s, rfl, HSC.out, hu, h9, ?_⟩
      have h := HB6.out
      rw [back_set] at h
      have h2 := h.perm (L' := T ++ [boxAcc (w.heap.size + 1 + 1) 109 [.pointer (some ⟨w.heap.size + 1, 0, none⟩)], boxAcc (w.heap.size + 1) 113 (scanL A1 n1 c1 u s), boxAcc w.heap.size 72 [.slice Fa ps.length cF]] ++ (frAcc Fa cF ps :: ps.reverse.map FR.acc)) (by simp [backL])
      exact h2.dropL)
    refine wpIn_wide.2 ?_
    refine wp_region_noPanic ?_
    go_region_law (fail)
    all_goals refine NoPanic.normal ?_
    all_goals
      gi_wp2_with fail
      refine ⟨by simp, .inl ⟨_, _, rfl, run_takeDeferred HK5.out, ?_⟩⟩
      refine ⟨.tuple #[.slice Fa ps.length cF, .int .i64 (u : Int), .bool s], ?_, HP.out⟩
      have hc5 := HB7.out
      simp [results, Tryz.results24, go_sem, hc5]
end Go.Proofs.YtfpjmeknjhhakaaGreat.K

/- How long a store's entries may be. No program in sight. -/
namespace Go.Proofs.YtfpjmeknjhhakaaGreat.S
open Go.Proofs.YtfpjmeknjhhakaaGreat

def rlen : M.Rdr → Nat
  | none => 0
  | some l => l.length
theorem rdNumber_len (s : M.Rdr) : rlen (M.rdNumber s).2 ≤ rlen s := by
  cases s with
  | none => exact Nat.le_refl _
  | some l =>
    unfold M.rdNumber
    simp only
    split
    · exact Nat.zero_le _
    · simp [rlen]
theorem rdBytes_len (s : M.Rdr) : (M.rdBytes s).1.length ≤ rlen s := by
  have h := rdNumber_len s
  unfold M.rdBytes
  cases hx : M.rdNumber s with
  | mk n t =>
    rw [hx] at h
    cases t with
    | none => simp
    | some l =>
      simp only
      split
      · simp
      · rw [List.length_take]
        have h2 : l.length ≤ rlen s := h
        omega
theorem rdEntry_len (s : M.Rdr) : (M.rdEntry s).1.data.length ≤ rlen s := by
  unfold M.rdEntry
  simp only
  split
  · simp [M.zeroEnt]
  · refine Nat.le_trans (rdBytes_len _) ?_
    exact Nat.le_trans (rdNumber_len _) (Nat.le_trans (rdNumber_len _) (Nat.le_trans (rdNumber_len _) (Nat.le_trans (rdNumber_len _) (rdNumber_len _))))
/-- entries of no more than so many bytes -/
def Small (m : Nat) (s : St) : Prop := ∀ e ∈ s.l, e.data.length ≤ m
theorem sdo_small {m : Nat} {s t : St} {f : F.Fr} (h : sdo s f = some t) (hs : Small m s) (hf : f.data.length ≤ m) : Small m t := by
  unfold sdo at h
  split at h
  · unfold sset at h
    split at h
    · cases h; exact hs
    · cases h
  · split at h
    · unfold sstand at h
      split at h
      · cases h
        intro e he
        rcases List.mem_append.1 he with he | he
        · exact hs e (List.mem_of_mem_take he)
        · rw [List.mem_singleton] at he
          subst he
          refine Nat.le_trans (rdEntry_len _) (Nat.le_trans (rdNumber_len _) hf)
      · cases h
    · cases h
theorem sdos_small {m : Nat} : ∀ (fs : List F.Fr) {s t : St}, sdos s fs = some t → Small m s → (∀ f ∈ fs, f.data.length ≤ m) → Small m t
  | [], s, t, h, hs, _ => by cases h; exact hs
  | f :: fs, s, t, h, hs, hf => by
    unfold sdos at h
    cases hx : sdo s f with
    | none => rw [hx] at h; cases h
    | some u =>
      rw [hx] at h
      exact sdos_small fs h (sdo_small hx hs (hf f (List.mem_cons_self ..))) (fun g hg => hf g (List.mem_cons_of_mem _ hg))
theorem zero_small (m : Nat) : Small m zero := fun _ h => by cases h
/-- frames that were scanned -/
theorem scan_frames (b : List B) : ∀ f ∈ (F.scan b).1, 0 ≤ f.kind ∧ f.kind ≤ 255 ∧ f.data.length ≤ 262144 := fun f hf => (F.errOf_ok f).1 ((F.perr_zero _).1 (F.scan_back b.length b (Nat.le_refl _)).1 f hf)
theorem sread_small {b : List B} {s : St} {u : Nat} (h : sread b = some (s, u)) : Small 262144 s := by
  unfold sread at h
  split at h
  · cases h
  · cases hx : sdos zero (F.scan b).1 with
    | none => rw [hx] at h; cases h
    | some t =>
      rw [hx] at h
      cases h
      exact sdos_small _ hx (zero_small _) (fun f hf => (scan_frames b f hf).2.2)
end Go.Proofs.YtfpjmeknjhhakaaGreat.S
