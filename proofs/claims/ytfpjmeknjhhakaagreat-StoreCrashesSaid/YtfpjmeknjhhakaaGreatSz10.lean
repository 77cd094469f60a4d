/- Merged: StoOpenF, StoSync, StoOpen, StoEnts, Law22A, RefDo, Law22B, Law22W, Law22L. -/
import Derived.Test.YtfpjmeknjhhakaaGreatSz9
import Derived.Deep.MidRow
import Derived.WalkSpells
set_option linter.unusedVariables false
/- The contract of the range over frames in store's Open. -/
namespace Go.Proofs.YtfpjmeknjhhakaaGreat.K
open Go Go.RowKit Go.Maps

/-- the store's variable -/
def varAcc (I Z : Nat) : Acc := boxAcc I 27 [.pointer (some ⟨Z, 0, none⟩)]
def One1 (w0 : World) (D R : Nat) (room : Int) (o : Option Fil) (Z : Nat) (c : S.Cl) (A : Option Addr) (cE : Nat) (xs : List EV) (L : List Acc) (f : F.Fr) (e : Ending) (w' : World) : Prop :=
  (S.sdo ⟨c, xs.map EV.e⟩ f = none ∧ e = .returned (.bool true) ∧ SK w0 w' D R room o Z c A cE xs L) ∨
  (∃ c' A' cE' xs', S.sdo ⟨c, xs.map EV.e⟩ f = some ⟨c', xs'.map EV.e⟩ ∧ xs'.length ≤ xs.length + 1 ∧ e = .returned (.bool false) ∧ SK w0 w' D R room o Z c' A' cE' xs' L)
set_option maxHeartbeats 2000000 in
set_option maxRecDepth 100000 in
theorem open1_any (w0 w : World) (D R : Nat) (room : Int) (o : Option Fil) (Z I : Nat) (c : S.Cl) (A : Option Addr) (cE : Nat) (xs : List EV) (L : List Acc) (p : FR) (h : SK w0 w D R room o Z c A cE xs (varAcc I Z :: L)) (hr : RowRd w ⟨p.x.A, p.x.n, p.x.c⟩ p.bs) (hn : xs.length ≤ 1000000) (hm : p.x.n ≤ 1000000000) (hk : M.inI64 p.k) :
    Calls Tryz.prog 26 #[.agg #[.int .i64 p.k, .slice p.x.A p.x.n p.x.c], .pointer (some ⟨I, 0, none⟩)] w (One1 w0 D R room o Z c A cE xs (varAcc I Z :: L) p.fr) := by
  have hs := Since.alloc (Below.refl w.heap.size w) (.cells #[.int .i64 p.k, .slice p.x.A p.x.n p.x.c] 78)
  have h1 := h.call hs
  have HDO := Lib.hid (do_any _ Z D c A xs.length cE xs p.fr p.x.A p.x.n p.x.c h1.box h1.own rfl hn (Since.row hs hr) hm hk)
  have H1 := Lib.hid h1
  have i0 := h1.bank.cell 0 rfl 0 rfl
  clear h h1 hs
  go_enter Tryz.func26, Tryz.ntmps26
  go_wp2_with fail
  refine HDO.out.mono ?_
  rintro e w2 hp
  rcases H1.out.done hp with ⟨h2, rfl, h3⟩ | ⟨c', A', cE', xs', h2, h3, rfl, h4⟩
  · have HFIN := Lib.hid (show One1 w0 D R room o Z c A cE xs (varAcc I Z :: L) p.fr (.returned (.bool true)) w2 from .inl ⟨h2, rfl, h3⟩)
    clear h2 h3 hp HDO H1
    go_wp2
    go_ret
    exact HFIN.out
  · have HFIN := Lib.hid (show One1 w0 D R room o Z c A cE xs (varAcc I Z :: L) p.fr (.returned (.bool false)) w2 from .inr ⟨c', A', cE', xs', h2, h3, rfl, h4⟩)
    clear h2 h3 h4 hp HDO H1
    go_wp2
    go_ret
    exact HFIN.out
/-- all frames were done, or one can't be -/
def AllF (w0 : World) (D R : Nat) (room : Int) (o : Option Fil) (Z I : Nat) (L : List Acc) (fs : List F.Fr) (w' : World) (b : Bool) : Prop :=
  (S.sdos S.zero fs = none ∧ b = true ∧ Dk w0 w' D R room o L) ∨
  (∃ c' A' cE' xs', S.sdos S.zero fs = some ⟨c', xs'.map EV.e⟩ ∧ xs'.length ≤ fs.length ∧ b = false ∧ SK w0 w' D R room o Z c' A' cE' xs' (varAcc I Z :: L))
def IdxF (w0 : World) (D R : Nat) (room : Int) (o : Option Fil) (Z I : Nat) (L : List Acc) (fs : List F.Fr) (e : Ending) (w' : World) : Prop := ∃ (n : Int) (b : Bool), e = .returned (.int .i64 n) ∧ (b = decide (0 ≤ n)) ∧ AllF w0 D R room o Z I L fs w' b
set_option maxHeartbeats 4000000 in
set_option maxRecDepth 100000 in
theorem indexF_any (w0 w : World) (D R : Nat) (room : Int) (o : Option Fil) (Z I : Nat) (L : List Acc) (Fa : Option Addr) (cF : Nat) (ps : List FR) (m : Nat) (h : SK w0 w D R room o Z S.zeroCl none 0 [] (varAcc I Z :: frL Fa cF ps L)) (hm : ps.length = m) (hm2 : m ≤ 1000000) (hk : ∀ p ∈ ps, M.inI64 p.k) (hd : ∀ p ∈ ps, p.x.n ≤ 100000000) :
    Calls Tryz.prog 61 #[.slice Fa m cF, .func (.func 26) #[] #[.pointer (some ⟨I, 0, none⟩)]] w (IdxF w0 D R room o Z I (frL Fa cF ps L) (ps.map FR.fr)) := by
  have H0 := Lib.hid h; have HM := Lib.hid hm; have HKK := Lib.hid hk; have HD := Lib.hid hd
  obtain ⟨fs, hfs⟩ : ∃ fs, fs = ps.map FR.fr := ⟨_, rfl⟩
  rw [← hfs]
  have HFS := Lib.hid hfs
  clear h hm hk hd hfs
  go_enter Tryz.func61, Tryz.ntmps61
  go_wp2
  go_loopw [8] (fun i wr => ∃ (k : Nat) (c' : S.Cl) (A' : Option Addr) (cE' : Nat) (xs' : List EV), k ≤ m ∧ i = .int .i64 (k : Int) ∧ S.sdos S.zero (fs.take k) = some ⟨c', xs'.map EV.e⟩ ∧ xs'.length ≤ k ∧ SK w0 wr D R room o Z c' A' cE' xs' (varAcc I Z :: frL Fa cF ps L)) (fun i _ => m - (intOf i).toNat)
  case atStart => exact ⟨0, S.zeroCl, none, 0, [], by omega, rfl, by rw [List.take_zero]; rfl, Nat.le_refl _, H0.out⟩
  case round =>
    clear H0
    obtain ⟨k, c', A', cE', xs', hk, rfl, hsd, hxl, hS⟩ := hrel
    have k0 : (0 : Int) ≤ (k : Int) := by omega
    have HSK := Lib.hid hsd
    have H3 := Lib.hid hS
    rcases Nat.lt_or_ge k m with h1 | h1
    · have i1 : (k : Int) < (m : Int) := by omega
      have hkp : k < ps.length := by rw [HM.out]; exact h1
      obtain ⟨g, hFa, x0, x1, hrd⟩ := fr_at hS.dk.rest (.tail _ (.tail _ (List.mem_append_right _ (.tail _ (.head _))))) (fun p hp => .tail _ (.tail _ (List.mem_append_right _ (.tail _ (.tail _ (List.mem_append_left _ (List.mem_map.2 ⟨p, by simpa using hp, rfl⟩))))))) k hkp
      obtain ⟨p, hpe⟩ : ∃ p, p = ps[k] := ⟨_, rfl⟩
      rw [← hpe] at x0 x1 hrd
      have hpm : p ∈ ps := by rw [hpe]; exact List.getElem_mem hkp
      have hfk : fs.take (k + 1) = fs.take k ++ [p.fr] := by
        rw [HFS.out, ← List.map_take, ← List.map_take, List.take_succ_eq_append_getElem hkp, List.map_append, hpe]; rfl
      have HFK := Lib.hid hfk
      subst hFa
      have HDO := Lib.hid (open1_any w0 wr D R room o Z I c' A' cE' xs' _ p hS hrd (by omega) (by have := HD.out p hpm; omega) (HKK.out p hpm))
      have hnext : S.sdos S.zero (fs.take (k + 1)) = S.sdo ⟨c', xs'.map EV.e⟩ p.fr := by
        rw [hfk, S.sdos_append, hsd]
        simp [S.sdos]
      have HNX := Lib.hid hnext
      clear hsd hS hrd hpe hfk hnext
      go_wp2_with fail
      refine HDO.out.mono ?_
      rintro e w4 (⟨h2, rfl, h4⟩ | ⟨c5, A5, cE5, xs5, h2, h5, rfl, h4⟩)
      · have hno : S.sdos S.zero fs = none := by
          cases hx : S.sdos S.zero fs with
          | none => rfl
          | some t =>
            exfalso
            obtain ⟨t2, ht2⟩ := S.sdos_take hx (k + 1)
            rw [HNX.out, h2] at ht2
            cases ht2
        have HFIN := Lib.hid (show AllF w0 D R room o Z I (frL (some ⟨g, 0, none⟩) cF ps L) fs w4 true from .inl ⟨hno, rfl, h4.dk.sub (.cons _ (.cons _ ((List.sublist_cons_self _ _).trans (List.sublist_append_right _ _))))⟩)
        clear h2 h4 hno HDO x0 x1
        go_wp2
        go_ret
        exact ⟨(k : Int), true, rfl, by simp, HFIN.out⟩
      · have HS5 := Lib.hid h4
        have HN5 := Lib.hid (HNX.out.trans h2)
        clear h2 h4 HDO x0 x1
        go_wp2_with fail
        go_roundw
        case rel => exact ⟨k + 1, c5, A5, cE5, xs5, by omega, by go_num, HN5.out, by omega, HS5.out⟩
        case measure => simp [intOf]; omega
    · have i1 : ¬ (k : Int) < (m : Int) := by omega
      obtain rfl : k = m := by omega
      clear hsd hS
      go_wp2
      go_ret
      refine ⟨-1, false, rfl, by simp, .inr ⟨c', A', cE', xs', ?_, ?_, rfl, H3.out⟩⟩
      · have h := HSK.out
        rw [List.take_of_length_le (by rw [HFS.out, List.length_map, HM.out]; omega)] at h
        exact h
      · rw [HFS.out, List.length_map, HM.out]; exact hxl
set_option maxHeartbeats 2000000 in
set_option maxRecDepth 100000 in
theorem containsF_any (w0 w : World) (D R : Nat) (room : Int) (o : Option Fil) (Z I : Nat) (L : List Acc) (Fa : Option Addr) (cF : Nat) (ps : List FR) (m : Nat) (h : SK w0 w D R room o Z S.zeroCl none 0 [] (varAcc I Z :: frL Fa cF ps L)) (hm : ps.length = m) (hm2 : m ≤ 1000000) (hk : ∀ p ∈ ps, M.inI64 p.k) (hd : ∀ p ∈ ps, p.x.n ≤ 100000000) :
    Calls Tryz.prog 25 #[.slice Fa m cF, .func (.func 26) #[] #[.pointer (some ⟨I, 0, none⟩)]] w fun e w' => ∃ b : Bool, e = .returned (.bool b) ∧ AllF w0 D R room o Z I (frL Fa cF ps L) (ps.map FR.fr) w' b := by
  have HC := Lib.hid (indexF_any w0 w D R room o Z I L Fa cF ps m h hm hm2 hk hd)
  clear h hm hk hd
  go_enter Tryz.func25, Tryz.ntmps25
  go_wp2_with fail
  refine HC.out.mono ?_
  rintro e w1 ⟨n, b, rfl, hb, ha⟩
  have HB := Lib.hid hb; have HA := Lib.hid ha
  clear hb ha HC
  go_wp2
  go_ret
  exact ⟨decide (0 ≤ n), rfl, by rw [← HB.out]; exact HA.out⟩
end Go.Proofs.YtfpjmeknjhhakaaGreat.K

/- The contracts of store's Sync and Cell. -/
namespace Go.Proofs.YtfpjmeknjhhakaaGreat.K
open Go Go.RowKit Go.Maps

def osync : Option Fil → Option Fil
  | none => none
  | some f => some { f with safe := f.n }
set_option maxHeartbeats 2000000 in
set_option maxRecDepth 100000 in
theorem sSync_any (w0 w : World) (D R : Nat) (room : Int) (o : Option Fil) (Z : Nat) (c : S.Cl) (A : Option Addr) (cE : Nat) (xs : List EV) (L : List Acc) (h : SK w0 w D R room o Z c A cE xs L) :
    Calls Tryz.prog 21 #[.pointer (some ⟨Z, 0, none⟩)] w fun e w' => e = .returned (.int .i64 0) ∧ SK w0 w' D R room (osync o) Z c A cE xs L := by
  have c0 := h.box.c0
  have HTH := Lib.hid (there_any Z D w c0)
  cases o with
  | none =>
    have HC := Lib.hid (dSync_none w0 w D R room _ h.dk)
    have HFIN := Lib.hid h
    clear h
    unfold storeS at HC
    go_enter Tryz.func21, Tryz.ntmps21
    go_wp2_with (first
      | (go_at_call 48; refine HTH.out.mono ?_; rintro e w' ⟨rfl, rfl⟩)
      | (go_at_call 58; refine HC.out.mono ?_; rintro e w' ⟨rfl, rfl⟩)
      | fail "arm")
    go_ret
    exact ⟨rfl, HFIN.out⟩
  | some f =>
    have HC := Lib.hid (dSync_some w0 w D R room f _ h.dk)
    clear h
    unfold storeS at HC
    go_enter Tryz.func21, Tryz.ntmps21
    go_wp2_with (go_at_call 48; refine HTH.out.mono ?_; rintro e w' ⟨rfl, rfl⟩)
    refine HC.out.mono ?_
    rintro e w1 ⟨rfl, hz⟩
    have HFIN := Lib.hid hz
    clear hz HC HTH
    go_wp2
    go_ret
    exact ⟨rfl, HFIN.out⟩
def clV (c : S.Cl) : Value := .agg #[.int .i64 c.term, .int .i64 c.vote, .int .i64 c.applied, .int .i64 c.active]
set_option maxHeartbeats 2000000 in
set_option maxRecDepth 100000 in
theorem sCell_any (w : World) (Z D : Nat) (c : S.Cl) (A : Option Addr) (n cE : Nat) (h : StBox w Z D c A n cE) :
    Calls Tryz.prog 23 #[.pointer (some ⟨Z, 0, none⟩)] w fun e w' => e = .returned (.agg #[.int .i64 c.term, .int .i64 c.vote, .int .i64 c.applied, .int .i64 c.active]) ∧ Since w w' := by
  have hs := Since.alloc (Below.refl w.heap.size w) (.cells #[.int .i64 0, .int .i64 0, .int .i64 0, .int .i64 0] 38)
  have h2 := h.since hs
  have c0 := h2.c0
  obtain ⟨c1, c2, c3, c4⟩ := h2.c1
  have hlt := h.lt
  have hne := Nat.ne_of_lt hlt
  have hne2 := Ne.symm hne
  have HTH := Lib.hid (there_any Z D _ c0)
  clear h h2
  go_enter Tryz.func23, Tryz.ntmps23
  go_wp2_with (go_at_call 48; refine HTH.out.mono ?_; rintro e w' ⟨rfl, rfl⟩)
  refine bodyPost_ret (v := .agg #[.int .i64 c.term, .int .i64 c.vote, .int .i64 c.applied, .int .i64 c.active]) ?_ rfl ⟨rfl, Since.alloc (Below.refl _ _) _⟩
  exact results_cell_row rfl _ _ w.heap.size 38 _ (0, 0) _ rfl (heap_alloc_new w _) Tryz.underlying38 rfl (by kernel_rfl)
set_option maxHeartbeats 2000000 in
set_option maxRecDepth 100000 in
theorem sSync_nil (w : World) :
    Calls Tryz.prog 21 #[.pointer none] w fun e w' => e = .returned (.int .i64 1) ∧ w = w' := by
  have HTH := Lib.hid (there_nil w)
  go_enter Tryz.func21, Tryz.ntmps21
  go_wp2_with (go_at_call 48; refine HTH.out.mono ?_; rintro e w' ⟨rfl, rfl⟩)
  go_ret
  exact ⟨rfl, rfl⟩
set_option maxHeartbeats 2000000 in
set_option maxRecDepth 100000 in
theorem sCell_nil (w : World) :
    Calls Tryz.prog 23 #[.pointer none] w fun e w' => e = .returned (.agg #[.int .i64 0, .int .i64 0, .int .i64 0, .int .i64 0]) ∧ Since w w' := by
  have HTH := Lib.hid (show Calls Tryz.prog 48 #[.pointer none] (w.alloc (.cells #[.int .i64 0, .int .i64 0, .int .i64 0, .int .i64 0] 38)) _ from there_nil _)
  go_enter Tryz.func23, Tryz.ntmps23
  go_wp2_with (go_at_call 48; refine HTH.out.mono ?_; rintro e w' ⟨rfl, rfl⟩)
  refine bodyPost_ret (v := .agg #[.int .i64 0, .int .i64 0, .int .i64 0, .int .i64 0]) ?_ rfl ⟨rfl, Since.alloc (Below.refl _ _) _⟩
  exact results_cell_row rfl _ _ w.heap.size 38 _ (0, 0) _ rfl (heap_alloc_new w _) Tryz.underlying38 rfl (by kernel_rfl)
set_option maxHeartbeats 2000000 in
set_option maxRecDepth 100000 in
theorem sEnts_nil (w : World) :
    Calls Tryz.prog 22 #[.pointer none] w fun e w' => e = .returned (.slice none 0 0) ∧ w = w' := by
  have HTH := Lib.hid (there_nil w)
  go_enter Tryz.func22, Tryz.ntmps22
  go_wp2_with (go_at_call 48; refine HTH.out.mono ?_; rintro e w' ⟨rfl, rfl⟩)
  go_ret
  exact ⟨rfl, rfl⟩
set_option maxHeartbeats 2000000 in
set_option maxRecDepth 100000 in
theorem sApp_nil (w : World) (i : Int) (v : Value) :
    Calls Tryz.prog 19 #[.pointer none, .int .i64 i, v] w fun e w' => e = .returned (.int .i64 1) ∧ w = w' := by
  have HTH := Lib.hid (there_nil w)
  go_enter Tryz.func19, Tryz.ntmps19
  go_wp2_with (go_at_call 48; refine HTH.out.mono ?_; rintro e w' ⟨rfl, rfl⟩)
  go_ret
  exact ⟨rfl, rfl⟩
set_option maxHeartbeats 2000000 in
set_option maxRecDepth 100000 in
theorem sSync_empty (Z : Nat) (w : World) (h : w.cell? ⟨Z, 0, none⟩ = some (.pointer none)) :
    Calls Tryz.prog 21 #[.pointer (some ⟨Z, 0, none⟩)] w fun e w' => e = .returned (.int .i64 1) ∧ w = w' := by
  have HTH := Lib.hid (there_empty Z w h)
  clear h
  go_enter Tryz.func21, Tryz.ntmps21
  go_wp2_with (go_at_call 48; refine HTH.out.mono ?_; rintro e w' ⟨rfl, rfl⟩)
  go_ret
  exact ⟨rfl, rfl⟩
set_option maxHeartbeats 2000000 in
set_option maxRecDepth 100000 in
theorem sCell_empty (Z : Nat) (w : World) (h : w.cell? ⟨Z, 0, none⟩ = some (.pointer none)) :
    Calls Tryz.prog 23 #[.pointer (some ⟨Z, 0, none⟩)] w fun e w' => e = .returned (.agg #[.int .i64 0, .int .i64 0, .int .i64 0, .int .i64 0]) ∧ Since w w' := by
  have HTH := Lib.hid (show Calls Tryz.prog 48 #[.pointer (some ⟨Z, 0, none⟩)] (w.alloc (.cells #[.int .i64 0, .int .i64 0, .int .i64 0, .int .i64 0] 38)) _ from there_empty Z _ (cell_old _ h))
  clear h
  go_enter Tryz.func23, Tryz.ntmps23
  go_wp2_with (go_at_call 48; refine HTH.out.mono ?_; rintro e w' ⟨rfl, rfl⟩)
  refine bodyPost_ret (v := .agg #[.int .i64 0, .int .i64 0, .int .i64 0, .int .i64 0]) ?_ rfl ⟨rfl, Since.alloc (Below.refl _ _) _⟩
  exact results_cell_row rfl _ _ w.heap.size 38 _ (0, 0) _ rfl (heap_alloc_new w _) Tryz.underlying38 rfl (by kernel_rfl)
set_option maxHeartbeats 2000000 in
set_option maxRecDepth 100000 in
theorem sEnts_empty (Z : Nat) (w : World) (h : w.cell? ⟨Z, 0, none⟩ = some (.pointer none)) :
    Calls Tryz.prog 22 #[.pointer (some ⟨Z, 0, none⟩)] w fun e w' => e = .returned (.slice none 0 0) ∧ w = w' := by
  have HTH := Lib.hid (there_empty Z w h)
  clear h
  go_enter Tryz.func22, Tryz.ntmps22
  go_wp2_with (go_at_call 48; refine HTH.out.mono ?_; rintro e w' ⟨rfl, rfl⟩)
  go_ret
  exact ⟨rfl, rfl⟩
set_option maxHeartbeats 2000000 in
set_option maxRecDepth 100000 in
theorem sApp_empty (Z : Nat) (w : World) (i : Int) (v : Value) (h : w.cell? ⟨Z, 0, none⟩ = some (.pointer none)) :
    Calls Tryz.prog 19 #[.pointer (some ⟨Z, 0, none⟩), .int .i64 i, v] w fun e w' => e = .returned (.int .i64 1) ∧ w = w' := by
  have HTH := Lib.hid (there_empty Z w h)
  clear h
  go_enter Tryz.func19, Tryz.ntmps19
  go_wp2_with (go_at_call 48; refine HTH.out.mono ?_; rintro e w' ⟨rfl, rfl⟩)
  go_ret
  exact ⟨rfl, rfl⟩
end Go.Proofs.YtfpjmeknjhhakaaGreat.K

/- The contract of store's Open. -/
namespace Go.Proofs.YtfpjmeknjhhakaaGreat.K
open Go Go.RowKit Go.Maps

/-- what becomes of the file -/
def OpenF (o o' : Option Fil) (u : Nat) : Prop := (o = none ∧ o' = none ∧ u = 0) ∨ ∃ f g A c, o = some f ∧ o' = some ⟨g, A, u, c, f.bs.take u, u⟩
def OpenPost (w0 : World) (D R : Nat) (room : Int) (o : Option Fil) (L : List Acc) (e : Ending) (w' : World) : Prop :=
  (S.sread (obytes o) = none ∧ e = .returned (.tuple #[.pointer none, .int .i64 10]) ∧ Dk w0 w' D R room o L) ∨
  (∃ st u o' Z c' A' cE' xs', S.sread (obytes o) = some (st, u) ∧ e = .returned (.tuple #[.pointer (some ⟨Z, 0, none⟩), .int .i64 0]) ∧ st = ⟨c', xs'.map EV.e⟩ ∧ OpenF o o' u ∧ xs'.length ≤ 1000000 ∧ SK w0 w' D R room o' Z c' A' cE' xs' L)
theorem Dk.nilE {w0 w : World} {D R : Nat} {room : Int} {o : Option Fil} {L : List Acc} (h : Dk w0 w D R room o L) : Dk w0 w D R room o (evsAcc none 0 0 [] :: L) :=
  (h.side.none 62 6).perm ((List.Perm.swap _ _ _).trans (.cons _ (List.perm_middle.symm)))
/-- a new store -/
theorem SK.new {w0 w : World} {D R : Nat} {room : Int} {o : Option Fil} {L : List Acc} (h : Dk w0 w D R room o L) :
    SK w0 ((w.alloc (.cells #[.pointer (some ⟨D, 0, none⟩), .int .i64 0, .int .i64 0, .int .i64 0, .int .i64 0, .slice none 0 0] 76)).alloc (.cells #[.pointer (some ⟨w.heap.size, 0, none⟩)] 27)) D R room o w.heap.size S.zeroCl none 0 [] (varAcc (w.heap.size + 1) w.heap.size :: L) := by
  have h1 := h.box #[.pointer (some ⟨D, 0, none⟩), .int .i64 0, .int .i64 0, .int .i64 0, .int .i64 0, .slice none 0 0] 76 (by simp)
  have h2 := h1.box #[.pointer (some ⟨w.heap.size, 0, none⟩)] 27 (by simp)
  rw [World.size_alloc] at h2
  have h3 := h2.nilE
  exact h3.perm (L' := stAcc w.heap.size D S.zeroCl none 0 0 :: evsAcc none 0 0 [] :: varAcc (w.heap.size + 1) w.heap.size :: L) (((List.Perm.swap _ _ _).cons _).trans (List.Perm.swap _ _ _))
theorem scan_fr {b : List (BitVec 8)} {ps : List FR} {u : Nat} {s : Bool} (h : F.scan b = (ps.map FR.fr, u, s)) : ∀ p ∈ ps, M.inI64 p.k ∧ p.bs.length ≤ 262144 := fun p hp => by
  have h1 := S.scan_frames b p.fr (by rw [h]; exact List.mem_map.2 ⟨p, hp, rfl⟩)
  have h2 : 0 ≤ p.k ∧ p.k ≤ 255 ∧ p.bs.length ≤ 262144 := h1
  exact ⟨⟨by omega, by omega⟩, h2.2.2⟩
theorem row_bounds {w : World} {base n c : Nat} {A : Option Addr} {bs : List (BitVec 8)} (h : w.ownsRow base 5 1 (.slice A n c) n (bv bs)) : n ≤ c ∧ c ≤ 9223372036854775807 ∧ ∀ a, A = some a → a.block < w.heap.size := by
  rcases h.2 with ⟨h0, h2⟩ | ⟨g, cap, cur, hv, _, hg, h3, h4, _⟩
  · simp only [Value.slice.injEq] at h0
    obtain ⟨rfl, rfl, rfl⟩ := h0
    exact ⟨Nat.le_refl _, by omega, fun a ha => by cases ha⟩
  · simp only [Value.slice.injEq, true_and] at hv
    obtain ⟨rfl, rfl⟩ := hv
    refine ⟨h3, by unfold maxLen at h4; omega, fun a ha => ?_⟩
    cases ha
    exact (Array.getElem?_eq_some_iff.1 hg).1
theorem frL_sub (Fa : Option Addr) (cF : Nat) (ps : List FR) (p : Acc) (L : List Acc) : L.Sublist (frL Fa cF ps (p :: L)) := .cons _ ((List.sublist_cons_self p L).trans (List.sublist_append_right _ _))
set_option maxHeartbeats 1000000 in
set_option maxRecDepth 100000 in
theorem dRead_nil (w : World) (s : ByteArray) : Calls Tryz.prog 13 #[.pointer none, .string s] w fun e w' => e = .returned (.tuple #[.slice none 0 0, .int .i64 1]) ∧ Since w w' := by
  have HC := Lib.hid (with_nil (w.alloc (.cells #[.slice none 0 0] 37)) s (.func (.func 43) #[] #[.pointer (some ⟨w.heap.size, 0, none⟩)]))
  have y0 : (w.alloc (.cells #[.slice none 0 0] 37)).cell? ⟨w.heap.size, 0, none⟩ = some (.slice none 0 0) := by rw [World.cell?_alloc_new]; rfl
  go_enter Tryz.func13, Tryz.ntmps13
  go_wp2_with fail
  refine HC.out.mono ?_
  rintro e w1 ⟨rfl, rfl⟩
  go_wp2
  refine bodyPost_ret (v := .tuple #[.slice none 0 0, .int .i64 1]) ?_ rfl ⟨rfl, Since.alloc (Below.refl _ _) _⟩
  simp [results, Tryz.results13, go_sem, y0]
set_option maxHeartbeats 1000000 in
set_option maxRecDepth 100000 in
theorem open_nil (w : World) : Calls Tryz.prog 8 #[.pointer none] w fun e w' => e = .returned (.tuple #[.pointer none, .int .i64 1]) ∧ Since w w' := by
  have HC := Lib.hid (dRead_nil w)
  go_enter Tryz.func8, Tryz.ntmps8
  go_wp2_with fail
  refine (HC.out _).mono ?_
  rintro e w1 ⟨rfl, hs⟩
  have HFIN := Lib.hid hs
  clear hs HC
  go_wp2
  go_ret2
  exact ⟨rfl, HFIN.out⟩
set_option maxHeartbeats 4000000 in
set_option maxRecDepth 100000 in
theorem open_none (w0 w : World) (D R : Nat) (room : Int) (L : List Acc) (h : Dk w0 w D R room none L) :
    Calls Tryz.prog 8 #[.pointer (some ⟨D, 0, none⟩)] w (OpenPost w0 D R room none L) := by
  have HRD := Lib.hid (dRead_none w0 w D R room L h)
  clear h
  unfold storeS at HRD
  go_enter Tryz.func8, Tryz.ntmps8
  go_wp2_with fail
  refine HRD.out.mono ?_
  rintro e w1 ⟨rfl, hd1⟩
  have H1 := Lib.hid hd1
  clear hd1 HRD
  go_wp2_with fail
  refine (scan_any none 0 0 [] w1 ⟨Rd.of_nil _ _, rfl, fun _ => rfl⟩ (by omega) (by omega) (by simp) (by intro a h; cases h)).mono ?_
  rintro e w2 ⟨ps, Fa, cF, u, s, rfl, hsc, hu, hp9, hB⟩
  obtain ⟨rfl, rfl, rfl⟩ : ps = [] ∧ u = 0 ∧ s = false := by
    rw [F.scan_nil] at hsc
    simp only [Prod.mk.injEq] at hsc
    exact ⟨by have := hsc.1; simpa using this.symm, hsc.2.1.symm, hsc.2.2.symm⟩
  have h2 : Dk w0 w2 D R room none (frL Fa cF [] L) := H1.out.under hB
  have h3 := SK.new h2
  have HCF := Lib.hid (containsF_any w0 _ D R room none w2.heap.size (w2.heap.size + 1) L Fa cF [] 0 h3 rfl (by omega) (by simp) (by simp))
  clear hsc hu hp9 hB H1 h2 h3
  go_wp2_with fail
  refine HCF.out.mono ?_
  rintro e w3 ⟨b, rfl, ha⟩
  rcases ha with ⟨h1, _⟩ | ⟨c', A', cE', xs', h1, h2, rfl, h3⟩
  · exfalso
    cases h1
  have hst : (S.zero : S.St) = ⟨c', xs'.map EV.e⟩ := by
    have h : some S.zero = some ⟨c', xs'.map EV.e⟩ := h1
    exact Option.some.inj h
  have i0 := h3.bank.cell 0 rfl 0 rfl
  have HSY := Lib.hid (sSync_any w0 w3 D R room none w2.heap.size c' A' cE' xs' _ h3)
  have HST := Lib.hid hst
  have HL := Lib.hid (show xs'.length ≤ 1000000 by have h5 : xs'.length ≤ 0 := h2; omega)
  clear h1 h2 h3 hst HCF
  go_wp2_with fail
  refine HSY.out.mono ?_
  rintro e w4 ⟨rfl, h4⟩
  have i0 := h4.bank.cell 0 rfl 0 rfl
  have HFIN := Lib.hid (show OpenPost w0 D R room none L (.returned (.tuple #[.pointer (some ⟨w2.heap.size, 0, none⟩), .int .i64 0])) w4 from .inr ⟨S.zero, 0, none, w2.heap.size, c', A', cE', xs', rfl, rfl, HST.out, .inl ⟨rfl, rfl, rfl⟩, HL.out, h4.sub (.cons _ (.cons _ (List.Sublist.refl _)))⟩)
  clear h4 HSY
  go_wp2
  go_ret2
  exact HFIN.out
set_option maxHeartbeats 4000000 in
set_option maxRecDepth 100000 in
theorem open_some (w0 w : World) (D R : Nat) (room : Int) (f : Fil) (L : List Acc) (h : Dk w0 w D R room (some f) L) (hn : f.n ≤ 8388608) :
    Calls Tryz.prog 8 #[.pointer (some ⟨D, 0, none⟩)] w (OpenPost w0 D R room (some f) L) := by
  have HRD := Lib.hid (dRead_some w0 w D R room f L h (by omega))
  have hfl := h.flen
  have HFL := Lib.hid hfl
  clear h
  unfold storeS at HRD
  go_enter Tryz.func8, Tryz.ntmps8
  go_wp2_with fail
  refine HRD.out.mono ?_
  rintro e w1 ⟨A, n, c, rfl, hd1⟩
  have hrow : RowRd w1 ⟨A, n, c⟩ f.bs := hd1.row 0 rfl
  obtain rfl : n = f.n := by have h1 : f.bs.length = n := hrow.len; omega
  have hbd := row_bounds (hd1.side.bank.at _ (hd1.at 0 rfl))
  have HSC := Lib.hid (scan_any A f.n c f.bs w1 hrow hbd.1 hbd.2.1 (by omega) hbd.2.2)
  have H1 := Lib.hid hd1
  clear hd1 HRD hrow hbd hfl
  go_wp2_with fail
  refine HSC.out.mono ?_
  rintro e w2 ⟨ps, Fa, cF, u, s, rfl, hsc, hu, hp9, hB⟩
  have h2 : Dk w0 w2 D R room (some f) (frL Fa cF ps (rowAcc A f.n c f.bs :: L)) := H1.out.under hB
  have h3 := SK.new h2
  have hpn : ∀ p ∈ ps, p.x.n ≤ 100000000 := fun p hp => by
    have h1 : p.bs.length = p.x.n := (RowRd.of_row (A := p.x.A) (n := p.x.n) (c := p.x.c) (hB.own p.acc (.tail _ (List.mem_map.2 ⟨p, by simpa using hp, rfl⟩)))).len
    have h2 := (scan_fr hsc p hp).2
    omega
  have HSCN := Lib.hid hsc
  have hun : u ≤ f.n := by have := HFL.out; omega
  have H3 := Lib.hid h3
  have HPN := Lib.hid hpn
  obtain ⟨m, hm⟩ : ∃ m, m = ps.length := ⟨_, rfl⟩
  have HM := Lib.hid hm
  have hm9 : m * 9 ≤ u := by rw [hm]; exact hp9
  rw [← hm]
  clear hsc hp9 hB h2 h3 hpn hu hm HSC H1
  cases s with
  | true =>
    have hno : S.sread f.bs = none := by
      unfold S.sread
      rw [if_pos (by rw [HSCN.out])]
    have HFIN := Lib.hid (show OpenPost w0 D R room (some f) L (.returned (.tuple #[.pointer none, .int .i64 10])) _ from .inl ⟨hno, rfl, H3.out.dk.sub (.cons _ (.cons _ (.cons _ (frL_sub _ _ _ _ _))))⟩)
    clear hno H3
    go_wp2
    go_ret2
    exact HFIN.out
  | false =>
    have HCF := Lib.hid (containsF_any w0 _ D R room (some f) w2.heap.size (w2.heap.size + 1) _ Fa cF ps m H3.out HM.out.symm (by omega) (fun p hp => (scan_fr HSCN.out p hp).1) HPN.out)
    clear H3
    go_wp2_with fail
    refine HCF.out.mono ?_
    rintro e w3 ⟨b, rfl, ha⟩
    rcases ha with ⟨h1, rfl, h2⟩ | ⟨c', A', cE', xs', h1, h2, rfl, h3⟩
    · have hno : S.sread f.bs = none := by
        unfold S.sread
        rw [if_neg (by rw [HSCN.out]; simp), show (F.scan f.bs).1 = ps.map FR.fr by rw [HSCN.out], h1]
        rfl
      have HFIN := Lib.hid (show OpenPost w0 D R room (some f) L (.returned (.tuple #[.pointer none, .int .i64 10])) w3 from .inl ⟨hno, rfl, h2.sub (frL_sub _ _ _ _ _)⟩)
      clear hno h1 h2 HCF
      go_wp2
      go_ret2
      exact HFIN.out
    · have hyes : S.sread f.bs = some (⟨c', xs'.map EV.e⟩, u) := by
        unfold S.sread
        rw [if_neg (by rw [HSCN.out]; simp), show (F.scan f.bs).1 = ps.map FR.fr by rw [HSCN.out], h1, show (F.scan f.bs).2.1 = u by rw [HSCN.out]]
        rfl
      have HY := Lib.hid hyes
      have HXL := Lib.hid (show xs'.length ≤ 1000000 by rw [List.length_map, ← HM.out] at h2; omega)
      have H4 := Lib.hid h3
      clear h1 h2 h3 hyes HCF
      rcases Nat.lt_or_ge u f.n with hlt | hge
      · have i1 : (u : Int) < (f.n : Int) := by omega
        have HCUT := Lib.hid (dCut_some w0 w3 D R room f _ u H4.out.dk hun (by omega))
        clear H4
        unfold storeS at HCUT
        go_wp2_with fail
        refine HCUT.out.mono ?_
        rintro e w4 ⟨rfl, A5, c5, h5⟩
        have H5 := Lib.hid (show SK w0 w4 D R room (some ⟨f.g, A5, u, c5, f.bs.take u, u⟩) w2.heap.size c' A' cE' xs' _ from h5)
        have i0 := H5.out.bank.cell 0 rfl 0 rfl
        have HSY := Lib.hid (sSync_any w0 w4 D R room _ w2.heap.size c' A' cE' xs' _ H5.out)
        clear h5 H5 HCUT
        go_wp2_with fail
        refine HSY.out.mono ?_
        rintro e w5 ⟨rfl, h6⟩
        have i0 := h6.bank.cell 0 rfl 0 rfl
        have HFIN := Lib.hid (show OpenPost w0 D R room (some f) L (.returned (.tuple #[.pointer (some ⟨w2.heap.size, 0, none⟩), .int .i64 0])) w5 from .inr ⟨_, u, _, w2.heap.size, c', A', cE', xs', HY.out, rfl, rfl, .inr ⟨f, f.g, A5, c5, rfl, rfl⟩, HXL.out, h6.sub (.cons _ (frL_sub _ _ _ _ _))⟩)
        clear h6 HSY
        go_wp2
        go_ret2
        exact HFIN.out
      · obtain rfl : u = f.n := by omega
        have i1 : ¬ (f.n : Int) < (f.n : Int) := by omega
        have i0 := H4.out.bank.cell 0 rfl 0 rfl
        have HSY := Lib.hid (sSync_any w0 w3 D R room _ w2.heap.size c' A' cE' xs' _ H4.out)
        clear H4
        go_wp2_with fail
        refine HSY.out.mono ?_
        rintro e w5 ⟨rfl, h6⟩
        have i0 := h6.bank.cell 0 rfl 0 rfl
        have HFIN := Lib.hid (show OpenPost w0 D R room (some f) L (.returned (.tuple #[.pointer (some ⟨w2.heap.size, 0, none⟩), .int .i64 0])) w5 from .inr ⟨_, f.n, _, w2.heap.size, c', A', cE', xs', HY.out, rfl, rfl, .inr ⟨f, f.g, f.A, f.c, rfl, by rw [List.take_of_length_le (by rw [HFL.out]; omega)]; rfl⟩, HXL.out, h6.sub (.cons _ (frL_sub _ _ _ _ _))⟩)
        clear h6 HSY
        go_wp2
        go_ret2
        exact HFIN.out
end Go.Proofs.YtfpjmeknjhhakaaGreat.K

/- The contracts of slices.Clone for entries, of store's copied and Entries. -/
namespace Go.Proofs.YtfpjmeknjhhakaaGreat.K
open Go Go.RowKit Go.Maps

/-- entries of a world: their cells and their data -/
def EvsIn (w : World) (A : Option Addr) (n c : Nat) (xs : List EV) : Prop := w.ownsRow 0 62 6 (.slice A n c) n (xs.flatMap EV.cells) ∧ xs.length = n ∧ ∀ x ∈ xs, RowRd w ⟨x.A, x.n, x.c⟩ x.e.data
theorem EvsIn.since {w w' : World} {A : Option Addr} {n c : Nat} {xs : List EV} (h : EvsIn w A n c xs) (hs : Since w w') : EvsIn w' A n c xs :=
  ⟨h.1.kept (grown_none_of_below hs) (by cases h : (Value.slice A n c).ownBlock <;> simp), h.2.1, fun x hx => Since.row hs (h.2.2 x hx)⟩
/-- a new list of entries -/
def evAcc (A : Option Addr) (n c : Nat) (xs : List EV) : Acc := ⟨.slice A n c, n, 62, 6, xs.flatMap EV.cells⟩
def CloneE (w : World) (n : Nat) (xs : List EV) (e : Ending) (w' : World) : Prop := ∃ A' c', e = .returned (.slice A' n c') ∧ Bank w w' [evAcc A' n c' xs]
theorem evs_one (xs : List EV) : ∀ u ∈ xs.flatMap EV.cells, u.oneCell' = true := by
  intro u hu
  obtain ⟨x, _, hu⟩ := List.mem_flatMap.1 hu
  exact entL_oneL _ _ _ _ _ _ _ _ u hu
set_option maxHeartbeats 2000000 in
set_option maxRecDepth 100000 in
theorem cloneE_any (A : Option Addr) (n c : Nat) (xs : List EV) (w : World) (h : EvsIn w A n c xs) (hn : n ≤ 1000000) :
    Calls Tryz.prog 87 #[.slice A n c] w (CloneE w n xs) := by
  have hA : (A = Option.none ∧ n = 0 ∧ c = 0 ∧ xs = []) ∨ ∃ g, A = some ⟨g, 0, Option.none⟩ := by
    rcases h.1.2 with ⟨h0, h3⟩ | ⟨g, cap, cur, hv, _⟩
    · simp only [Value.slice.injEq] at h0
      have h4 := h.2.1
      rw [h3] at h4
      exact .inl ⟨h0.1, h3, h0.2.2, List.eq_nil_of_length_eq_zero h4⟩
    · simp only [Value.slice.injEq, true_and] at hv
      exact .inr ⟨g, hv.1⟩
  have HE := Lib.hid h
  rcases hA with ⟨rfl, rfl, rfl, rfl⟩ | ⟨g, rfl⟩
  · have hnil := fun w => Lib.run_eql_slice_nil (P := Tryz.prog) w 34 62 Option.none 0 0 0 0 Tryz.underlying34
    clear h HE
    go_enter Tryz.func87, Tryz.ntmps87
    go_wp2
    go_ret
    exact ⟨none, 0, rfl, (Bank.nil (Below.refl _ _)).none _ _⟩
  · have hnil := fun w => Lib.run_eql_slice_nil (P := Tryz.prog) w 34 62 (some ⟨g, 0, Option.none⟩) n c 0 0 Tryz.underlying34
    have BKL := Lib.hid ((Bank.nil (Below.refl w.heap.size w)).made ((Below.refl _ _).alloc (Nat.le_refl _) (.cells #[] 62)) (World.ownsRow_lit (e := 62) (size := 6) w #[] 0 (Nat.le_refl _) (by unfold maxLen; omega) rfl))
    have hcell : ∀ j u, (xs.flatMap EV.cells)[j]? = some u → (w.alloc (.cells #[] 62)).cell? ((⟨g, 0, Option.none⟩ : Addr).add j) = some u := fun j u hu => cell_old _ (World.ownsRow.cells h.1 (g := g) rfl j u hu)
    have HC := Lib.hid hcell
    have HL := Lib.hid (show (xs.flatMap EV.cells).length = n * 6 by rw [evs_len, h.2.1])
    clear h HE hcell
    go_enter Tryz.func87, Tryz.ntmps87
    go_wp2_with (at_builtin; go_loud (refine wpList_append_bankG BKL.out rfl _ _ 34 rfl 62 _ 6 64 infoEntry Tryz.underlying34 rfl (by decide) 0 _ _ _ [] rfl rfl _ _ _ _ rfl HL.out HC.out (evs_one xs) (by unfold maxLen; omega) (by omega) ?_; intro A4 n4 c4 w4 hn4 hB4 _ _; dsimp only [List.set] at hB4; rw [List.nil_append] at hB4; have HB4 := Lib.hid hB4; have HN4 := Lib.hid hn4; clear hn4 hB4))
    go_ret
    have hn4 := HN4.out
    rw [Nat.zero_add] at hn4
    subst hn4
    exact ⟨A4, c4, rfl, HB4.out⟩
theorem evs_set (ys : List EV) (x : EV) (zs : List EV) (A' : Option Addr) (n' c' : Nat) : ((ys ++ x :: zs).flatMap EV.cells).set (ys.length * 6 + 5) (.slice A' n' c') = (ys ++ ⟨x.e, A', n', c'⟩ :: zs).flatMap EV.cells := by
  rw [List.flatMap_append, List.flatMap_append, List.set_append_right _ _ (by rw [evs_len]; omega), evs_len, show ys.length * 6 + 5 - ys.length * 6 = 5 by omega, List.flatMap_cons, List.flatMap_cons, List.set_append_left _ _ (by rw [x.cells_length]; omega)]
  rfl
def CopiedE (w : World) (n : Nat) (xs : List EV) (e : Ending) (w' : World) : Prop := ∃ A' c' ys, e = .returned (.slice A' n c') ∧ ys.length = n ∧ ys.map EV.e = xs.map EV.e ∧ Bank w w' (evAcc A' n c' ys :: evRows ys)
set_option maxHeartbeats 4000000 in
set_option maxRecDepth 100000 in
theorem copied_any (A : Option Addr) (n c : Nat) (xs : List EV) (w : World) (h : EvsIn w A n c xs) (hn : n ≤ 1000000) (hd : ∀ x ∈ xs, x.n ≤ 100000000) :
    Calls Tryz.prog 59 #[.slice A n c] w (CopiedE w n xs) := by
  have HE := Lib.hid h; have HD := Lib.hid hd
  have HC := Lib.hid (cloneE_any A n c xs w h hn)
  clear h hd
  go_enter Tryz.func59, Tryz.ntmps59
  go_wp2_with fail
  refine HC.out.mono ?_
  rintro e w1 ⟨A', c', rfl, hB⟩
  have H1 := Lib.hid hB
  clear hB HC
  go_wp2_with fail
  go_loopw [9] (fun i wr => ∃ (k : Nat) (ys : List EV), k ≤ n ∧ i = .int .i64 (k : Int) ∧ ys.length = k ∧ ys.map EV.e = (xs.take k).map EV.e ∧ Bank w wr (evAcc A' n c' (ys ++ xs.drop k) :: evRows ys)) (fun i _ => n - (intOf i).toNat)
  case atStart => exact ⟨0, [], by omega, rfl, rfl, rfl, H1.out⟩
  case round =>
    clear H1
    obtain ⟨k, ys, hk, rfl, hyl, hys, hB⟩ := hrel
    have k0 : (0 : Int) ≤ (k : Int) := by omega
    have HYL := Lib.hid hyl; have HYS := Lib.hid hys
    have H2 := Lib.hid hB
    rcases Nat.lt_or_ge k n with h1 | h1
    · have i1 : (k : Int) < (n : Int) := by omega
      have hkx : k < xs.length := by rw [HE.out.2.1]; exact h1
      obtain ⟨x, hx⟩ : ∃ x, x = xs[k] := ⟨_, rfl⟩
      have hdrop : xs.drop k = x :: xs.drop (k + 1) := by rw [List.drop_eq_getElem_cons hkx, hx]
      have ho := hB.at 0 rfl
      obtain ⟨g, rfl⟩ : ∃ g, A' = some ⟨g, 0, none⟩ := by
        rcases ho.2 with ⟨h0, _⟩ | ⟨g, cap, cur, hv, _⟩
        · replace h0 : Value.slice A' n c' = .slice none 0 0 := h0
          simp only [Value.slice.injEq] at h0
          omega
        · replace hv : Value.slice A' n c' = .slice (some ⟨g, 0, none⟩) n cap := hv
          simp only [Value.slice.injEq] at hv
          exact ⟨g, hv.1⟩
      have hc5 : wr.cell? ⟨g, k * 6 + 5, none⟩ = some (.slice x.A x.n x.c) := by
        rw [World.ownsRow.cellAt ho (k * 6 + 5) (by show _ < n * 6; omega)]
        show ((ys ++ xs.drop k).flatMap EV.cells)[k * 6 + 5]? = _
        rw [hdrop, flat6 (ys ++ x :: xs.drop (k + 1)) k 5 (by rw [List.length_append, List.length_cons]; omega) (by omega), List.getElem_append_right (by omega)]
        simp [hyl, EV.cells, entL]
      have hxm : x ∈ xs := by rw [hx]; exact List.getElem_mem hkx
      have HCL := Lib.hid (clone8_any x.A x.n x.c x.e.data wr (Since.row hB.since (HE.out.2.2 x hxm)) (by have := HD.out x hxm; omega))
      have HX := Lib.hid hx; have HDR := Lib.hid hdrop
      clear hB hyl hys ho hx hdrop
      go_wp2_with fail
      refine HCL.out.mono ?_
      rintro e w3 ⟨B, m, cB, rfl, hm, hob, hb⟩
      have h3 := H2.out.madeB hb hob
      have ho3 := h3.at 1 rfl
      obtain ⟨ho4, hg4⟩ := World.ownsRow.stored ho3 (k * 6 + 5) (.slice B m cB)
      have h4 := h3.put 1 rfl (p' := evAcc (some ⟨g, 0, none⟩) n c' ((ys ++ [EV.mk x.e B m cB]) ++ xs.drop (k + 1))) (by
        show World.ownsRow _ _ _ _ (.slice (some ⟨g, 0, none⟩) n c') n (((ys ++ [EV.mk x.e B m cB]) ++ xs.drop (k + 1)).flatMap EV.cells)
        have e1 : ((ys ++ [EV.mk x.e B m cB]) ++ xs.drop (k + 1)).flatMap EV.cells = ((ys ++ xs.drop k).flatMap EV.cells).set (k * 6 + 5) (.slice B m cB) := by
          rw [HDR.out, ← HYL.out, evs_set, List.append_assoc]
          rfl
        rw [e1]
        exact ho4) hg4 (.inl rfl)
      have hc5' : w3.cell? ⟨g, k * 6 + 5, none⟩ = some (.slice x.A x.n x.c) := (hb.cell (block_lt_of_cell hc5)).trans hc5
      have hz5 : w3.frozen? ⟨g, k * 6 + 5, none⟩ = false := World.ownsRow.frozenAt ho3 _
      have H4 := Lib.hid (show Bank w (w3.setCell ⟨g, k * 6 + 5, none⟩ (.slice B m cB)) (evAcc (some ⟨g, 0, none⟩) n c' ((ys ++ [EV.mk x.e B m cB]) ++ xs.drop (k + 1)) :: evRows (ys ++ [⟨x.e, B, m, cB⟩])) from by
        rw [evRows_snoc]
        exact ⟨h4.since, fun p hp => h4.own p (by simp only [List.set_cons_succ, List.set_cons_zero, List.mem_cons] at hp ⊢; rcases hp with h | h | h; exact .inr (.inl h); exact .inl h; exact .inr (.inr h)), by
          have h5 := h4.sep
          simp only [List.set_cons_succ, List.set_cons_zero] at h5
          exact (List.Perm.pairwise_iff (fun {_ _} h => Apartness.symm h) (List.Perm.swap _ _ _)).1 h5⟩)
      clear hm hob hb h3 ho3 ho4 hg4 h4 HCL hc5
      go_wp2_with fail
      go_roundw
      case rel =>
        refine ⟨k + 1, ys ++ [⟨x.e, B, m, cB⟩], by omega, by go_num, by rw [List.length_append, HYL.out]; rfl, ?_, H4.out⟩
        rw [List.map_append, HYS.out, List.take_succ_eq_append_getElem (by rw [HE.out.2.1]; exact h1), List.map_append, HX.out]
        rfl
      case measure => simp [intOf]; omega
    · have i1 : ¬ (k : Int) < (n : Int) := by omega
      obtain rfl : k = n := by omega
      clear hB hyl hys
      go_wp2
      go_ret
      refine ⟨A', c', ys, rfl, HYL.out, ?_, ?_⟩
      · rw [HYS.out, List.take_of_length_le (by rw [HE.out.2.1]; omega)]
      · have h := H2.out
        rw [List.drop_of_length_le (by rw [HE.out.2.1]; omega), List.append_nil] at h
        exact h
theorem SK.evs {w0 w : World} {D R : Nat} {room : Int} {o : Option Fil} {Z : Nat} {c : S.Cl} {A : Option Addr} {cE : Nat} {xs : List EV} {L : List Acc} (h : SK w0 w D R room o Z c A cE xs L) : EvsIn w A xs.length cE xs :=
  ⟨h.own, rfl, fun x hx => RowRd.of_row (h.dk.rest.own _ (.tail _ (.tail _ (List.mem_append_left _ (List.mem_map.2 ⟨x, by simpa using hx, rfl⟩)))))⟩
theorem SK.evn {w0 w : World} {D R : Nat} {room : Int} {o : Option Fil} {Z : Nat} {c : S.Cl} {A : Option Addr} {cE : Nat} {xs : List EV} {L : List Acc} (h : SK w0 w D R room o Z c A cE xs L) {m : Nat} (hm : ∀ e ∈ xs.map EV.e, e.data.length ≤ m) : ∀ x ∈ xs, x.n ≤ m := fun x hx => by
  have h1 : x.e.data.length = x.n := (h.evs.2.2 x hx).len
  have h2 := hm x.e (List.mem_map.2 ⟨x, hx, rfl⟩)
  omega
set_option maxHeartbeats 2000000 in
set_option maxRecDepth 100000 in
theorem sEnts_any (w : World) (Z D : Nat) (c : S.Cl) (A : Option Addr) (n cE : Nat) (xs : List EV) (h : StBox w Z D c A n cE) (hE : EvsIn w A n cE xs) (hn : n ≤ 1000000) (hd : ∀ x ∈ xs, x.n ≤ 100000000) :
    Calls Tryz.prog 22 #[.pointer (some ⟨Z, 0, none⟩)] w (CopiedE w n xs) := by
  have c5 := h.c5
  have HTH := Lib.hid (there_any Z D w h.c0)
  have HC := Lib.hid (copied_any A n cE xs w hE hn hd)
  clear h hE hd
  go_enter Tryz.func22, Tryz.ntmps22
  go_wp2_with (go_at_call 48; refine HTH.out.mono ?_; rintro e w' ⟨rfl, rfl⟩)
  refine HC.out.mono ?_
  rintro e w1 ⟨A', c', ys, rfl, h1, h2, h3⟩
  have HFIN := Lib.hid (show CopiedE w n xs (.returned (.slice A' n c')) w1 from ⟨A', c', ys, rfl, h1, h2, h3⟩)
  clear h1 h2 h3 HC HTH
  go_wp2
  go_ret
  exact HFIN.out
end Go.Proofs.YtfpjmeknjhhakaaGreat.K

/- The contracts of the law's ack, cell, and of the reference's within and May. -/
namespace Go.Proofs.YtfpjmeknjhhakaaGreat.K
open Go Go.RowKit Go.Maps

def ackE (k : Int) : M.Ent := ⟨1, 4#8, 1, k, true, []⟩
set_option maxHeartbeats 1000000 in
set_option maxRecDepth 100000 in
theorem ack_any (k : Int) (w : World) : Calls Tryz.prog 20 #[.int .i64 k] w fun e w' => e = .returned (.agg #[.int .i64 1, .int .u8 4, .int .i64 1, .int .i64 k, .bool true, .slice none 0 0]) ∧ Since w w' := by
  go_enter Tryz.func20, Tryz.ntmps20
  go_wp2
  refine bodyPost_ret (v := .agg #[.int .i64 1, .int .u8 4, .int .i64 1, .int .i64 k, .bool true, .slice none 0 0]) ?_ rfl ⟨rfl, Since.alloc (Below.refl _ _) _⟩
  exact results_cell_row rfl _ _ w.heap.size 62 _ (0, 0) _ rfl (heap_alloc_new w _) Tryz.underlying62 rfl (by kernel_rfl)
set_option maxHeartbeats 1000000 in
set_option maxRecDepth 100000 in
theorem lcell_any (a b c d : Int) (w : World) : Calls Tryz.prog 30 #[.agg #[.int .i64 a, .int .i64 b, .int .i64 c, .int .i64 d]] w fun e w' => e = .returned (.agg #[.int .i64 a, .int .i64 b, .int .i64 c, .int .i64 d]) ∧ Since w w' := by
  go_enter Tryz.func30, Tryz.ntmps30
  go_wp2
  refine bodyPost_ret (v := .agg #[.int .i64 a, .int .i64 b, .int .i64 c, .int .i64 d]) ?_ rfl ⟨rfl, Since.alloc (Since.alloc (Below.refl _ _) _) _⟩
  exact results_cell_row rfl _ _ (w.heap.size + 1) 33 _ (0, 0) _ rfl (by have h := heap_alloc_new (w.alloc (.cells #[.int .i64 a, .int .i64 b, .int .i64 c, .int .i64 d] 38)) (.cells #[.int .i64 a, .int .i64 b, .int .i64 c, .int .i64 d] 33); rw [World.size_alloc] at h; exact h) Tryz.underlying33 rfl (by kernel_rfl)
theorem within_cases (n m : Int) : (S.wi n m = true ∧ 0 ≤ n ∧ n ≤ m) ∨ (S.wi n m = false ∧ ¬ 0 ≤ n) ∨ (S.wi n m = false ∧ 0 ≤ n ∧ ¬ n ≤ m) := by
  unfold S.wi
  by_cases h : 0 ≤ n
  · by_cases h2 : n ≤ m
    · exact .inl ⟨by simp [h, h2], h, h2⟩
    · exact .inr (.inr ⟨by simp [h2], h, h2⟩)
  · exact .inr (.inl ⟨by simp [h], h⟩)
set_option maxHeartbeats 1000000 in
set_option maxRecDepth 100000 in
theorem rwithin_any (n m : Int) (w : World) : Calls Tryz.prog 65 #[.int .i64 n, .int .i64 m] w fun e w' => e = .returned (.bool (S.wi n m)) ∧ w = w' := by
  rcases within_cases n m with ⟨e, h1, h2⟩ | ⟨e, h1⟩ | ⟨e, h1, h2⟩
  all_goals
    have HE := Lib.hid e
    clear e
    go_enter Tryz.func65, Tryz.ntmps65
    go_wp2
    go_ret
    exact ⟨by rw [HE.out]; rfl, rfl⟩
set_option maxHeartbeats 2000000 in
set_option maxRecDepth 100000 in
theorem rMay_any (c : S.Cl) (w : World) : Calls Tryz.prog 29 #[.agg #[.int .i64 c.term, .int .i64 c.vote, .int .i64 c.applied, .int .i64 c.active]] w (MayPost w (S.may c)) := by
  have HS := Lib.hid (Since.alloc (Below.refl w.heap.size w) (.cells #[.int .i64 c.term, .int .i64 c.vote, .int .i64 c.applied, .int .i64 c.active] 33))
  obtain ⟨a0, a1, a2, a3⟩ := c
  unfold S.may
  have HW := Lib.hid rwithin_any
  obtain ⟨b0, hb0⟩ : ∃ b, b = S.wi a0 1099511627776 := ⟨_, rfl⟩
  obtain ⟨b1, hb1⟩ : ∃ b, b = S.wi a1 7 := ⟨_, rfl⟩
  obtain ⟨b2, hb2⟩ : ∃ b, b = S.wi a2 1073741824 := ⟨_, rfl⟩
  obtain ⟨b3, hb3⟩ : ∃ b, b = S.wi a3 1073741824 := ⟨_, rfl⟩
  rw [← hb0, ← hb1, ← hb2, ← hb3]
  have H0 := Lib.hid hb0; have H1 := Lib.hid hb1; have H2 := Lib.hid hb2; have H3 := Lib.hid hb3
  clear hb0 hb1 hb2 hb3
  go_enter Tryz.func29, Tryz.ntmps29
  go_wp2_with fail
  refine (HW.out a0 1099511627776 _).mono ?_
  rintro e w1 ⟨rfl, rfl⟩
  rw [← H0.out]
  cases b0 with
  | false => go_wp2; go_ret; exact ⟨rfl, HS.out⟩
  | true =>
  go_wp2_with fail
  refine (HW.out a1 7 _).mono ?_
  rintro e w1 ⟨rfl, rfl⟩
  rw [← H1.out]
  cases b1 with
  | false => go_wp2; go_ret; exact ⟨rfl, HS.out⟩
  | true =>
  go_wp2_with fail
  refine (HW.out a2 1073741824 _).mono ?_
  rintro e w1 ⟨rfl, rfl⟩
  rw [← H2.out]
  cases b2 with
  | false => go_wp2; go_ret; exact ⟨rfl, HS.out⟩
  | true =>
  go_wp2_with fail
  refine (HW.out a3 1073741824 _).mono ?_
  rintro e w1 ⟨rfl, rfl⟩
  rw [← H3.out]
  go_wp2
  go_ret
  exact ⟨rfl, HS.out⟩
end Go.Proofs.YtfpjmeknjhhakaaGreat.K

/- (made by genrefdo.py) The contract of the reference store's Do. -/
namespace Go.Proofs.YtfpjmeknjhhakaaGreat.K
open Go Go.RowKit Go.Maps

theorem refN_grownS {w w' : World} {R : Nat} {s : M.Rdr} {A : Option Addr} {n c : Nat} {D : List (BitVec 8)} (h : RefN w R s A n c D) {row : Option Nat} (hg : w.grownBy w' row) (hR : row ≠ some R) (hA : ∀ a, A = some a → row ≠ some a.block) : RefN w' R s A n c D := by
  obtain ⟨at', bad, h⟩ := h
  exact ⟨at', bad, h.grown hg hR hA⟩
theorem num_heldR {w0 w : World} {s : M.Rdr} {R : Nat} {Bd : Option Addr} {n c : Nat} {D : List (BitVec 8)} {L : List Acc} (h : Held w0 w (fun w s => RefN w R s Bd n c D) s R Bd L) :
    Calls Tryz.prog 39 #[.pointer (some ⟨R, 0, none⟩)] w fun e w' => e = .returned (.int .i64 (M.rdNumber s).1) ∧ Held w0 w' (fun w s => RefN w R s Bd n c D) (M.rdNumber s).2 R Bd L := by
  obtain ⟨at1, bad1, hq1⟩ := h.q
  exact (rNumber_any R s Bd n c at1 bad1 D w hq1).mono fun _ _ ⟨he, hq, hg⟩ => ⟨he, h.step hq hg⟩
theorem done_heldR {w0 w : World} {s : M.Rdr} {R : Nat} {Bd : Option Addr} {n c : Nat} {D : List (BitVec 8)} {L : List Acc} (h : Held w0 w (fun w s => RefN w R s Bd n c D) s R Bd L) :
    Calls Tryz.prog 40 #[.pointer (some ⟨R, 0, none⟩)] w fun e w' => e = .returned (.bool (decide (s = some []))) ∧ Held w0 w' (fun w s => RefN w R s Bd n c D) s R Bd L := by
  obtain ⟨at1, bad1, hq1⟩ := h.q
  refine (rDone_any R s Bd n c at1 bad1 D w hq1).mono ?_
  rintro e w' ⟨he, q, rfl⟩
  exact ⟨he, h.call (Since.drewN (Below.refl _ _) q)⟩
theorem entry_heldS {w0 w : World} {s s' : M.Rdr} {x : M.Ent} {R : Nat} {Bd : Option Addr} {n c : Nat} {D : List (BitVec 8)} {L : List Acc} (h : Held w0 w (fun w s => RefN w R s Bd n c D) s R Bd L) (hx : M.rdEntry s = (x, s')) :
    Calls Tryz.prog 41 #[.pointer (some ⟨R, 0, none⟩)] w fun e w' => ∃ B m c1, e = .returned (.agg #[.int .i64 x.term, B8 x.kind, .int .i64 x.version, .int .i64 x.server, .bool x.good, .slice B m c1]) ∧ Held w0 w' (fun w s => RefN w R s Bd n c D) s' R Bd (rowAcc B m c1 x.data :: L) := by
  obtain ⟨at1, bad1, hq1⟩ := h.q
  refine (rEntry_any R s Bd n c at1 bad1 D w hq1 h.lt.2).mono ?_
  rintro e w' ⟨B, m, c1, rfl, ho, hq, hg⟩
  rw [hx] at ho hq
  rw [hx]
  exact ⟨B, m, c1, rfl, h.row hq hg ho⟩
/-- elements put behind a row of a bank's, of a source that may be nil -/
theorem step_append_src {P : Program} {w0 w : World} {L : List Acc} {ops : Array Oper} {o : Oper} {a : Act} {K : Act → World → Prop} {Q : Exit → Act → World → Prop} {E : Prop} (h : Bank w0 w L) (hgd : o.guard = Option.none) (s y : Operand) (t : TypeId)
    (ho : o.op = .call { callee := .builtin .append, args := #[s, y], argTypes := #[t, t] })
    (e : TypeId) (z : Value) (size bytes : Nat) (hz : (P.info? e).map (fun i => (i.zero, i.size, i.bytes)) = some (some z, size, bytes)) (ht : P.underlying t = some (.slice e)) (hzs : z.cells.size = size) (hsz : 0 < size)
    (k : Nat) (A : Option Addr) (n cap : Nat) (xs : List Value) (hs : a.eval s = .slice A n cap) (hk : L[k]? = some ⟨.slice A n cap, n, e, size, xs⟩)
    (ao : Option Addr) (m c : Nat) (news : List Value) (hx : a.eval y = .slice ao m c) (hnone : ao = Option.none → m = 0 ∧ c = 0) (hl : news.length = m * size) (hnews : ∀ ad, ao = some ad → ∀ j u, news[j]? = some u → w.cell? (ad.add j) = some u) (h1 : ∀ u ∈ news, u.oneCell' = true)
    (h63 : n + m ≤ maxLen) (hbytes : (n + m) * bytes ≤ 140737488355328)
    (hK : ∀ A' n' c' w', n' = n + m → Bank w0 w' (L.set k ⟨.slice A' n' c', n', e, size, xs ++ news⟩) → K (a.put o.dst (.slice A' n' c')) w') :
    if Region.wanted o (yielded ops a.tmps) = true then Oper.wp P o a w K Q else E := by
  have hw : Region.wanted o (yielded ops a.tmps) = true := by simp [Region.wanted, hgd]
  rw [if_pos hw]
  obtain ⟨i0, hi, hz0, hz1, hz2⟩ := info_parts hz
  obtain ⟨A', c', w', hr, h2⟩ := run_append_bank (P := P) h t o.type e i0 z size bytes ht hi hz0 hz1 hz2 hzs hsz k A n cap xs hk ao m c news hnone hl hnews h1 h63 hbytes
  unfold Oper.wp execOp
  simp only [ho, resolve, invoke, builtin, Sem.run_bind, Sem.run_pure, Result.andThen_ok, List.map_toArray, List.map_cons, List.map_nil, hs, hx, hr]
  exact hK A' _ c' w' rfl h2
theorem run_cut2 {P : Program} {t e : TypeId} (ht : P.underlying t = some (.slice e)) {es : Nat} (hsz : ∀ w, (sizeOf e).run P w = .ok es w) {A : Option Addr} (hA : A = Option.none ∨ ∃ g, A = some ⟨g, 0, Option.none⟩) (n c q : Nat) (hq : q ≤ c) (w : World) :
    (Instr.slice t (.slice A n c) Option.none (some (.int .i64 (q : Int))) Option.none).run P w = .ok (.slice A q c) w := by
  have h1 : (Instr.sliceBounds true n c Option.none (some (.int .i64 (q : Int))) Option.none).run P w = .ok (0, q, c) w := by
    simp [Instr.sliceBounds, run_sliceBound, hq, Result.andThen]
  simp only [Instr.slice, Sem.run_bind, run_underlying ht, Result.andThen, h1, hsz, Sem.run_pure]
  rcases hA with rfl | ⟨g, rfl⟩
  · simp
  · by_cases h0 : c = 0
    · subst h0; simp
    · simp [h0, Addr.add]
/-- the reference's store in a world -/
def RBox (w : World) (G : Nat) (c : S.Cl) (A : Option Addr) (n cE : Nat) : Prop := w.heap[G]? = some (.cells #[.int .i64 c.term, .int .i64 c.vote, .int .i64 c.applied, .int .i64 c.active, .slice A n cE] 36 (0, 0))
theorem RBox.since {w w' : World} {G : Nat} {c : S.Cl} {A : Option Addr} {n cE : Nat} (h : RBox w G c A n cE) (hs : Since w w') : RBox w' G c A n cE := Since.at hs h
theorem RBox.c4 {w : World} {G : Nat} {c : S.Cl} {A : Option Addr} {n cE : Nat} (h : RBox w G c A n cE) : w.cell? ⟨G, 4, none⟩ = some (.slice A n cE) := block_cell (xs := [.int .i64 c.term, .int .i64 c.vote, .int .i64 c.applied, .int .i64 c.active, .slice A n cE]) h rfl
theorem RBox.c0 {w : World} {G : Nat} {c : S.Cl} {A : Option Addr} {n cE : Nat} (h : RBox w G c A n cE) : w.cell? ⟨G, 0, none⟩ = some (.int .i64 c.term) ∧ w.cell? ⟨G, 1, none⟩ = some (.int .i64 c.vote) ∧ w.cell? ⟨G, 2, none⟩ = some (.int .i64 c.applied) ∧ w.cell? ⟨G, 3, none⟩ = some (.int .i64 c.active) :=
  ⟨block_cell (xs := [.int .i64 c.term, .int .i64 c.vote, .int .i64 c.applied, .int .i64 c.active, .slice A n cE]) h rfl, block_cell (xs := [.int .i64 c.term, .int .i64 c.vote, .int .i64 c.applied, .int .i64 c.active, .slice A n cE]) h rfl, block_cell (xs := [.int .i64 c.term, .int .i64 c.vote, .int .i64 c.applied, .int .i64 c.active, .slice A n cE]) h rfl, block_cell (xs := [.int .i64 c.term, .int .i64 c.vote, .int .i64 c.applied, .int .i64 c.active, .slice A n cE]) h rfl⟩
theorem RBox.free {w : World} {G : Nat} {c : S.Cl} {A : Option Addr} {n cE : Nat} (h : RBox w G c A n cE) (j : Nat) : w.frozen? ⟨G, j, none⟩ = false := frozen_of_row w G j _ _ h
/-- a frame was done, or can't be -/
def RDoPost (w : World) (G : Nat) (c : S.Cl) (xs : List EV) (f : F.Fr) (e : Ending) (w' : World) : Prop :=
  (S.sdo ⟨c, xs.map EV.e⟩ f = none ∧ e = .returned (.bool false) ∧ Since w w') ∨
  (∃ c' w1, S.sdo ⟨c, xs.map EV.e⟩ f = some ⟨c', xs.map EV.e⟩ ∧ e = .returned (.bool true) ∧ Since w w1 ∧
    w' = (((w1.setCell ⟨G, 0, none⟩ (.int .i64 c'.term)).setCell ⟨G, 1, none⟩ (.int .i64 c'.vote)).setCell ⟨G, 2, none⟩ (.int .i64 c'.applied)).setCell ⟨G, 3, none⟩ (.int .i64 c'.active)) ∨
  (∃ w1 q A' cE' en B m cB, S.sdo ⟨c, xs.map EV.e⟩ f = some ⟨c, (xs.take q ++ [⟨en, B, m, cB⟩] : List EV).map EV.e⟩ ∧ q ≤ xs.length ∧ e = .returned (.bool true) ∧
    Bank w w1 [evsAcc A' (q + 1) cE' (xs.take q ++ [⟨en, B, m, cB⟩]), rowAcc B m cB en.data] ∧ w' = w1.setCell ⟨G, 4, none⟩ (.slice A' (q + 1) cE'))
set_option maxHeartbeats 8000000 in
set_option maxRecDepth 100000 in
theorem rDo_set (w : World) (G : Nat) (c : S.Cl) (A : Option Addr) (n cE : Nat) (xs : List EV) (B0 : Option Addr) (m0 c0 : Nat) (d : List (BitVec 8)) (hM : RBox w G c A n cE) (hr : RowRd w ⟨B0, m0, c0⟩ d) (hm : m0 ≤ 1000000000) :
    Calls Tryz.prog 12 #[.pointer (some ⟨G, 0, none⟩), .agg #[.int .i64 1, .slice B0 m0 c0]] w (RDoPost w G c xs ⟨1, d⟩) := by
  have HM := Lib.hid hM
  have BK0 := Lib.hid ((Bank.nil (Below.refl w.heap.size w)).box #[.int .i64 1, .slice B0 m0 c0] 49 (by simp))
  have HR := Lib.hid (Since.row BK0.out.since hr)
  clear hM hr
  go_enter Tryz.func12, Tryz.ntmps12
  go_wp2_with fail
  have k0 := BK0.out.cell 0 rfl 0 rfl
  obtain ⟨F0, hF0⟩ : ∃ F0, F0 = w.heap.size := ⟨_, rfl⟩
  rw [← hF0] at k0 BK0
  rw [← hF0]
  generalize w.alloc (.cells #[.int .i64 1, .slice B0 m0 c0] 49) = wa at *
  refine (rNew_any B0 m0 c0 d wa HR.out (by omega)).mono ?_
  rintro e w2 ⟨R, Bd, cB, rfl, hR, hq, hBd, hb⟩
  have H0 := Lib.hid (show Held w w2 (fun w s => RefN w R s Bd m0 cB d) (some d) R Bd _ from Held.start (Q := fun w s => RefN w R s Bd m0 cB d) BK0.out ⟨0, false, hq⟩ hb hR hq.lt hBd (fun w w' s row h hg hR hA => refN_grownS h hg hR hA))
  have k0 := H0.out.bank.cell 0 rfl 0 rfl
  clear hq hBd hb hR BK0 hF0
  obtain ⟨s0, hs0⟩ : ∃ s0 : M.Rdr, s0 = some d := ⟨_, rfl⟩
  obtain ⟨n0, hn0⟩ : ∃ n, n = (M.rdNumber s0).1 := ⟨_, rfl⟩
  obtain ⟨s1, hs1⟩ : ∃ s, s = (M.rdNumber s0).2 := ⟨_, rfl⟩
  obtain ⟨n1, hn1⟩ : ∃ n, n = (M.rdNumber s1).1 := ⟨_, rfl⟩
  obtain ⟨s2, hs2⟩ : ∃ s, s = (M.rdNumber s1).2 := ⟨_, rfl⟩
  obtain ⟨n2, hn2⟩ : ∃ n, n = (M.rdNumber s2).1 := ⟨_, rfl⟩
  obtain ⟨s3, hs3⟩ : ∃ s, s = (M.rdNumber s2).2 := ⟨_, rfl⟩
  obtain ⟨n3, hn3⟩ : ∃ n, n = (M.rdNumber s3).1 := ⟨_, rfl⟩
  obtain ⟨s4, hs4⟩ : ∃ s, s = (M.rdNumber s3).2 := ⟨_, rfl⟩
  have HRD := Lib.hid (show S.rd4 (some d) = (⟨n0, n1, n2, n3⟩, s4) by rw [← hs0]; simp only [S.rd4, hn0, hn1, hn2, hn3, hs1, hs2, hs3, hs4])
  have HN0 := Lib.hid (show (M.rdNumber s0).1 = n0 from hn0.symm); have HS1 := Lib.hid (show (M.rdNumber s0).2 = s1 from hs1.symm)
  have HN1 := Lib.hid (show (M.rdNumber s1).1 = n1 from hn1.symm); have HS2 := Lib.hid (show (M.rdNumber s1).2 = s2 from hs2.symm)
  have HN2 := Lib.hid (show (M.rdNumber s2).1 = n2 from hn2.symm); have HS3 := Lib.hid (show (M.rdNumber s2).2 = s3 from hs3.symm)
  have HN3 := Lib.hid (show (M.rdNumber s3).1 = n3 from hn3.symm); have HS4 := Lib.hid (show (M.rdNumber s3).2 = s4 from hs4.symm)
  rw [← hs0] at H0
  clear hs0 hn0 hs1 hn1 hs2 hn2 hs3 hn3 hs4
  go_wp2_with fail
  refine (num_heldR H0.out).mono ?_
  rintro e u1 ⟨rfl, hH⟩
  rw [HS1.out] at hH
  rw [HN0.out]
  have H1 := Lib.hid (hH.box #[.int .i64 n0, .int .i64 0, .int .i64 0, .int .i64 0] 33 (by simp))
  clear hH H0 HS1 HN0 k0
  go_wp2_with fail
  refine (num_heldR H1.out).mono ?_
  rintro e u2 ⟨rfl, hH⟩
  rw [HS2.out] at hH
  rw [HN1.out]
  have y0 := hH.bank.cell 0 rfl 1 rfl
  have y1 := hH.bank.free 0 rfl 1
  have H2 := Lib.hid (hH.set 0 rfl 1 (.int .i64 n1))
  clear hH H1 HS2 HN1
  go_wp2_with fail
  refine (num_heldR H2.out).mono ?_
  rintro e u3 ⟨rfl, hH⟩
  rw [HS3.out] at hH
  rw [HN2.out]
  have y0 := hH.bank.cell 0 rfl 2 rfl
  have y1 := hH.bank.free 0 rfl 2
  have H3 := Lib.hid (hH.set 0 rfl 2 (.int .i64 n2))
  clear hH H2 HS3 HN2
  go_wp2_with fail
  refine (num_heldR H3.out).mono ?_
  rintro e u4 ⟨rfl, hH⟩
  rw [HS4.out] at hH
  rw [HN3.out]
  have y0 := hH.bank.cell 0 rfl 3 rfl
  have y1 := hH.bank.free 0 rfl 3
  have H4 := Lib.hid (hH.set 0 rfl 3 (.int .i64 n3))
  clear hH H3 HS4 HN3
  go_wp2_with fail
  refine (done_heldR H4.out).mono ?_
  rintro e v1 ⟨rfl, hH⟩
  have H5 := Lib.hid hH
  clear hH H4 y0 y1
  by_cases hs : s4 = some []
  · have hd : decide (s4 = some []) = true := by simp [hs]
    rw [hd]
    have HS4 := Lib.hid hs
    have y0 := H5.out.bank.cell 0 rfl 0 rfl
    have y1 := H5.out.bank.cell 0 rfl 1 rfl
    have y2 := H5.out.bank.cell 0 rfl 2 rfl
    have y3 := H5.out.bank.cell 0 rfl 3 rfl
    clear hs hd
    go_wp2_with fail
    refine (rMay_any ⟨n0, n1, n2, n3⟩ v1).mono ?_
    rintro e v2 ⟨rfl, hs⟩
    have S2 := Lib.hid (H5.out.bank.since.add hs)
    have B2 := Lib.hid (H5.out.bank.call hs)
    clear hs H5 y0 y1 y2 y3
    obtain ⟨b, hb⟩ : ∃ b, b = S.may ⟨n0, n1, n2, n3⟩ := ⟨_, rfl⟩
    rw [← hb]
    have HB := Lib.hid hb
    clear hb
    cases b with
    | false =>
      go_wp2
      go_ret
      refine .inl ⟨?_, rfl, S2.out⟩
      unfold S.sdo S.sset
      rw [if_pos rfl, if_neg]
      rw [HRD.out]
      intro h
      have h2 : S.may ⟨n0, n1, n2, n3⟩ = true := h.2
      rw [← HB.out] at h2
      cases h2
    | true =>
      have y0 := B2.out.cell 0 rfl 0 rfl
      have y1 := B2.out.cell 0 rfl 1 rfl
      have y2 := B2.out.cell 0 rfl 2 rfl
      have y3 := B2.out.cell 0 rfl 3 rfl
      have hz := HM.out.since S2.out
      obtain ⟨z1, z2, z3, z4⟩ := hz.c0
      have f0 := hz.free 0
      have f1 := hz.free 1
      have f2 := hz.free 2
      have f3 := hz.free 3
      clear hz
      go_wp2
      go_ret
      refine .inr (.inl ⟨⟨n0, n1, n2, n3⟩, v2, ?_, rfl, S2.out, rfl⟩)
      unfold S.sdo S.sset
      rw [if_pos rfl, if_pos (by rw [HRD.out]; exact ⟨HS4.out, HB.out.symm⟩), HRD.out]
  · have hd : decide (s4 = some []) = false := by simp [hs]
    rw [hd]
    have HN := Lib.hid hs
    have S2 := Lib.hid H5.out.bank.since
    clear hs hd H5
    go_wp2
    go_ret
    refine .inl ⟨?_, rfl, S2.out⟩
    unfold S.sdo S.sset
    rw [if_pos rfl, if_neg]
    rw [HRD.out]
    exact fun h => HN.out h.1
end Go.Proofs.YtfpjmeknjhhakaaGreat.K

/- A disk whose file holds frames, and its store: what is done to them. -/
namespace Go.Proofs.YtfpjmeknjhhakaaGreat.K
open Go Go.RowKit Go.Maps

/-- a disk whose file holds these bytes, so many of them safe -/
def DF (w0 w : World) (D R : Nat) (room : Int) (bs : List (BitVec 8)) (sf : Nat) (L : List Acc) : Prop := ∃ o, Dk w0 w D R room o L ∧ obytes o = bs ∧ olen o = bs.length ∧ osafe o = sf ∧ sf ≤ bs.length
/-- .. these frames, and its store -/
def LS (w0 w : World) (D R : Nat) (room : Int) (fs : List F.Fr) (sf : Nat) (Z : Nat) (st : S.St) (L : List Acc) : Prop :=
  ∃ o A cE xs, st.l = xs.map EV.e ∧ SK w0 w D R room o Z st.c A cE xs L ∧ obytes o = F.pbytes fs ∧ olen o = (F.pbytes fs).length ∧ osafe o = sf ∧ sf ≤ (F.pbytes fs).length
section
variable {w0 w w' : World} {D R : Nat} {room : Int} {bs : List (BitVec 8)} {fs : List F.Fr} {sf Z : Nat} {st : S.St} {L L' : List Acc}
theorem LS.call (h : LS w0 w D R room fs sf Z st L) (hb : Below w.heap.size w w') : LS w0 w' D R room fs sf Z st L := by
  obtain ⟨o, A, cE, xs, h1, h2, h3⟩ := h
  exact ⟨o, A, cE, xs, h1, h2.call hb, h3⟩
theorem LS.sub (h : LS w0 w D R room fs sf Z st L) (hs : L'.Sublist L) : LS w0 w D R room fs sf Z st L' := by
  obtain ⟨o, A, cE, xs, h1, h2, h3⟩ := h
  exact ⟨o, A, cE, xs, h1, h2.sub hs, h3⟩
theorem LS.add (h : LS w0 w D R room fs sf Z st L) (h' : Bank w w' L') : LS w0 w' D R room fs sf Z st (L' ++ L) := by
  obtain ⟨o, A, cE, xs, h1, h2, h3⟩ := h
  exact ⟨o, A, cE, xs, h1, h2.add h', h3⟩
theorem LS.since (h : LS w0 w D R room fs sf Z st L) : Since w0 w := by
  obtain ⟨o, A, cE, xs, h1, h2, h3⟩ := h
  exact h2.since
theorem LS.bank (h : LS w0 w D R room fs sf Z st L) : Bank w0 w L := by
  obtain ⟨o, A, cE, xs, h1, h2, h3⟩ := h
  exact h2.bank
theorem LS.df (h : LS w0 w D R room fs sf Z st L) : DF w0 w D R room (F.pbytes fs) sf L := by
  obtain ⟨o, A, cE, xs, h1, h2, h3, h4, h5, h6⟩ := h
  exact ⟨o, h2.dk.sub (.cons _ (.cons _ (List.sublist_append_right _ _))), h3, h4, h5, h6⟩
theorem DF.call (h : DF w0 w D R room bs sf L) (hb : Below w.heap.size w w') : DF w0 w' D R room bs sf L := by
  obtain ⟨o, h1, h2⟩ := h
  exact ⟨o, h1.call hb, h2⟩
theorem DF.sub (h : DF w0 w D R room bs sf L) (hs : L'.Sublist L) : DF w0 w D R room bs sf L' := by
  obtain ⟨o, h1, h2⟩ := h
  exact ⟨o, h1.sub hs, h2⟩
theorem DF.bank (h : DF w0 w D R room bs sf L) : Bank w0 w L := by
  obtain ⟨o, h1, h2⟩ := h
  exact h1.rest
theorem DF.new (h : Dk w0 w D R room none L) : DF w0 w D R room [] 0 L := ⟨none, h, rfl, rfl, rfl, Nat.le_refl _⟩
end
/-- a disk is made -/
theorem newL (w0 w : World) (L : List Acc) (room : Int) (h : Bank w0 w L) (hr : 0 ≤ room) : Calls Tryz.prog 7 #[.int .i64 room] w fun e w' => ∃ D R, e = .returned (.pointer (some ⟨D, 0, none⟩)) ∧ DF w0 w' D R room [] 0 L :=
  (New_any w0 w L room h hr).mono fun _ _ ⟨D, R, he, h⟩ => ⟨D, R, he, DF.new h⟩
/-- a store is opened -/
theorem openL (w0 w : World) (D R : Nat) (room : Int) (bs : List (BitVec 8)) (sf : Nat) (L : List Acc) (fs : List F.Fr) (st : S.St) (u : Nat) (h : DF w0 w D R room bs sf L) (hn : bs.length ≤ 8388608) (hs : S.sread bs = some (st, u)) (hf : F.pbytes fs = bs.take u) (hu : u ≤ bs.length) :
    Calls Tryz.prog 8 #[.pointer (some ⟨D, 0, none⟩)] w fun e w' => ∃ Z, e = .returned (.tuple #[.pointer (some ⟨Z, 0, none⟩), .int .i64 0]) ∧ LS w0 w' D R room fs u Z st L := by
  obtain ⟨o, h1, h2, h3, h4, h5⟩ := h
  have hop : Calls Tryz.prog 8 #[.pointer (some ⟨D, 0, none⟩)] w (OpenPost w0 D R room o L) := by
    cases o with
    | none => exact open_none w0 w D R room L h1
    | some f => exact open_some w0 w D R room f L h1 (by have : f.n = bs.length := h3; omega)
  refine hop.mono ?_
  rintro e w' (⟨k1, _⟩ | ⟨st', u', o', Z, c', A', cE', xs', k1, rfl, k3, k4, k5, k6⟩)
  · rw [h2, hs] at k1; cases k1
  · rw [h2, hs] at k1
    obtain ⟨rfl, rfl⟩ : st = st' ∧ u = u' := by simpa using k1
    refine ⟨Z, rfl, o', A', cE', xs', by rw [k3], by rw [k3]; exact k6, ?_⟩
    have hl : (F.pbytes fs).length = u := by rw [hf, List.length_take]; omega
    rcases k4 with ⟨rfl, rfl, rfl⟩ | ⟨f, g, A2, c2, rfl, rfl, hfu⟩
    · refine ⟨?_, ?_, rfl, Nat.zero_le _⟩
      · rw [hf]; rfl
      · rw [hl]; rfl
    · refine ⟨?_, ?_, rfl, by rw [hl]; exact Nat.le_refl _⟩
      · rw [hf, ← h2]; rfl
      · rw [hl]; rfl
/-- a spoilt one is not -/
theorem openBad (w0 w : World) (D R : Nat) (room : Int) (bs : List (BitVec 8)) (sf : Nat) (L : List Acc) (h : DF w0 w D R room bs sf L) (hn : bs.length ≤ 8388608) (hs : S.sread bs = none) :
    Calls Tryz.prog 8 #[.pointer (some ⟨D, 0, none⟩)] w fun e w' => e = .returned (.tuple #[.pointer none, .int .i64 10]) ∧ DF w0 w' D R room bs sf L := by
  obtain ⟨o, h1, h2, h3, h4, h5⟩ := h
  have hop : Calls Tryz.prog 8 #[.pointer (some ⟨D, 0, none⟩)] w (OpenPost w0 D R room o L) := by
    cases o with
    | none => exact open_none w0 w D R room L h1
    | some f => exact open_some w0 w D R room f L h1 (by have : f.n = bs.length := h3; omega)
  refine hop.mono ?_
  rintro e w' (⟨k1, rfl, k2⟩ | ⟨st', u', o', Z, c', A', cE', xs', k1, _⟩)
  · exact ⟨rfl, o, k2, h2, h3, h4, h5⟩
  · rw [h2, hs] at k1; cases k1
theorem putS_ok {w0 w' : World} {D R : Nat} {room : Int} {o : Option Fil} {Z : Nat} {c : S.Cl} {A : Option Addr} {cE : Nat} {xs : List EV} {L : List Acc} {fs gs : List F.Fr} {st : S.St} {e : Ending} (h : PutS w0 D R room o Z c A cE xs L gs st e w') (h1 : obytes o = F.pbytes fs) (h2 : olen o = (F.pbytes fs).length) {sf : Nat} (h3 : osafe o = sf) (h4 : sf ≤ (F.pbytes fs).length)
    (hb : ((F.pbytes fs).length + (F.pbytes gs).length : Int) ≤ room) (hr : room ≤ 8388608) : e = .returned (.int .i64 0) ∧ LS w0 w' D R room (fs ++ gs) sf Z st L := by
  rcases h with ⟨k1, _⟩ | ⟨_, k1, _⟩ | ⟨_, _, k1, g, A2, c2, c', A', cE', xs', k2, k3, k4⟩
  · exfalso; omega
  · exfalso; omega
  · refine ⟨k1, some ⟨g, A2, olen o + (F.pbytes gs).length, c2, obytes o ++ F.pbytes gs, osafe o⟩, A', cE', xs', by rw [k2], by rw [k2]; exact k4, ?_, ?_, h3, ?_⟩
    · rw [F.pbytes_append, ← h1]; rfl
    · rw [F.pbytes_append, List.length_append, ← h2]; rfl
    · rw [F.pbytes_append, List.length_append]; omega
theorem keepL (w0 w : World) (D R : Nat) (room : Int) (fs : List F.Fr) (sf Z : Nat) (st : S.St) (L : List Acc) (d : S.Cl) (h : LS w0 w D R room fs sf Z st L) (hm : S.may d = true) (hb : ((F.pbytes fs).length + 41 : Int) ≤ room) (hr : room ≤ 8388608) (hx : st.l.length ≤ 700000) :
    Calls Tryz.prog 18 #[.pointer (some ⟨Z, 0, none⟩), .agg #[.int .i64 d.term, .int .i64 d.vote, .int .i64 d.applied, .int .i64 d.active]] w fun e w' => e = .returned (.int .i64 0) ∧ LS w0 w' D R room (fs ++ [S.kept d]) sf Z ⟨d, st.l⟩ L := by
  obtain ⟨o, A, cE, xs, h1, h2, h3, h4, h5, h6⟩ := h
  have hl : xs.length = st.l.length := by rw [h1, List.length_map]
  refine (keep_any w0 w D R room o Z st.c A cE xs L d h2 hm (by omega) (by omega)).mono ?_
  intro e w' hp
  rw [← h1] at hp
  exact putS_ok hp h3 h4 h5 h6 (by
    have : (F.pbytes [S.kept d]).length = 41 := by simp [F.pbytes, F.one_length, S.kept, S.cdata_length]
    omega) hr
theorem keepBad (w0 w : World) (D R : Nat) (room : Int) (fs : List F.Fr) (sf Z : Nat) (st : S.St) (L : List Acc) (d : S.Cl) (h : LS w0 w D R room fs sf Z st L) (hm : S.may d = false) :
    Calls Tryz.prog 18 #[.pointer (some ⟨Z, 0, none⟩), .agg #[.int .i64 d.term, .int .i64 d.vote, .int .i64 d.applied, .int .i64 d.active]] w fun e w' => e = .returned (.int .i64 2) ∧ LS w0 w' D R room fs sf Z st L := by
  have h0 := h
  obtain ⟨o, A, cE, xs, h1, h2, h3⟩ := h0
  exact (keep_bad w Z D st.c A xs.length cE d h2.box hm).mono fun _ _ ⟨he, hs⟩ => ⟨he, h.call hs⟩
/-- a store that has got entries -/
def grewS (st : S.St) (i : Int) (es : List M.Ent) : S.St := if es = [] then st else ⟨st.c, st.l.take (i - 1).toNat ++ es⟩
theorem appL (w0 w : World) (D R : Nat) (room : Int) (fs : List F.Fr) (sf Z : Nat) (st : S.St) (L : List Acc) (i : Int) (E : Option Addr) (n cn : Nat) (es : List M.Ent) (h : LS w0 w D R room fs sf Z st L)
    (hl : es.length = n) (hE : EntsRd w E es) (hok : ∀ e ∈ es, e.Ok) (hd : ∀ e ∈ es, e.data.length ≤ 200000) (hb : ((F.pbytes fs).length + (F.pbytes (S.puts i es)).length : Int) ≤ room) (hr : room ≤ 8388608) (hx : st.l.length + n ≤ 800000) :
    Calls Tryz.prog 19 #[.pointer (some ⟨Z, 0, none⟩), .int .i64 i, .slice E n cn] w fun e w' =>
      ((i < 1 ∨ (st.l.length : Int) + 1 < i) ∧ e = .returned (.int .i64 2) ∧ LS w0 w' D R room fs sf Z st L) ∨
      ((1 ≤ i ∧ i ≤ (st.l.length : Int) + 1) ∧ e = .returned (.int .i64 0) ∧ LS w0 w' D R room (fs ++ S.puts i es) sf Z (grewS st i es) L) := by
  obtain ⟨o, A, cE, xs, h1, h2, h3, h4, h5, h6⟩ := h
  have hxl : xs.length = st.l.length := by rw [h1, List.length_map]
  refine (sApp_any w0 w D R room o Z st.c A cE xs L i E n cn es h2 hl hE hok hd (by omega) (by omega) (by omega)).mono ?_
  rintro e w' (⟨k1, k2, k3⟩ | ⟨k1, k2, k3, k4⟩ | ⟨k1, k2, k3⟩)
  · rw [hxl] at k1
    exact .inl ⟨k1, k2, o, A, cE, xs, h1, k3, h3, h4, h5, h6⟩
  · rw [hxl] at k1
    refine .inr ⟨k1, k3, ?_⟩
    subst k2
    rw [grewS, if_pos rfl]
    show LS w0 w' D R room (fs ++ []) sf Z st L
    rw [List.append_nil]
    exact ⟨o, A, cE, xs, h1, k4, h3, h4, h5, h6⟩
  · rw [hxl] at k1
    rw [← h1] at k3
    refine .inr ⟨k1, ?_⟩
    rw [grewS, if_neg k2]
    exact putS_ok k3 h3 h4 h5 h6 hb hr
theorem syncL (w0 w : World) (D R : Nat) (room : Int) (fs : List F.Fr) (sf Z : Nat) (st : S.St) (L : List Acc) (h : LS w0 w D R room fs sf Z st L) :
    Calls Tryz.prog 21 #[.pointer (some ⟨Z, 0, none⟩)] w fun e w' => e = .returned (.int .i64 0) ∧ LS w0 w' D R room fs (F.pbytes fs).length Z st L := by
  obtain ⟨o, A, cE, xs, h1, h2, h3, h4, h5, h6⟩ := h
  refine (sSync_any w0 w D R room o Z st.c A cE xs L h2).mono ?_
  rintro e w' ⟨he, k⟩
  refine ⟨he, osync o, A, cE, xs, h1, k, ?_⟩
  cases o with
  | none => exact ⟨h3, h4, h4, Nat.le_refl _⟩
  | some f => exact ⟨h3, h4, h4, Nat.le_refl _⟩
/-- entries that were handed out -/
def OutE (w : World) (es : List M.Ent) (e : Ending) (w' : World) : Prop := ∃ A n c ys, e = .returned (.slice A n c) ∧ ys.map EV.e = es ∧ ys.length = n ∧ Bank w w' (evsAcc A n c ys :: evRows ys)
theorem outE_rd {w0 w : World} {L : List Acc} {A : Option Addr} {n c : Nat} {ys : List EV} {es : List M.Ent} (h : Bank w0 w ((evsAcc A n c ys :: evRows ys) ++ L)) (h1 : ys.map EV.e = es) (h2 : ys.length = n) : EntsRd w A es := by
  rw [← h1]
  exact evs_rd h (.head _) (fun x hx => .tail _ (List.mem_append_left _ (List.mem_map.2 ⟨x, by simpa using hx, rfl⟩))) h2
theorem entsL (w0 w : World) (D R : Nat) (room : Int) (fs : List F.Fr) (sf Z : Nat) (st : S.St) (L : List Acc) (h : LS w0 w D R room fs sf Z st L) (hn : st.l.length ≤ 1000000) (hd : ∀ e ∈ st.l, e.data.length ≤ 100000000) :
    Calls Tryz.prog 22 #[.pointer (some ⟨Z, 0, none⟩)] w (OutE w st.l) := by
  obtain ⟨o, A, cE, xs, h1, h2, h3⟩ := h
  have hxl : xs.length = st.l.length := by rw [h1, List.length_map]
  refine (sEnts_any w Z D st.c A xs.length cE xs h2.box h2.evs (by omega) (h2.evn (by rw [← h1]; exact hd))).mono ?_
  rintro e w' ⟨A', c', ys, he, k1, k2, k3⟩
  exact ⟨A', xs.length, c', ys, he, by rw [h1, ← k2], k1, k3⟩
theorem cellL (w0 w : World) (D R : Nat) (room : Int) (fs : List F.Fr) (sf Z : Nat) (st : S.St) (L : List Acc) (h : LS w0 w D R room fs sf Z st L) :
    Calls Tryz.prog 23 #[.pointer (some ⟨Z, 0, none⟩)] w fun e w' => e = .returned (.agg #[.int .i64 st.c.term, .int .i64 st.c.vote, .int .i64 st.c.applied, .int .i64 st.c.active]) ∧ Since w w' := by
  obtain ⟨o, A, cE, xs, h1, h2, h3⟩ := h
  exact sCell_any w Z D st.c A xs.length cE h2.box
theorem crashD (w0 w : World) (D R : Nat) (room : Int) (bs : List (BitVec 8)) (sf : Nat) (L : List Acc) (k : Nat) (h : DF w0 w D R room bs sf L) (hn : bs.length ≤ 100000000) (hk : k ≤ 100000000) :
    Calls Tryz.prog 17 #[.pointer (some ⟨D, 0, none⟩), .int .i64 (k : Int)] w fun e w' => e = .returned (.int .i64 0) ∧ DF w0 w' D R room (bs.take (crashAt sf k bs.length)) (crashAt sf k bs.length) L := by
  obtain ⟨o, h1, h2, h3, h4, h5⟩ := h
  cases o with
  | none =>
    obtain rfl : bs = [] := h2.symm
    obtain rfl : sf = 0 := h4.symm
    refine (crash_none w0 w D R room L (k : Int) h1).mono ?_
    rintro e w' ⟨he, k1⟩
    refine ⟨he, none, k1, ?_⟩
    simp [crashAt, obytes, olen, osafe]
  | some f =>
    have e1 : f.bs = bs := h2
    have e2 : f.n = bs.length := h3
    have e3 : f.safe = sf := h4
    refine (crash_at w0 w D R room f L k (crashAt sf k bs.length) (by rw [e2, e3]) h1 (by omega) (by omega) hk).mono ?_
    rintro e w' ⟨he, A, c, k1⟩
    have hq : crashAt sf k bs.length ≤ bs.length := by unfold crashAt; omega
    refine ⟨he, _, k1, by rw [← e1]; rfl, ?_, rfl, ?_⟩
    · rw [List.length_take, Nat.min_eq_left hq]; rfl
    · rw [List.length_take, Nat.min_eq_left hq]; exact Nat.le_refl _
/-- the file's bytes are read -/
theorem readD (w0 w : World) (D R : Nat) (room : Int) (bs : List (BitVec 8)) (sf : Nat) (L : List Acc) (h : DF w0 w D R room bs sf L) (hn : bs.length ≤ 100000000) :
    Calls Tryz.prog 13 #[.pointer (some ⟨D, 0, none⟩), .string storeS] w fun e w' => ∃ A n c k, e = .returned (.tuple #[.slice A n c, .int .i64 k]) ∧ DF w0 w' D R room bs sf (rowAcc A n c bs :: L) := by
  obtain ⟨o, h1, h2, h3, h4, h5⟩ := h
  cases o with
  | none =>
    obtain rfl : bs = [] := h2.symm
    refine (dRead_none w0 w D R room L h1).mono ?_
    rintro e w' ⟨he, k1⟩
    exact ⟨none, 0, 0, 6, he, none, k1.none', h2, h3, h4, h5⟩
  | some f =>
    obtain rfl : f.bs = bs := h2
    have e2 : f.n = f.bs.length := h3
    refine (dRead_some w0 w D R room f L h1 (by omega)).mono ?_
    rintro e w' ⟨A, n, c, he, k1⟩
    exact ⟨A, n, c, 0, he, _, k1, rfl, h3, h4, h5⟩
end Go.Proofs.YtfpjmeknjhhakaaGreat.K

/- The contract of the law's awake. -/
namespace Go.Proofs.YtfpjmeknjhhakaaGreat.K
open Go Go.RowKit Go.Maps

theorem sread_nil : S.sread [] = some (S.zero, 0) := rfl
def awc : S.Cl := ⟨3, 2, 0, 0⟩
theorem ack_ok (k : Int) (hk : M.inI64 k) : (ackE k).Ok := ⟨⟨by show -9223372036854775808 ≤ (1 : Int); omega, by show (1 : Int) ≤ 9223372036854775807; omega⟩, ⟨by show -9223372036854775808 ≤ (1 : Int); omega, by show (1 : Int) ≤ 9223372036854775807; omega⟩, hk, by simp [ackE]⟩
def ackCells (k : Int) : List Value := [.int .i64 1, .int .u8 4, .int .i64 1, .int .i64 k, .bool true, .slice none 0 0]
theorem ack6 : ∀ (ks : List Int) (i j : Nat) (hi : i < ks.length), j < 6 → (ks.flatMap ackCells)[i * 6 + j]? = (ackCells ks[i])[j]?
  | [], i, j, hi, hj => absurd hi (Nat.not_lt_zero _)
  | k :: ks, 0, j, hi, hj => by
    rw [List.flatMap_cons, Nat.zero_mul, Nat.zero_add, List.getElem?_append_left (show j < 6 from hj)]; rfl
  | k :: ks, i + 1, j, hi, hj => by
    rw [List.flatMap_cons, List.getElem?_append_right (show 6 ≤ (i + 1) * 6 + j by omega), show (i + 1) * 6 + j - (ackCells k).length = i * 6 + j by show (i + 1) * 6 + j - 6 = _; omega]
    exact ack6 ks i j (by simpa using hi) hj
/-- acks in a row that a literal made -/
theorem acks_rd (w : World) (ks : List Int) (cs : Array Value) (hcs : cs = (ks.flatMap ackCells).toArray) : EntsRd (w.alloc (.cells cs 62)) (some ⟨w.heap.size, 0, none⟩) (ks.map ackE) := by
  intro i hi
  rw [List.length_map] at hi
  have hb : (w.alloc (.cells cs 62)).heap[w.heap.size]? = some (.cells (ks.flatMap ackCells).toArray 62 (0, 0)) := by rw [heap_alloc_new, hcs]
  have hx : ∀ j, j < 6 → (ks.flatMap ackCells)[i * 6 + j]? = (ackCells ks[i])[j]? := fun j hj => ack6 ks i j hi hj
  refine ⟨w.heap.size, 0, rfl, none, 0, 0, ?_, ?_⟩
  · rw [List.getElem_map, Nat.zero_add]
    exact ⟨block_cell hb (hx 0 (by omega)), block_cell hb (hx 1 (by omega)), block_cell hb (hx 2 (by omega)), block_cell hb (hx 3 (by omega)), block_cell hb (hx 4 (by omega)), block_cell hb (hx 5 (by omega))⟩
  · rw [List.getElem_map]
    exact ⟨Rd.of_nil _ _, rfl, fun _ => rfl⟩
def aw1 : List F.Fr := [] ++ [S.kept awc] ++ S.puts 1 [ackE 1, ackE 2]
def aw2 : List F.Fr := aw1 ++ S.puts 2 [ackE 3]
theorem pb_aw1 : (F.pbytes aw1).length = 41 + 65 + 65 := by
  simp [aw1, S.puts, S.put, F.pbytes, F.one_length, S.kept, S.cdata_length, S.edata_length, ackE]
theorem pb_aw2 : (F.pbytes aw2).length = 41 + 65 + 65 + 65 := by
  rw [aw2, F.pbytes_append, List.length_append, pb_aw1]
  simp [S.puts, S.put, F.pbytes, F.one_length, S.edata_length, ackE]
theorem aw1_err : F.perr aw1 = 0 := by
  rw [F.perr_zero]
  intro f hf
  simp only [aw1, S.puts, List.nil_append, List.cons_append, List.mem_cons, List.not_mem_nil, or_false] at hf
  rcases hf with rfl | rfl | rfl
  · exact S.kept_err _
  · exact S.put_err _ _ (by simp [ackE])
  · exact S.put_err _ _ (by simp [ackE])
theorem aw1_do : S.sdos S.zero aw1 = some ⟨awc, [ackE 1, ackE 2]⟩ := by
  have h0 : S.may awc = true := by decide
  have h1 := S.sdo_kept S.zero awc h0
  have h2 := S.sdos_puts [ackE 1, ackE 2] (by intro e he; simp at he; rcases he with rfl | rfl <;> exact ack_ok _ ⟨by omega, by omega⟩) ⟨awc, []⟩ 1 (by omega) (by simp) (by simp)
  rw [if_neg (by simp)] at h2
  unfold aw1
  rw [List.nil_append, S.sdos_append]
  simp only [S.sdos, h1, Option.bind_some]
  rw [show (1 : Int) = ((1 : Nat) : Int) from rfl]
  exact h2
theorem aw1_read : S.sread (F.pbytes aw1) = some (⟨awc, [ackE 1, ackE 2]⟩, (F.pbytes aw1).length) := S.sread_put aw1 _ aw1_err aw1_do
theorem aw_crash : (F.pbytes aw2).take (crashAt (F.pbytes aw1).length 0 (F.pbytes aw2).length) = F.pbytes aw1 := by
  have h : crashAt (F.pbytes aw1).length 0 (F.pbytes aw2).length = (F.pbytes aw1).length := by unfold crashAt; simp
  rw [h, aw2, F.pbytes_append, List.take_left' rfl]
/-- all is as the document's example tells -/
def AwPost (w : World) (e : Ending) (w' : World) : Prop := e = .returned (.bool true) ∧ Since w w'
set_option maxHeartbeats 8000000 in
set_option maxRecDepth 100000 in
theorem awake22_any (w : World) : Calls Tryz.prog 5 #[] w (AwPost w) := by
  have HNEW := Lib.hid (newL w w [] 1048576 (Bank.nil (Below.refl _ _)) (by omega))
  go_enter Tryz.func5, Tryz.ntmps5
  go_wp2_with fail
  refine HNEW.out.mono ?_
  rintro e w1 ⟨D, R, rfl, h1⟩
  have HO := Lib.hid (openL w w1 D R 1048576 [] 0 [] [] S.zero 0 h1 (by simp) sread_nil rfl (Nat.le_refl _))
  clear h1 HNEW
  go_wp2_with fail
  refine HO.out.mono ?_
  rintro e w2 ⟨Z, rfl, h2⟩
  have HK := Lib.hid (keepL w w2 D R 1048576 [] 0 Z S.zero [] awc h2 (by decide) (by simp [F.pbytes]) (by omega) (by simp [S.zero]))
  clear h2 HO
  go_wp2_with fail
  refine HK.out.mono ?_
  rintro e w3 ⟨rfl, h3⟩
  have H3 := Lib.hid h3
  clear h3 HK
  go_wp2_with fail
  refine (ack_any 1 w3).mono ?_
  rintro e w4 ⟨rfl, hs4⟩
  have H4 := Lib.hid (H3.out.call hs4)
  clear hs4 H3
  go_wp2_with fail
  refine (ack_any 2 w4).mono ?_
  rintro e w5 ⟨rfl, hs5⟩
  have H5 := Lib.hid (H4.out.call hs5)
  clear hs5 H4
  have H5' := Lib.hid (H5.out.call (Since.alloc (Below.refl w5.heap.size w5) (.cells ([1, 2].flatMap ackCells).toArray 62)))
  have HA := Lib.hid (appL w _ D R 1048576 _ 0 Z ⟨awc, []⟩ [] 1 (some ⟨w5.heap.size, 0, none⟩) 2 2 [ackE 1, ackE 2] H5'.out rfl (acks_rd w5 [1, 2] _ rfl) (by intro e he; simp at he; rcases he with rfl | rfl <;> exact ack_ok _ ⟨by omega, by omega⟩) (by intro e he; simp at he; rcases he with rfl | rfl <;> simp [ackE]) (by
    have h := pb_aw1
    rw [aw1, F.pbytes_append, List.length_append] at h
    omega) (by omega) (by simp))
  clear H5 H5'
  go_wp2_with fail
  refine HA.out.mono ?_
  rintro e w6 (⟨h, _⟩ | ⟨_, rfl, h6⟩)
  · exfalso
    simp at h
  have H6 : Hid (LS w w6 D R 1048576 aw1 0 Z ⟨awc, [ackE 1, ackE 2]⟩ []) := Lib.hid h6
  clear h6 HA
  go_wp2_with fail
  refine (syncL w w6 D R 1048576 _ 0 Z _ [] H6.out).mono ?_
  rintro e w7 ⟨rfl, h7⟩
  have H7 := Lib.hid h7
  clear h7 H6
  go_wp2_with fail
  refine (ack_any 3 w7).mono ?_
  rintro e w8 ⟨rfl, hs8⟩
  have H8 := Lib.hid ((H7.out.call hs8).call (Since.alloc (Below.refl w8.heap.size w8) (.cells ([3].flatMap ackCells).toArray 62)))
  have HA := Lib.hid (appL w _ D R 1048576 _ _ Z ⟨awc, [ackE 1, ackE 2]⟩ [] 2 (some ⟨w8.heap.size, 0, none⟩) 1 1 [ackE 3] H8.out rfl (acks_rd w8 [3] _ rfl) (by intro e he; simp at he; subst he; exact ack_ok _ ⟨by omega, by omega⟩) (by intro e he; simp at he; subst he; simp [ackE]) (by
    have h := pb_aw2
    rw [aw2, F.pbytes_append, List.length_append] at h
    omega) (by omega) (by simp))
  clear H7 H8 hs8
  go_wp2_with fail
  refine HA.out.mono ?_
  rintro e w9 (⟨h, _⟩ | ⟨_, rfl, h9⟩)
  · exfalso
    simp at h
  have H9 : Hid (LS w w9 D R 1048576 aw2 (F.pbytes aw1).length Z ⟨awc, [ackE 1, ackE 3]⟩ []) := Lib.hid h9
  clear h9 HA
  go_wp2_with fail
  refine (entsL w w9 D R 1048576 _ _ Z _ [] H9.out (by simp) (by intro e he; simp at he; rcases he with rfl | rfl <;> simp [ackE])).mono ?_
  rintro e w10 ⟨A, n, c, ys, rfl, hy1, hy2, hB⟩
  have hn : n = 2 := by rw [← hy2, ← List.length_map (f := EV.e), hy1]; rfl
  subst hn
  have H10 := Lib.hid ((H9.out.add hB).df)
  have HY1 := Lib.hid hy1; have HY2 := Lib.hid hy2
  clear hy1 hy2 hB H9
  have HC := Lib.hid (crashD w w10 D R 1048576 _ _ _ 0 H10.out (by rw [pb_aw2]; omega) (by omega))
  rw [aw_crash, show ((0 : Nat) : Int) = 0 from rfl] at HC
  clear H10
  go_wp2_with fail
  refine HC.out.mono ?_
  rintro e w11 ⟨rfl, h11⟩
  have HO := Lib.hid (openL w w11 D R 1048576 _ _ _ aw1 ⟨awc, [ackE 1, ackE 2]⟩ (F.pbytes aw1).length h11 (by rw [pb_aw1]; omega) aw1_read (by rw [List.take_of_length_le (Nat.le_refl _)]) (Nat.le_refl _))
  clear h11 HC
  go_wp2_with fail
  refine HO.out.mono ?_
  rintro e w12 ⟨Z2, rfl, h12⟩
  have H12 := Lib.hid h12
  clear h12 HO
  go_wp2_with fail
  refine (entsL w w12 D R 1048576 _ _ Z2 _ _ H12.out (by simp) (by intro e he; simp at he; rcases he with rfl | rfl <;> simp [ackE])).mono ?_
  rintro e w13 ⟨A3, n3, c3, ys3, rfl, hy1, hy2, hB⟩
  have hn : n3 = 2 := by rw [← hy2, ← List.length_map (f := EV.e), hy1]; rfl
  subst hn
  have H13 := Lib.hid (H12.out.add hB)
  have r1 := outE_rd (L := []) (by have h := H13.out.bank; exact h.sub (List.sublist_append_right _ _)) HY1.out HY2.out
  have r2 := outE_rd H13.out.bank hy1 hy2
  obtain ⟨b1, o1, rfl, _, _, _, ⟨_, _, _, x1, _, _⟩, _⟩ := r1 1 (by simp)
  obtain ⟨b2, o2, rfl, _, _, _, ⟨_, _, _, x2, _, _⟩, _⟩ := r2 1 (by simp)
  clear hy1 hy2 hB H12 HY1 HY2
  have x1' : w13.cell? ⟨b1, o1 + 6 + 3, none⟩ = some (.int .i64 3) := x1
  have x2' : w13.cell? ⟨b2, o2 + 6 + 3, none⟩ = some (.int .i64 2) := x2
  clear x1 x2
  go_wp2_with fail
  refine (cellL w w13 D R 1048576 _ _ Z2 _ _ H13.out).mono ?_
  rintro e w14 ⟨rfl, hs14⟩
  have HFIN := Lib.hid (show AwPost w (.returned (.bool true)) w14 from ⟨rfl, H13.out.since.add hs14⟩)
  unfold awc
  clear hs14 H13
  go_wp2
  go_ret
  exact HFIN.out
end Go.Proofs.YtfpjmeknjhhakaaGreat.K

/- The contract of the law's like, at what is alike. -/
namespace Go.Proofs.YtfpjmeknjhhakaaGreat.K
open Go Go.RowKit Go.Maps

/-- a reference's store in a world -/
def refCells (c : S.Cl) (A : Option Addr) (n cM : Nat) : List Value := [.int .i64 c.term, .int .i64 c.vote, .int .i64 c.applied, .int .i64 c.active, .slice A n cM]
abbrev RefC (w : World) (M : Nat) (c : S.Cl) (A : Option Addr) (n cM : Nat) : Prop := w.cell? ⟨M, 0, none⟩ = some (.int .i64 c.term) ∧ w.cell? ⟨M, 1, none⟩ = some (.int .i64 c.vote) ∧ w.cell? ⟨M, 2, none⟩ = some (.int .i64 c.applied) ∧ w.cell? ⟨M, 3, none⟩ = some (.int .i64 c.active) ∧ w.cell? ⟨M, 4, none⟩ = some (.slice A n cM)
theorem RefC.since {w w' : World} {M : Nat} {c : S.Cl} {A : Option Addr} {n cM : Nat} (h : RefC w M c A n cM) (hs : Since w w') : RefC w' M c A n cM :=
  ⟨(hs.cell (block_lt_of_cell h.1)).trans h.1, (hs.cell (block_lt_of_cell h.2.1)).trans h.2.1, (hs.cell (block_lt_of_cell h.2.2.1)).trans h.2.2.1, (hs.cell (block_lt_of_cell h.2.2.2.1)).trans h.2.2.2.1, (hs.cell (block_lt_of_cell h.2.2.2.2)).trans h.2.2.2.2⟩
set_option maxHeartbeats 4000000 in
set_option maxRecDepth 100000 in
theorem like_eq (w0 w : World) (D R : Nat) (room : Int) (fs : List F.Fr) (sf Z : Nat) (st : S.St) (L : List Acc) (M : Nat) (A : Option Addr) (n cM : Nat) (h : LS w0 w D R room fs sf Z st L) (hM : RefC w M st.c A n cM) (hn : st.l.length = n) (hE : EntsRd w A st.l) (hn2 : n ≤ 1000000) (hd : ∀ e ∈ st.l, e.data.length ≤ 100000000) :
    Calls Tryz.prog 14 #[.pointer (some ⟨Z, 0, none⟩), .pointer (some ⟨M, 0, none⟩)] w fun e w' => e = .returned (.bool true) ∧ Since w w' := by
  have HM := Lib.hid hM; have HN := Lib.hid hn; have HE := Lib.hid hE; have HD := Lib.hid hd
  have H0 := Lib.hid (h.call (Below.refl _ _).drew)
  have HS0 := Lib.hid (show Since w w.drew from (Below.refl w.heap.size w).drew)
  clear h hM hn hE hd
  go_enter Tryz.func14, Tryz.ntmps14
  go_upto_region 1 with fail
  refine WL.region (SApp 99 (fun _ => True) (fun w' => RefC w' M st.c A n cM)) (by kernel_rfl) ?_
  intro hsh
  have hS : SApp 99 (fun _ => True) (fun w' => RefC w' M st.c A n cM) (Array.replicate 18 false) w.drew := ⟨fun _ => trivial, HM.out.since HS0.out⟩
  refine WL.take (i := 0) (v := ?_) (S0 := fun _ => True) rfl (by kernel_rfl) (by kernel_rfl) (by kernel_rfl) (fun _ _ _ h => h) (SApp.hm (by decide)) (SApp.any) hsh (Or.inl ⟨by rfl, ?_⟩) hS ?_
  rotate_left
  · intro w hSw; clear hSw; go_simp <;> rfl
  clear hsh hS; intro hsh hS
  try simp only [Act.put, List.setIfInBounds_toArray]
  refine WL.take (i := 3) (v := ?_) (S0 := fun _ => True) rfl (by kernel_rfl) (by kernel_rfl) (by kernel_rfl) (fun _ _ _ h => h) (SApp.hm (by decide)) (SApp.any) hsh (Or.inl ⟨by rfl, ?_⟩) hS ?_
  rotate_left
  · intro w hSw; clear hSw; go_simp <;> rfl
  clear hsh hS; intro hsh hS
  try simp only [Act.put]
  refine WL.take (i := 4) (v := ?_) (S0 := fun _ => True) rfl (by kernel_rfl) (by kernel_rfl) (by kernel_rfl) (fun _ _ _ h => h) (SApp.hm (by decide)) (SApp.any) hsh (Or.inl ⟨by rfl, ?_⟩) hS ?_
  rotate_left
  · intro w hSw; clear hSw; go_simp <;> rfl
  clear hsh hS; intro hsh hS
  try simp only [Act.put]
  refine WL.take (i := 5) (v := ?_) (S0 := fun _ => True) rfl (by kernel_rfl) (by kernel_rfl) (by kernel_rfl) (fun _ _ _ h => h) (SApp.hm (by decide)) (SApp.any) hsh (Or.inl ⟨by rfl, ?_⟩) hS ?_
  rotate_left
  · intro w hSw; clear hSw; go_simp <;> rfl
  clear hsh hS; intro hsh hS
  try simp only [Act.put]
  refine WL.take (i := 6) (v := ?_) rfl (by kernel_rfl) (by kernel_rfl) (by kernel_rfl) (fun _ _ _ h => h) (SApp.hm (by decide)) (SApp.right) hsh (Or.inl ⟨by rfl, ?_⟩) hS ?_
  rotate_left
  · intro w hSw; go_simp <;> rfl
  clear hsh hS; intro hsh hS
  try simp only [Act.put]
  have HSH := Lib.hid hsh
  clear hsh hS
  refine WL.one (i := 1) HSH.out (by kernel_rfl) rfl ?_
  intro K hK
  have HK := Lib.hid hK
  clear hK
  go_simp
  refine (cellL w0 _ D R room fs sf Z st L H0.out).mono ?_
  rintro e w1 ⟨rfl, hs1⟩
  have H1 := Lib.hid (H0.out.call hs1)
  have HS1 := Lib.hid (HS0.out.add hs1)
  clear hs1 H0 HS0
  refine HK.out _ _ (SApp.intro (fun _ => trivial) (HM.out.since HS1.out)) ?_
  clear K HK HSH
  intro hsh hS
  try simp only [Act.put, List.setIfInBounds_toArray, List.set_cons_zero, List.set_cons_succ]
  have HSH := Lib.hid hsh
  clear hsh hS
  refine WL.one (i := 2) HSH.out (by kernel_rfl) rfl ?_
  intro K hK
  have HK := Lib.hid hK
  clear hK
  go_simp
  refine (lcell_any st.c.term st.c.vote st.c.applied st.c.active w1).mono ?_
  rintro e w2 ⟨rfl, hs2⟩
  have H2 := Lib.hid (H1.out.call hs2)
  have HS2 := Lib.hid (HS1.out.add hs2)
  clear hs2 H1 HS1
  refine HK.out _ _ (SApp.intro (fun _ => trivial) (HM.out.since HS2.out)) ?_
  clear K HK HSH
  intro hsh hS
  try simp only [Act.put, List.setIfInBounds_toArray, List.set_cons_zero, List.set_cons_succ]
  refine WL.take (i := 7) (v := ?_) (S0 := fun _ => True) rfl (by kernel_rfl) (by kernel_rfl) (by kernel_rfl) (fun _ _ _ h => h) (SApp.hm (by decide)) (SApp.any) hsh (Or.inl ⟨by rfl, ?_⟩) hS ?_
  rotate_left
  · intro w hSw; clear hSw; go_simp <;> rfl
  clear hsh hS; intro hsh hS
  try simp only [Act.put, List.setIfInBounds_toArray]
  refine WL.take (i := 8) (v := ?_) (S0 := fun _ => True) rfl (by kernel_rfl) (by kernel_rfl) (by kernel_rfl) (fun _ _ _ h => h) (SApp.hm (by decide)) (SApp.any) hsh (Or.inl ⟨by rfl, ?_⟩) hS ?_
  rotate_left
  · intro w hSw; clear hSw; go_simp <;> rfl
  clear hsh hS; intro hsh hS
  try simp only [Act.put]
  refine WL.take (i := 9) (v := ?_) (S0 := fun _ => True) rfl (by kernel_rfl) (by kernel_rfl) (by kernel_rfl) (fun _ _ _ h => h) (SApp.hm (by decide)) (SApp.any) hsh (Or.inl ⟨by rfl, ?_⟩) hS ?_
  rotate_left
  · intro w hSw; clear hSw; go_simp <;> rfl
  clear hsh hS; intro hsh hS
  try simp only [Act.put]
  refine WL.take (i := 11) (v := ?_) (S0 := fun _ => True) rfl (by kernel_rfl) (by kernel_rfl) (by kernel_rfl) (fun _ _ _ h => h) (SApp.hm (by decide)) (SApp.any) hsh (Or.inl ⟨by rfl, ?_⟩) hS ?_
  rotate_left
  · intro w hSw; clear hSw; go_simp <;> rfl
  clear hsh hS; intro hsh hS
  try simp only [Act.put]
  refine WL.take (i := 12) (v := ?_) (S0 := fun _ => True) rfl (by kernel_rfl) (by kernel_rfl) (by kernel_rfl) (fun _ _ _ h => h) (SApp.hm (by decide)) (SApp.any) hsh (Or.inl ⟨by rfl, ?_⟩) hS ?_
  rotate_left
  · intro w hSw; clear hSw; go_simp <;> rfl
  clear hsh hS; intro hsh hS
  try simp only [Act.put]
  refine WL.take (i := 13) (v := ?_) (S0 := fun _ => True) rfl (by kernel_rfl) (by kernel_rfl) (by kernel_rfl) (fun _ _ _ h => h) (SApp.hm (by decide)) (SApp.any) hsh (Or.inl ⟨by rfl, ?_⟩) hS ?_
  rotate_left
  · intro w hSw; clear hSw; go_simp <;> rfl
  clear hsh hS; intro hsh hS
  try simp only [Act.put]
  refine WL.take (i := 14) (v := ?_) rfl (by kernel_rfl) (by kernel_rfl) (by kernel_rfl) (fun _ _ _ h => h) (SApp.hm (by decide)) (SApp.right) hsh (Or.inl ⟨by rfl, ?_⟩) hS ?_
  rotate_left
  · intro w hSw; go_simp <;> rfl
  clear hsh hS; intro hsh hS
  try simp only [Act.put]
  have HSH := Lib.hid hsh
  clear hsh hS
  refine WL.one (i := 10) HSH.out (by kernel_rfl) rfl ?_
  intro K hK
  have HK := Lib.hid hK
  clear hK
  go_simp
  refine (entsL w0 w2 D R room fs sf Z st L H2.out (by have := HN.out; omega) HD.out).mono ?_
  rintro e w3 ⟨A', n', c', ys, rfl, hy1, hy2, hB⟩
  have HS3 := Lib.hid (HS2.out.add hB.since)
  have HA' := Lib.hid (show EntsRd w3 A' st.l by rw [← hy1]; exact evs_rd hB (.head _) (fun x hx => .tail _ (List.mem_map.2 ⟨x, by simpa using hx, rfl⟩)) hy2)
  obtain rfl : n' = n := by rw [← hy2, ← HN.out, ← hy1, List.length_map]
  clear hy1 hy2 hB H2 HS2
  refine HK.out _ _ (SApp.intro (fun _ => trivial) (HM.out.since HS3.out)) ?_
  clear K HK HSH
  intro hsh hS
  try simp only [Act.put, List.setIfInBounds_toArray, List.set_cons_zero, List.set_cons_succ]
  have HSH := Lib.hid hsh
  clear hsh hS
  refine WL.one (i := 15) HSH.out (by kernel_rfl) rfl ?_
  intro K hK
  have HK := Lib.hid hK
  clear hK
  go_simp
  refine (SameEntries_eq A' n' c' A cM st.l w3 HN.out HA'.out (HE.out.since HS3.out) (by omega) (fun e he => by have := HD.out e he; omega)).mono ?_
  rintro e w4 ⟨rfl, hs4⟩
  have HS4 := Lib.hid (HS3.out.add hs4)
  clear hs4 HS3 HA'
  refine HK.out _ _ (SApp.intro (fun _ => trivial) (HM.out.since HS4.out)) ?_
  clear K HK HSH
  intro hsh hS
  try simp only [Act.put, List.setIfInBounds_toArray, List.set_cons_zero, List.set_cons_succ]
  refine WL.take (i := 16) (v := ?_) (S0 := fun _ => True) rfl (by kernel_rfl) (by kernel_rfl) (by kernel_rfl) (fun _ _ _ h => h) (SApp.hm (by decide)) (SApp.any) hsh (Or.inl ⟨by rfl, ?_⟩) hS ?_
  rotate_left
  · intro w hSw; clear hSw; go_simp <;> rfl
  clear hsh hS; intro hsh hS
  try simp only [Act.put, List.setIfInBounds_toArray]
  have HSH := Lib.hid hsh
  clear hsh hS
  refine WL.one (i := 17) HSH.out (by kernel_rfl) rfl ?_
  intro K hK
  have HK := Lib.hid hK
  clear hK
  go_simp
  refine HK.out _ _ (SApp.intro (fun _ => trivial) (HM.out.since HS4.out)) ?_
  clear K HK HSH
  intro _ _
  refine WL.done (by kernel_rfl) ?_ _
  have HFIN := Lib.hid HS4.out
  clear HM HN HE HD HS4
  simp only [Exit.then]
  go_wp2
  go_ret
  exact ⟨rfl, HFIN.out⟩
end Go.Proofs.YtfpjmeknjhhakaaGreat.K
