/- The contract of the range over frames in store's Open. -/
import Derived.Test.YtfpjmeknjhhakaaSqStoPut
import Derived.Test.YtfpjmeknjhhakaaSq8
namespace Go.Proofs.Ytfpjmeknjhhakaa.K
open Go Go.RowKit Go.Maps

/-- the store's variable -/
def varAcc (I Z : Nat) : Acc := boxAcc I 56 [.pointer (some ⟨Z, 0, none⟩)]
def One1 (w0 : World) (D R : Nat) (room : Int) (o : Option Fil) (Z : Nat) (c : S.Cl) (A : Option Addr) (cE : Nat) (xs : List EV) (L : List Acc) (f : F.Fr) (e : Ending) (w' : World) : Prop :=
  (S.sdo ⟨c, xs.map EV.e⟩ f = none ∧ e = .returned (.bool true) ∧ SK w0 w' D R room o Z c A cE xs L) ∨
  (∃ c' A' cE' xs', S.sdo ⟨c, xs.map EV.e⟩ f = some ⟨c', xs'.map EV.e⟩ ∧ xs'.length ≤ xs.length + 1 ∧ e = .returned (.bool false) ∧ SK w0 w' D R room o Z c' A' cE' xs' L)
set_option maxHeartbeats 2000000 in
set_option maxRecDepth 100000 in
theorem open1_any (w0 w : World) (D R : Nat) (room : Int) (o : Option Fil) (Z I : Nat) (c : S.Cl) (A : Option Addr) (cE : Nat) (xs : List EV) (L : List Acc) (p : FR) (h : SK w0 w D R room o Z c A cE xs (varAcc I Z :: L)) (hr : RowRd w ⟨p.x.A, p.x.n, p.x.c⟩ p.bs) (hn : xs.length ≤ 1000000) (hm : p.x.n ≤ 1000000000) (hk : M.inI64 p.k) :
    Calls Try.prog 57 #[.agg #[.int .i64 p.k, .slice p.x.A p.x.n p.x.c], .pointer (some ⟨I, 0, none⟩)] w (One1 w0 D R room o Z c A cE xs (varAcc I Z :: L) p.fr) := by
  have hs := Since.alloc (Below.refl w.heap.size w) (.cells #[.int .i64 p.k, .slice p.x.A p.x.n p.x.c] 36)
  have h1 := h.call hs
  have HDO := Lib.hid (do_any _ Z D c A xs.length cE xs p.fr p.x.A p.x.n p.x.c h1.box h1.own rfl hn (Since.row hs hr) hm hk)
  have H1 := Lib.hid h1
  have i0 := h1.bank.cell 0 rfl 0 rfl
  clear h h1 hs
  go_enter Try.func57, Try.ntmps57
  go_wp2_with fail
  refine HDO.out.mono ?_
  rintro e w2 hp
  rcases H1.out.done hp with ⟨h2, rfl, h3⟩ | ⟨c', A', cE', xs', h2, h3, rfl, h4⟩
  · have HFIN := Lib.hid (show One1 w0 D R room o Z c A cE xs (varAcc I Z :: L) p.fr (.returned (.bool true)) w2 from .inl ⟨h2, rfl, h3⟩)
    clear h2 h3 hp HDO H1
    go_wp2
    go_ret
    exact HFIN.out
  · have HFIN := Lib.hid (show One1 w0 D R room o Z c A cE xs (varAcc I Z :: L) p.fr (.returned (.bool false)) w2 from .inr ⟨c', A', cE', xs', h2, h3, rfl, h4⟩)
    clear h2 h3 h4 hp HDO H1
    go_wp2
    go_ret
    exact HFIN.out
/-- all frames were done, or one can't be -/
def AllF (w0 : World) (D R : Nat) (room : Int) (o : Option Fil) (Z I : Nat) (L : List Acc) (fs : List F.Fr) (w' : World) (b : Bool) : Prop :=
  (S.sdos S.zero fs = none ∧ b = true ∧ Dk w0 w' D R room o L) ∨
  (∃ c' A' cE' xs', S.sdos S.zero fs = some ⟨c', xs'.map EV.e⟩ ∧ xs'.length ≤ fs.length ∧ b = false ∧ SK w0 w' D R room o Z c' A' cE' xs' (varAcc I Z :: L))
def IdxF (w0 : World) (D R : Nat) (room : Int) (o : Option Fil) (Z I : Nat) (L : List Acc) (fs : List F.Fr) (e : Ending) (w' : World) : Prop := ∃ (n : Int) (b : Bool), e = .returned (.int .i64 n) ∧ (b = decide (0 ≤ n)) ∧ AllF w0 D R room o Z I L fs w' b
set_option maxHeartbeats 4000000 in
set_option maxRecDepth 100000 in
theorem indexF_any (w0 w : World) (D R : Nat) (room : Int) (o : Option Fil) (Z I : Nat) (L : List Acc) (Fa : Option Addr) (cF : Nat) (ps : List FR) (m : Nat) (h : SK w0 w D R room o Z S.zeroCl none 0 [] (varAcc I Z :: frL Fa cF ps L)) (hm : ps.length = m) (hm2 : m ≤ 1000000) (hk : ∀ p ∈ ps, M.inI64 p.k) (hd : ∀ p ∈ ps, p.x.n ≤ 100000000) :
    Calls Try.prog 110 #[.slice Fa m cF, .func (.func 57) #[] #[.pointer (some ⟨I, 0, none⟩)]] w (IdxF w0 D R room o Z I (frL Fa cF ps L) (ps.map FR.fr)) := by
  have H0 := Lib.hid h; have HM := Lib.hid hm; have HKK := Lib.hid hk; have HD := Lib.hid hd
  obtain ⟨fs, hfs⟩ : ∃ fs, fs = ps.map FR.fr := ⟨_, rfl⟩
  rw [← hfs]
  have HFS := Lib.hid hfs
  clear h hm hk hd hfs
  go_enter Try.func110, Try.ntmps110
  go_wp2
  go_loopw [8] (fun i wr => ∃ (k : Nat) (c' : S.Cl) (A' : Option Addr) (cE' : Nat) (xs' : List EV), k ≤ m ∧ i = .int .i64 (k : Int) ∧ S.sdos S.zero (fs.take k) = some ⟨c', xs'.map EV.e⟩ ∧ xs'.length ≤ k ∧ SK w0 wr D R room o Z c' A' cE' xs' (varAcc I Z :: frL Fa cF ps L)) (fun i _ => m - (intOf i).toNat)
  case atStart => exact ⟨0, S.zeroCl, none, 0, [], by omega, rfl, by rw [List.take_zero]; rfl, Nat.le_refl _, H0.out⟩
  case round =>
    clear H0
    obtain ⟨k, c', A', cE', xs', hk, rfl, hsd, hxl, hS⟩ := hrel
    have k0 : (0 : Int) ≤ (k : Int) := by omega
    have HSK := Lib.hid hsd
    have H3 := Lib.hid hS
    rcases Nat.lt_or_ge k m with h1 | h1
    · have i1 : (k : Int) < (m : Int) := by omega
      have hkp : k < ps.length := by rw [HM.out]; exact h1
      obtain ⟨g, hFa, x0, x1, hrd⟩ := fr_at hS.dk.rest (.tail _ (.tail _ (List.mem_append_right _ (.tail _ (.head _))))) (fun p hp => .tail _ (.tail _ (List.mem_append_right _ (.tail _ (.tail _ (List.mem_append_left _ (List.mem_map.2 ⟨p, by simpa using hp, rfl⟩))))))) k hkp
      obtain ⟨p, hpe⟩ : ∃ p, p = ps[k] := ⟨_, rfl⟩
      rw [← hpe] at x0 x1 hrd
      have hpm : p ∈ ps := by rw [hpe]; exact List.getElem_mem hkp
      have hfk : fs.take (k + 1) = fs.take k ++ [p.fr] := by
        rw [HFS.out, ← List.map_take, ← List.map_take, List.take_succ_eq_append_getElem hkp, List.map_append, hpe]; rfl
      have HFK := Lib.hid hfk
      subst hFa
      have HDO := Lib.hid (open1_any w0 wr D R room o Z I c' A' cE' xs' _ p hS hrd (by omega) (by have := HD.out p hpm; omega) (HKK.out p hpm))
      have hnext : S.sdos S.zero (fs.take (k + 1)) = S.sdo ⟨c', xs'.map EV.e⟩ p.fr := by
        rw [hfk, S.sdos_append, hsd]
        simp [S.sdos]
      have HNX := Lib.hid hnext
      clear hsd hS hrd hpe hfk hnext
      go_wp2_with fail
      refine HDO.out.mono ?_
      rintro e w4 (⟨h2, rfl, h4⟩ | ⟨c5, A5, cE5, xs5, h2, h5, rfl, h4⟩)
      · have hno : S.sdos S.zero fs = none := by
          cases hx : S.sdos S.zero fs with
          | none => rfl
          | some t =>
            exfalso
            obtain ⟨t2, ht2⟩ := S.sdos_take hx (k + 1)
            rw [HNX.out, h2] at ht2
            cases ht2
        have HFIN := Lib.hid (show AllF w0 D R room o Z I (frL (some ⟨g, 0, none⟩) cF ps L) fs w4 true from .inl ⟨hno, rfl, h4.dk.sub (.cons _ (.cons _ ((List.sublist_cons_self _ _).trans (List.sublist_append_right _ _))))⟩)
        clear h2 h4 hno HDO x0 x1
        go_wp2
        go_ret
        exact ⟨(k : Int), true, rfl, by simp, HFIN.out⟩
      · have HS5 := Lib.hid h4
        have HN5 := Lib.hid (HNX.out.trans h2)
        clear h2 h4 HDO x0 x1
        go_wp2_with fail
        go_roundw
        case rel => exact ⟨k + 1, c5, A5, cE5, xs5, by omega, by go_num, HN5.out, by omega, HS5.out⟩
        case measure => simp [intOf]; omega
    · have i1 : ¬ (k : Int) < (m : Int) := by omega
      obtain rfl : k = m := by omega
      clear hsd hS
      go_wp2
      go_ret
      refine ⟨-1, false, rfl, by simp, .inr ⟨c', A', cE', xs', ?_, ?_, rfl, H3.out⟩⟩
      · have h := HSK.out
        rw [List.take_of_length_le (by rw [HFS.out, List.length_map, HM.out]; omega)] at h
        exact h
      · rw [HFS.out, List.length_map, HM.out]; exact hxl
set_option maxHeartbeats 2000000 in
set_option maxRecDepth 100000 in
theorem containsF_any (w0 w : World) (D R : Nat) (room : Int) (o : Option Fil) (Z I : Nat) (L : List Acc) (Fa : Option Addr) (cF : Nat) (ps : List FR) (m : Nat) (h : SK w0 w D R room o Z S.zeroCl none 0 [] (varAcc I Z :: frL Fa cF ps L)) (hm : ps.length = m) (hm2 : m ≤ 1000000) (hk : ∀ p ∈ ps, M.inI64 p.k) (hd : ∀ p ∈ ps, p.x.n ≤ 100000000) :
    Calls Try.prog 56 #[.slice Fa m cF, .func (.func 57) #[] #[.pointer (some ⟨I, 0, none⟩)]] w fun e w' => ∃ b : Bool, e = .returned (.bool b) ∧ AllF w0 D R room o Z I (frL Fa cF ps L) (ps.map FR.fr) w' b := by
  have HC := Lib.hid (indexF_any w0 w D R room o Z I L Fa cF ps m h hm hm2 hk hd)
  clear h hm hk hd
  go_enter Try.func56, Try.ntmps56
  go_wp2_with fail
  refine HC.out.mono ?_
  rintro e w1 ⟨n, b, rfl, hb, ha⟩
  have HB := Lib.hid hb; have HA := Lib.hid ha
  clear hb ha HC
  go_wp2
  go_ret
  exact ⟨decide (0 ≤ n), rfl, by rw [← HB.out]; exact HA.out⟩
end Go.Proofs.Ytfpjmeknjhhakaa.K
