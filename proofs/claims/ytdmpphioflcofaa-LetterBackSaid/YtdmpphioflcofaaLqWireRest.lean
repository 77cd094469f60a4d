/- The contracts of the program's rest.small and rest.bytes: they read, or panic. -/
import Derived.Test.YtdmpphioflcofaaLqWireTake
namespace Go.Proofs.Ytdmpphioflcofaa.K
open Go Go.RowKit

/-- it panicked, and the reader is one still -/
def PBad (w : World) (P : Nat) (made bad : Bool) (e : Ending) (w' : World) : Prop :=
  e = .panicked shortP ∧ (∃ l A n c, PrgR w' P l A n c made bad) ∧ w.grownBy w' (some P)
theorem grown_refl (w : World) (row : Option Nat) : w.grownBy w row := ⟨rfl, rfl, rfl, Nat.le_refl _, fun _ _ _ => rfl⟩
theorem grown_trans' {w w1 w2 : World} {row : Option Nat} (h : w.grownBy w1 row) (h' : w1.grownBy w2 row) : w.grownBy w2 row :=
  ⟨h'.os.trans h.os, h'.tape.trans h.tape, h'.output.trans h.output, Nat.le_trans h.size h'.size, fun k hk hne => (h'.block k (Nat.lt_of_lt_of_le hk h.size) hne).trans (h.block k hk hne)⟩
theorem pnum_bad' (P : Nat) (l : List (BitVec 8)) (A : Option Addr) (n c : Nat) (made bad : Bool) (w : World) (h : PrgR w P l A n c made bad) (hn : n < 8) :
    Calls Try.prog 105 #[.pointer (some ⟨P, 0, none⟩)] w (PBad w P made bad) :=
  (pnum_bad P l A n c made bad w h hn).mono fun e w' ⟨he, hw⟩ => by subst hw; exact ⟨he, ⟨l, A, n, c, h⟩, grown_refl _ _⟩

set_option maxHeartbeats 1000000 in
theorem small_ok (P : Nat) (l : List (BitVec 8)) (A : Option Addr) (n c : Nat) (made bad : Bool) (most : Int) (w : World) (h : PrgR w P l A n c made bad) (hn : 8 ≤ n) (h0 : 0 ≤ M.val (l.take 8)) (h1 : M.val (l.take 8) ≤ most) :
    Calls Try.prog 119 #[.pointer (some ⟨P, 0, none⟩), .int .i64 most] w (NumOk w P l A n c made bad) := by
  obtain ⟨v, hv⟩ : ∃ v, v = M.val (l.take 8) := ⟨_, rfl⟩
  rw [← hv] at h0 h1
  have g0 : ¬ v < 0 := by omega
  have g1 : ¬ most < v := by omega
  have H := Lib.hid h; have HV := Lib.hid hv
  clear h hv
  go_enter Try.func119, Try.ntmps119
  go_wp2_with fail
  refine (pnum_ok P l A n c made bad w H.out hn).mono ?_
  rintro e w1 ⟨rfl, hp, hg⟩
  rw [← HV.out]
  have HP := Lib.hid hp; have HG := Lib.hid hg
  clear hp hg
  go_wp2
  go_ret
  exact ⟨by rw [← HV.out]; rfl, HP.out, HG.out⟩
set_option maxHeartbeats 1000000 in
theorem small_bad (P : Nat) (l : List (BitVec 8)) (A : Option Addr) (n c : Nat) (made bad : Bool) (most : Int) (w : World) (h : PrgR w P l A n c made bad) (hb : n < 8 ∨ (8 ≤ n ∧ (M.val (l.take 8) < 0 ∨ most < M.val (l.take 8)))) :
    Calls Try.prog 119 #[.pointer (some ⟨P, 0, none⟩), .int .i64 most] w (PBad w P made bad) := by
  have H := Lib.hid h
  clear h
  rcases hb with hn | ⟨hn, hb⟩
  · go_enter Try.func119, Try.ntmps119
    go_wp2_with fail
    refine (pnum_bad' P l A n c made bad w H.out hn).mono ?_
    rintro e w1 ⟨rfl, hp, hg⟩
    have HP := Lib.hid hp; have HG := Lib.hid hg
    clear hp hg
    go_wp2
    exact ⟨rfl, rfl, HP.out, HG.out⟩
  · obtain ⟨v, hv⟩ : ∃ v, v = M.val (l.take 8) := ⟨_, rfl⟩
    rw [← hv] at hb
    have HV := Lib.hid hv
    clear hv
    rcases hb with hb | hb
    · have d1 : decide (v < 0) = true := by simpa using hb
      go_enter Try.func119, Try.ntmps119
      go_wp2_with fail
      refine (pnum_ok P l A n c made bad w H.out hn).mono ?_
      rintro e w1 ⟨rfl, ⟨A', hp, _⟩, hg⟩
      rw [← HV.out]
      have HP := Lib.hid hp; have HG := Lib.hid hg
      clear hp hg
      go_wp2
      exact ⟨rfl, rfl, ⟨_, _, _, _, HP.out⟩, HG.out⟩
    · by_cases hv0 : v < 0
      · have d1 : decide (v < 0) = true := by simpa using hv0
        go_enter Try.func119, Try.ntmps119
        go_wp2_with fail
        refine (pnum_ok P l A n c made bad w H.out hn).mono ?_
        rintro e w1 ⟨rfl, ⟨A', hp, _⟩, hg⟩
        rw [← HV.out]
        have HP := Lib.hid hp; have HG := Lib.hid hg
        clear hp hg
        go_wp2
        exact ⟨rfl, rfl, ⟨_, _, _, _, HP.out⟩, HG.out⟩
      · have d1 : decide (v < 0) = false := by simpa using hv0
        have d2 : decide (most < v) = true := by simpa using hb
        go_enter Try.func119, Try.ntmps119
        go_wp2_with fail
        refine (pnum_ok P l A n c made bad w H.out hn).mono ?_
        rintro e w1 ⟨rfl, ⟨A', hp, _⟩, hg⟩
        rw [← HV.out]
        have HP := Lib.hid hp; have HG := Lib.hid hg
        clear hp hg
        go_wp2
        exact ⟨rfl, rfl, ⟨_, _, _, _, HP.out⟩, HG.out⟩

/-- bytes were read -/
def BytOk (w : World) (P : Nat) (l : List (BitVec 8)) (A : Option Addr) (made bad : Bool) (e : Ending) (w' : World) : Prop :=
  ∃ B m c' A' n2 c2 l', e = .returned (.slice B m c') ∧ w'.ownsRow w.heap.size 5 1 (.slice B m c') m (bv (M.rdBytes (some l)).1) ∧ (M.rdBytes (some l)).2 = some l' ∧ PrgR w' P l' A' n2 c2 made bad ∧ (∀ a', A' = some a' → ∃ a, A = some a ∧ a'.block = a.block) ∧ w.grownBy w' (some P)
theorem PrgR.grown {w w' : World} {P : Nat} {l : List (BitVec 8)} {A : Option Addr} {n c : Nat} {made bad : Bool} (h : PrgR w P l A n c made bad) {row : Option Nat} (hg : w.grownBy w' row) (hR : row ≠ some P) (hA : ∀ a, A = some a → row ≠ some a.block) : PrgR w' P l A n c made bad := by
  obtain ⟨t, hb⟩ := h.blk
  refine ⟨⟨t, (hg.block P (Array.getElem?_eq_some_iff.1 hb).1 (Ne.symm hR)).trans hb⟩, fun k hk => ?_, h.len, h.none, h.n_le, h.cap, h.ne, h.form⟩
  obtain ⟨b, o, e, hc⟩ := h.rd k hk
  exact ⟨b, o, e, hg.cell hc (Ne.symm (hA ⟨b, o, Option.none⟩ e))⟩

set_option maxHeartbeats 1000000 in
theorem bytes_bad (P : Nat) (l : List (BitVec 8)) (A : Option Addr) (n c : Nat) (made bad : Bool) (w : World) (h : PrgR w P l A n c made bad) (hb : (M.rdBytes (some l)).2 = none) :
    Calls Try.prog 120 #[.pointer (some ⟨P, 0, none⟩)] w (PBad w P made bad) := by
  have hlen := h.len
  have hga := World.grownBy_alloc w (.cells #[] 5)
  have h0 := h.grown (hga none) (by simp) (fun _ _ => by simp)
  have H0 := Lib.hid h0; have HGA := Lib.hid (hga (some P))
  clear h h0 hga
  rcases Nat.lt_or_ge n 8 with h8 | h8
  · go_enter Try.func120, Try.ntmps120
    go_wp2_with fail
    refine (pnum_bad' P l A n c made bad _ H0.out h8).mono ?_
    rintro e w1 ⟨rfl, hp, hg⟩
    have HP := Lib.hid hp; have HG := Lib.hid (grown_trans' HGA.out hg)
    clear hp hg
    go_wp2
    exact ⟨rfl, rfl, HP.out, HG.out⟩
  · have hv : M.val (l.take 8) < 0 ∨ ((n - 8 : Nat) : Int) < M.val (l.take 8) := by
      simp only [M.rdBytes, M.rdNumber] at hb
      rw [if_neg (by omega)] at hb
      simp only at hb
      split at hb
      · rename_i h'; rw [List.length_drop, hlen] at h'; exact h'
      · cases hb
    obtain ⟨v, hvv⟩ : ∃ v, v = M.val (l.take 8) := ⟨_, rfl⟩
    rw [← hvv] at hv
    have HV := Lib.hid hvv
    clear hvv hb hlen
    go_enter Try.func120, Try.ntmps120
    go_wp2_with fail
    refine (pnum_ok P l A n c made bad _ H0.out h8).mono ?_
    rintro e w1 ⟨rfl, ⟨A', hp, _⟩, hg⟩
    rw [← HV.out]
    have HP := Lib.hid hp; have HG := Lib.hid (grown_trans' HGA.out hg)
    clear hp hg
    go_wp2_with fail
    refine (take_bad P (l.drop 8) A' (n - 8) (c - 8) made bad v w1 HP.out hv).mono ?_
    rintro e w2 ⟨rfl, rfl⟩
    go_wp2
    exact ⟨rfl, rfl, ⟨_, _, _, _, HP.out⟩, HG.out⟩

theorem grown_more {w w2 w3 : World} {P X : Nat} (h : w.grownBy w2 (some P)) (h' : w2.grownBy w3 (some X)) (hX : w.heap.size ≤ X) : w.grownBy w3 (some P) :=
  ⟨h'.os.trans h.os, h'.tape.trans h.tape, h'.output.trans h.output, Nat.le_trans h.size h'.size, fun k hk hne => (h'.block k (Nat.lt_of_lt_of_le hk h.size) (by simp; omega)).trans (h.block k hk hne)⟩
theorem PrgR.lt {w : World} {P : Nat} {l : List (BitVec 8)} {A : Option Addr} {n c : Nat} {made bad : Bool} (h : PrgR w P l A n c made bad) : P < w.heap.size := by
  obtain ⟨t, hb⟩ := h.blk
  exact (Array.getElem?_eq_some_iff.1 hb).1

theorem away {w : World} {A0 A1 A2 : Option Addr} (h0 : ∀ a, A0 = some a → a.block < w.heap.size) (h1 : ∀ a', A1 = some a' → ∃ a, A0 = some a ∧ a'.block = a.block) (h2 : ∀ a', A2 = some a' → ∃ a, A1 = some a ∧ a'.block = a.block) : ∀ a, A2 = some a → some w.heap.size ≠ some a.block := by
  intro a e
  obtain ⟨a1, e1, g1⟩ := h2 a e
  obtain ⟨a0, e0, g0⟩ := h1 a1 e1
  have := h0 a0 e0
  simp; omega
set_option maxHeartbeats 1000000 in
set_option maxRecDepth 100000 in
theorem bytes_ok (P : Nat) (l : List (BitVec 8)) (A : Option Addr) (n c : Nat) (made bad : Bool) (w : World) (l' : List (BitVec 8)) (h : PrgR w P l A n c made bad) (hAB : ∀ a, A = some a → a.block < w.heap.size) (hb : (M.rdBytes (some l)).2 = some l') :
    Calls Try.prog 120 #[.pointer (some ⟨P, 0, none⟩)] w (BytOk w P l A made bad) := by
  obtain ⟨i0, hi, hz0, hz1, hz2⟩ := info_parts infoByte
  have hlen := h.len
  have hnl := h.n_le
  have hPl := h.lt
  have hga := World.grownBy_alloc w (.cells #[] 5)
  have h0 := h.grown (hga none) (by simp) (fun _ _ => by simp)
  have hrow := own_lit0 (w := w) (base := w.heap.size) (e := 5) (Nat.le_refl _)
  have hv : 8 ≤ n ∧ 0 ≤ M.val (l.take 8) ∧ M.val (l.take 8) ≤ ((n - 8 : Nat) : Int) ∧ M.rdBytes (some l) = ((l.drop 8).take (M.val (l.take 8)).toNat, some ((l.drop 8).drop (M.val (l.take 8)).toNat)) := by
    simp only [M.rdBytes, M.rdNumber] at hb ⊢
    by_cases h8 : l.length < 8
    · rw [if_pos h8] at hb; cases hb
    · rw [if_neg h8] at hb ⊢
      simp only at hb ⊢
      by_cases hc : M.val (l.take 8) < 0 ∨ ((l.drop 8).length : Int) < M.val (l.take 8)
      · rw [if_pos hc] at hb; cases hb
      · rw [if_neg hc]
        rw [List.length_drop, hlen] at hc
        exact ⟨by omega, by omega, by omega, rfl⟩
  obtain ⟨h8, hv0, hv1, hrb⟩ := hv
  obtain ⟨m, hm⟩ : ∃ m : Nat, M.val (l.take 8) = (m : Int) := ⟨(M.val (l.take 8)).toNat, by omega⟩
  rw [hm] at hrb hv1
  rw [Int.toNat_natCast] at hrb
  have hm1 : m ≤ n - 8 := by omega
  have HRB := Lib.hid hrb; have H0 := Lib.hid h0; have HGA := Lib.hid (hga (some P)); have HROW := Lib.hid hrow; have HM := Lib.hid hm; have HAB := Lib.hid hAB; have HLEN := Lib.hid hlen
  clear h h0 hga hrow hb hrb hm hv0 hv1 hAB hlen
  go_enter Try.func120, Try.ntmps120
  go_wp2_with fail
  refine (pnum_ok P l A n c made bad _ H0.out h8).mono ?_
  rintro e w1 ⟨rfl, ⟨A1, hp, hA1⟩, hg⟩
  rw [HM.out]
  have HP := Lib.hid hp; have HG := Lib.hid (grown_trans' HGA.out hg); have HA1 := Lib.hid hA1
  have HROW1 := Lib.hid (World.ownsRow.kept HROW.out hg (.inr (by simp [Value.ownBlock]; omega)))
  clear hp hg hA1 HROW
  go_wp2_with fail
  refine (take_ok P (l.drop 8) A1 (n - 8) (c - 8) made bad m w1 HP.out hm1).mono ?_
  rintro e w2 ⟨rfl, ⟨A2, hp2, hA2⟩, hg2, hrd2⟩
  have hcs := hrd2.cells
  have hlm : ((l.drop 8).take m).length = m := by have := HLEN.out; rw [List.length_take, List.length_drop]; omega
  have hl2 : (bv ((l.drop 8).take m)).length = m * 1 := by rw [bv_length, hlm]; omega
  have hnn : A1 = none → m = 0 ∧ c - 8 = 0 := fun e => ⟨by
    rw [e] at hrd2
    rw [hrd2.empty] at hlm; exact hlm.symm, HP.out.none e⟩
  have hs2 : w.heap.size ≤ w2.heap.size := Nat.le_trans HG.out.size hg2.size
  have HP2 := Lib.hid hp2; have HG2 := Lib.hid (grown_trans' HG.out hg2); have HA2 := Lib.hid hA2; have HCS := Lib.hid hcs; have HL2 := Lib.hid hl2; have HNN := Lib.hid hnn
  have HROW2 := Lib.hid (World.ownsRow.kept HROW1.out hg2 (.inr (by simp [Value.ownBlock]; omega)))
  clear hp2 hg2 hA2 hrd2 hcs hlm hl2 hnn HROW1 HP HG
  go_wp2_with (at_builtin; refine wpList_append_any _ rfl _ _ 29 rfl w.heap.size 5 i0 (.int .u8 0) 1 1 Try.underlying29 hi hz0 hz1 hz2 rfl (by decide) _ 0 (bv []) rfl HROW2.out A1 m (c - 8) (bv ((l.drop 8).take m)) rfl HNN.out HL2.out HCS.out (bv_one _) (by unfold maxLen; omega) (by omega) hs2 ?_; intro v3 w3 hown3 hgrow3; rw [← bv_append, List.nil_append, Nat.zero_add] at hown3; obtain ⟨B3, d3, rfl⟩ := row_slice hown3; have hgrow4 : w2.grownBy w3 (some w.heap.size) := hgrow3; have HG3 := Lib.hid (grown_more HG2.out hgrow4 (Nat.le_refl _)); have HP3 := Lib.hid (HP2.out.grown hgrow4 (fun e => by (cases e; omega)) (away HAB.out HA1.out HA2.out)); have HO3 := Lib.hid hown3; clear hown3 hgrow3 hgrow4)
  go_ret
  refine ⟨B3, m, d3, A2, _, _, (l.drop 8).drop m, rfl, by rw [HRB.out]; exact HO3.out, by rw [HRB.out], HP3.out, fun a e => ?_, HG3.out⟩
  obtain ⟨a1, e1, h1⟩ := HA2.out a e
  obtain ⟨a0, e0, h0⟩ := HA1.out a1 e1
  exact ⟨a0, e0, h1.trans h0⟩
end Go.Proofs.Ytdmpphioflcofaa.K
