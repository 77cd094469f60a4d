/- The contracts of slices.Clone for entries, of store's copied and Entries. -/
import Derived.Test.YtfpjmeknjhhakaaSqStoLift
import Derived.WalkSpells
namespace Go.Proofs.Ytfpjmeknjhhakaa.K
open Go Go.RowKit Go.Maps

/-- entries of a world: their cells and their data -/
def EvsIn (w : World) (A : Option Addr) (n c : Nat) (xs : List EV) : Prop := w.ownsRow 0 81 6 (.slice A n c) n (xs.flatMap EV.cells) ∧ xs.length = n ∧ ∀ x ∈ xs, RowRd w ⟨x.A, x.n, x.c⟩ x.e.data
theorem EvsIn.since {w w' : World} {A : Option Addr} {n c : Nat} {xs : List EV} (h : EvsIn w A n c xs) (hs : Since w w') : EvsIn w' A n c xs :=
  ⟨h.1.kept (grown_none_of_below hs) (by cases h : (Value.slice A n c).ownBlock <;> simp), h.2.1, fun x hx => Since.row hs (h.2.2 x hx)⟩
/-- a new list of entries -/
def evAcc (A : Option Addr) (n c : Nat) (xs : List EV) : Acc := ⟨.slice A n c, n, 81, 6, xs.flatMap EV.cells⟩
def CloneE (w : World) (n : Nat) (xs : List EV) (e : Ending) (w' : World) : Prop := ∃ A' c', e = .returned (.slice A' n c') ∧ Bank w w' [evAcc A' n c' xs]
theorem evs_one (xs : List EV) : ∀ u ∈ xs.flatMap EV.cells, u.oneCell' = true := by
  intro u hu
  obtain ⟨x, _, hu⟩ := List.mem_flatMap.1 hu
  exact entL_oneL _ _ _ _ _ _ _ _ u hu
set_option maxHeartbeats 2000000 in
set_option maxRecDepth 100000 in
theorem cloneE_any (A : Option Addr) (n c : Nat) (xs : List EV) (w : World) (h : EvsIn w A n c xs) (hn : n ≤ 1000000) :
    Calls Try.prog 128 #[.slice A n c] w (CloneE w n xs) := by
  have hA : (A = Option.none ∧ n = 0 ∧ c = 0 ∧ xs = []) ∨ ∃ g, A = some ⟨g, 0, Option.none⟩ := by
    rcases h.1.2 with ⟨h0, h3⟩ | ⟨g, cap, cur, hv, _⟩
    · simp only [Value.slice.injEq] at h0
      have h4 := h.2.1
      rw [h3] at h4
      exact .inl ⟨h0.1, h3, h0.2.2, List.eq_nil_of_length_eq_zero h4⟩
    · simp only [Value.slice.injEq, true_and] at hv
      exact .inr ⟨g, hv.1⟩
  have HE := Lib.hid h
  rcases hA with ⟨rfl, rfl, rfl, rfl⟩ | ⟨g, rfl⟩
  · have hnil := fun w => Lib.run_eql_slice_nil (P := Try.prog) w 66 81 Option.none 0 0 0 0 Try.underlying66
    clear h HE
    go_enter Try.func128, Try.ntmps128
    go_wp2
    go_ret
    exact ⟨none, 0, rfl, (Bank.nil (Below.refl _ _)).none _ _⟩
  · have hnil := fun w => Lib.run_eql_slice_nil (P := Try.prog) w 66 81 (some ⟨g, 0, Option.none⟩) n c 0 0 Try.underlying66
    have BKL := Lib.hid ((Bank.nil (Below.refl w.heap.size w)).made ((Below.refl _ _).alloc (Nat.le_refl _) (.cells #[] 81)) (World.ownsRow_lit (e := 81) (size := 6) w #[] 0 (Nat.le_refl _) (by unfold maxLen; omega) rfl))
    have hcell : ∀ j u, (xs.flatMap EV.cells)[j]? = some u → (w.alloc (.cells #[] 81)).cell? ((⟨g, 0, Option.none⟩ : Addr).add j) = some u := fun j u hu => cell_old _ (World.ownsRow.cells h.1 (g := g) rfl j u hu)
    have HC := Lib.hid hcell
    have HL := Lib.hid (show (xs.flatMap EV.cells).length = n * 6 by rw [evs_len, h.2.1])
    clear h HE hcell
    go_enter Try.func128, Try.ntmps128
    go_wp2_with (at_builtin; go_loud (refine wpList_append_bankG BKL.out rfl _ _ 66 rfl 81 _ 6 64 infoEntry Try.underlying66 rfl (by decide) 0 _ _ _ [] rfl rfl _ _ _ _ rfl HL.out HC.out (evs_one xs) (by unfold maxLen; omega) (by omega) ?_; intro A4 n4 c4 w4 hn4 hB4 _ _; dsimp only [List.set] at hB4; rw [List.nil_append] at hB4; have HB4 := Lib.hid hB4; have HN4 := Lib.hid hn4; clear hn4 hB4))
    go_ret
    have hn4 := HN4.out
    rw [Nat.zero_add] at hn4
    subst hn4
    exact ⟨A4, c4, rfl, HB4.out⟩
theorem evs_set (ys : List EV) (x : EV) (zs : List EV) (A' : Option Addr) (n' c' : Nat) : ((ys ++ x :: zs).flatMap EV.cells).set (ys.length * 6 + 5) (.slice A' n' c') = (ys ++ ⟨x.e, A', n', c'⟩ :: zs).flatMap EV.cells := by
  rw [List.flatMap_append, List.flatMap_append, List.set_append_right _ _ (by rw [evs_len]; omega), evs_len, show ys.length * 6 + 5 - ys.length * 6 = 5 by omega, List.flatMap_cons, List.flatMap_cons, List.set_append_left _ _ (by rw [x.cells_length]; omega)]
  rfl
def CopiedE (w : World) (n : Nat) (xs : List EV) (e : Ending) (w' : World) : Prop := ∃ A' c' ys, e = .returned (.slice A' n c') ∧ ys.length = n ∧ ys.map EV.e = xs.map EV.e ∧ Bank w w' (evAcc A' n c' ys :: evRows ys)
set_option maxHeartbeats 4000000 in
set_option maxRecDepth 100000 in
theorem copied_any (A : Option Addr) (n c : Nat) (xs : List EV) (w : World) (h : EvsIn w A n c xs) (hn : n ≤ 1000000) (hd : ∀ x ∈ xs, x.n ≤ 100000000) :
    Calls Try.prog 77 #[.slice A n c] w (CopiedE w n xs) := by
  have HE := Lib.hid h; have HD := Lib.hid hd
  have HC := Lib.hid (cloneE_any A n c xs w h hn)
  clear h hd
  go_enter Try.func77, Try.ntmps77
  go_wp2_with fail
  refine HC.out.mono ?_
  rintro e w1 ⟨A', c', rfl, hB⟩
  have H1 := Lib.hid hB
  clear hB HC
  go_wp2_with fail
  go_loopw [9] (fun i wr => ∃ (k : Nat) (ys : List EV), k ≤ n ∧ i = .int .i64 (k : Int) ∧ ys.length = k ∧ ys.map EV.e = (xs.take k).map EV.e ∧ Bank w wr (evAcc A' n c' (ys ++ xs.drop k) :: evRows ys)) (fun i _ => n - (intOf i).toNat)
  case atStart => exact ⟨0, [], by omega, rfl, rfl, rfl, H1.out⟩
  case round =>
    clear H1
    obtain ⟨k, ys, hk, rfl, hyl, hys, hB⟩ := hrel
    have k0 : (0 : Int) ≤ (k : Int) := by omega
    have HYL := Lib.hid hyl; have HYS := Lib.hid hys
    have H2 := Lib.hid hB
    rcases Nat.lt_or_ge k n with h1 | h1
    · have i1 : (k : Int) < (n : Int) := by omega
      have hkx : k < xs.length := by rw [HE.out.2.1]; exact h1
      obtain ⟨x, hx⟩ : ∃ x, x = xs[k] := ⟨_, rfl⟩
      have hdrop : xs.drop k = x :: xs.drop (k + 1) := by rw [List.drop_eq_getElem_cons hkx, hx]
      have ho := hB.at 0 rfl
      obtain ⟨g, rfl⟩ : ∃ g, A' = some ⟨g, 0, none⟩ := by
        rcases ho.2 with ⟨h0, _⟩ | ⟨g, cap, cur, hv, _⟩
        · replace h0 : Value.slice A' n c' = .slice none 0 0 := h0
          simp only [Value.slice.injEq] at h0
          omega
        · replace hv : Value.slice A' n c' = .slice (some ⟨g, 0, none⟩) n cap := hv
          simp only [Value.slice.injEq] at hv
          exact ⟨g, hv.1⟩
      have hc5 : wr.cell? ⟨g, k * 6 + 5, none⟩ = some (.slice x.A x.n x.c) := by
        rw [World.ownsRow.cellAt ho (k * 6 + 5) (by show _ < n * 6; omega)]
        show ((ys ++ xs.drop k).flatMap EV.cells)[k * 6 + 5]? = _
        rw [hdrop, flat6 (ys ++ x :: xs.drop (k + 1)) k 5 (by rw [List.length_append, List.length_cons]; omega) (by omega), List.getElem_append_right (by omega)]
        simp [hyl, EV.cells, entL]
      have hxm : x ∈ xs := by rw [hx]; exact List.getElem_mem hkx
      have HCL := Lib.hid (clone8_any x.A x.n x.c x.e.data wr (Since.row hB.since (HE.out.2.2 x hxm)) (by have := HD.out x hxm; omega))
      have HX := Lib.hid hx; have HDR := Lib.hid hdrop
      clear hB hyl hys ho hx hdrop
      go_wp2_with fail
      refine HCL.out.mono ?_
      rintro e w3 ⟨B, m, cB, rfl, hm, hob, hb⟩
      have h3 := H2.out.madeB hb hob
      have ho3 := h3.at 1 rfl
      obtain ⟨ho4, hg4⟩ := World.ownsRow.stored ho3 (k * 6 + 5) (.slice B m cB)
      have h4 := h3.put 1 rfl (p' := evAcc (some ⟨g, 0, none⟩) n c' ((ys ++ [EV.mk x.e B m cB]) ++ xs.drop (k + 1))) (by
        show World.ownsRow _ _ _ _ (.slice (some ⟨g, 0, none⟩) n c') n (((ys ++ [EV.mk x.e B m cB]) ++ xs.drop (k + 1)).flatMap EV.cells)
        have e1 : ((ys ++ [EV.mk x.e B m cB]) ++ xs.drop (k + 1)).flatMap EV.cells = ((ys ++ xs.drop k).flatMap EV.cells).set (k * 6 + 5) (.slice B m cB) := by
          rw [HDR.out, ← HYL.out, evs_set, List.append_assoc]
          rfl
        rw [e1]
        exact ho4) hg4 (.inl rfl)
      have hc5' : w3.cell? ⟨g, k * 6 + 5, none⟩ = some (.slice x.A x.n x.c) := (hb.cell (block_lt_of_cell hc5)).trans hc5
      have hz5 : w3.frozen? ⟨g, k * 6 + 5, none⟩ = false := World.ownsRow.frozenAt ho3 _
      have H4 := Lib.hid (show Bank w (w3.setCell ⟨g, k * 6 + 5, none⟩ (.slice B m cB)) (evAcc (some ⟨g, 0, none⟩) n c' ((ys ++ [EV.mk x.e B m cB]) ++ xs.drop (k + 1)) :: evRows (ys ++ [⟨x.e, B, m, cB⟩])) from by
        rw [evRows_snoc]
        exact ⟨h4.since, fun p hp => h4.own p (by simp only [List.set_cons_succ, List.set_cons_zero, List.mem_cons] at hp ⊢; rcases hp with h | h | h; exact .inr (.inl h); exact .inl h; exact .inr (.inr h)), by
          have h5 := h4.sep
          simp only [List.set_cons_succ, List.set_cons_zero] at h5
          exact (List.Perm.pairwise_iff (fun {_ _} h => Apartness.symm h) (List.Perm.swap _ _ _)).1 h5⟩)
      clear hm hob hb h3 ho3 ho4 hg4 h4 HCL hc5
      go_wp2_with fail
      go_roundw
      case rel =>
        refine ⟨k + 1, ys ++ [⟨x.e, B, m, cB⟩], by omega, by go_num, by rw [List.length_append, HYL.out]; rfl, ?_, H4.out⟩
        rw [List.map_append, HYS.out, List.take_succ_eq_append_getElem (by rw [HE.out.2.1]; exact h1), List.map_append, HX.out]
        rfl
      case measure => simp [intOf]; omega
    · have i1 : ¬ (k : Int) < (n : Int) := by omega
      obtain rfl : k = n := by omega
      clear hB hyl hys
      go_wp2
      go_ret
      refine ⟨A', c', ys, rfl, HYL.out, ?_, ?_⟩
      · rw [HYS.out, List.take_of_length_le (by rw [HE.out.2.1]; omega)]
      · have h := H2.out
        rw [List.drop_of_length_le (by rw [HE.out.2.1]; omega), List.append_nil] at h
        exact h
theorem SK.evs {w0 w : World} {D R : Nat} {room : Int} {o : Option Fil} {Z : Nat} {c : S.Cl} {A : Option Addr} {cE : Nat} {xs : List EV} {L : List Acc} (h : SK w0 w D R room o Z c A cE xs L) : EvsIn w A xs.length cE xs :=
  ⟨h.own, rfl, fun x hx => RowRd.of_row (h.dk.rest.own _ (.tail _ (.tail _ (List.mem_append_left _ (List.mem_map.2 ⟨x, by simpa using hx, rfl⟩)))))⟩
theorem SK.evn {w0 w : World} {D R : Nat} {room : Int} {o : Option Fil} {Z : Nat} {c : S.Cl} {A : Option Addr} {cE : Nat} {xs : List EV} {L : List Acc} (h : SK w0 w D R room o Z c A cE xs L) {m : Nat} (hm : ∀ e ∈ xs.map EV.e, e.data.length ≤ m) : ∀ x ∈ xs, x.n ≤ m := fun x hx => by
  have h1 : x.e.data.length = x.n := (h.evs.2.2 x hx).len
  have h2 := hm x.e (List.mem_map.2 ⟨x, hx, rfl⟩)
  omega
set_option maxHeartbeats 2000000 in
set_option maxRecDepth 100000 in
theorem sEnts_any (w : World) (Z D : Nat) (c : S.Cl) (A : Option Addr) (n cE : Nat) (xs : List EV) (h : StBox w Z D c A n cE) (hE : EvsIn w A n cE xs) (hn : n ≤ 1000000) (hd : ∀ x ∈ xs, x.n ≤ 100000000) :
    Calls Try.prog 38 #[.pointer (some ⟨Z, 0, none⟩)] w (CopiedE w n xs) := by
  have c5 := h.c5
  have HTH := Lib.hid (there_any Z D w h.c0)
  have HC := Lib.hid (copied_any A n cE xs w hE hn hd)
  clear h hE hd
  go_enter Try.func38, Try.ntmps38
  go_wp2_with (go_at_call 66; refine HTH.out.mono ?_; rintro e w' ⟨rfl, rfl⟩)
  refine HC.out.mono ?_
  rintro e w1 ⟨A', c', ys, rfl, h1, h2, h3⟩
  have HFIN := Lib.hid (show CopiedE w n xs (.returned (.slice A' n c')) w1 from ⟨A', c', ys, rfl, h1, h2, h3⟩)
  clear h1 h2 h3 HC HTH
  go_wp2
  go_ret
  exact HFIN.out
end Go.Proofs.Ytfpjmeknjhhakaa.K
