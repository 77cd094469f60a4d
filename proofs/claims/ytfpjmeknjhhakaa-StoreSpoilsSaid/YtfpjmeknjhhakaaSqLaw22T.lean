/- The contract of the law's light. -/
import Derived.Test.YtfpjmeknjhhakaaSqLaw22L
namespace Go.Proofs.Ytfpjmeknjhhakaa.K
open Go Go.RowKit Go.Maps

/-- one thing that is done -/
structure Deed where
  kind : Int
  cell : S.Cl
  a : Int
  es : List M.Ent
def lin (n : Nat) : List M.Ent → Nat
  | [] => n
  | e :: es => if n < 6000 then lin (n + 10 + min e.data.length 6000) es else n
def lout (n : Nat) : List Deed → Nat
  | [] => n
  | d :: ds => if n < 6000 then lout (lin n d.es) ds else n
def light (ds : List Deed) : Bool := decide (ds.length ≤ 60) && decide (lout 0 ds < 6000)
theorem lin_le (es : List M.Ent) : ∀ n, n ≤ 12010 → lin n es ≤ 12010 := by
  induction es with
  | nil => intro n h; exact h
  | cons e es ih =>
    intro n h
    unfold lin
    split
    · exact ih _ (by omega)
    · exact h
theorem lin_big (n : Nat) (es : List M.Ent) (h : ¬ n < 6000) : lin n es = n := by cases es <;> simp [lin, h]
theorem lout_big (n : Nat) (ds : List Deed) (h : ¬ n < 6000) : lout n ds = n := by cases ds <;> simp [lout, h]
/-- a deed in memory -/
def DeedAt (w : World) (b o : Nat) (d : Deed) : Prop := ∃ A n c, w.cell? ⟨b, o, none⟩ = some (.int .i64 d.kind) ∧ w.cell? ⟨b, o + 1, none⟩ = some (.int .i64 d.cell.term) ∧ w.cell? ⟨b, o + 2, none⟩ = some (.int .i64 d.cell.vote) ∧ w.cell? ⟨b, o + 3, none⟩ = some (.int .i64 d.cell.applied) ∧ w.cell? ⟨b, o + 4, none⟩ = some (.int .i64 d.cell.active) ∧ w.cell? ⟨b, o + 5, none⟩ = some (.int .i64 d.a) ∧ w.cell? ⟨b, o + 6, none⟩ = some (.slice A n c) ∧ EntsRd w A d.es ∧ d.es.length = n ∧ n ≤ 9000000000000
def DeedsRd (w : World) (A : Option Addr) (ds : List Deed) : Prop := ∀ i, (h : i < ds.length) → ∃ b o, A = some ⟨b, o, none⟩ ∧ DeedAt w b (o + i * 7) ds[i]
theorem cell_since {w w' : World} {a : Addr} {v : Value} (hs : Since w w') (h : w.cell? a = some v) : w'.cell? a = some v := (hs.cell (block_lt_of_cell h)).trans h
theorem DeedAt.since {w w' : World} {b o : Nat} {d : Deed} (h : DeedAt w b o d) (hs : Since w w') : DeedAt w' b o d := by
  obtain ⟨A, n, c, h0, h1, h2, h3, h4, h5, h6, h7, h8⟩ := h
  exact ⟨A, n, c, cell_since hs h0, cell_since hs h1, cell_since hs h2, cell_since hs h3, cell_since hs h4, cell_since hs h5, cell_since hs h6, h7.since hs, h8⟩
theorem DeedsRd.since {w w' : World} {A : Option Addr} {ds : List Deed} (h : DeedsRd w A ds) (hs : Since w w') : DeedsRd w' A ds := fun i hi => by
  obtain ⟨b, o, e, h1⟩ := h i hi
  exact ⟨b, o, e, h1.since hs⟩
set_option maxHeartbeats 4000000 in
set_option maxRecDepth 100000 in
theorem light_any (A : Option Addr) (n c : Nat) (ds : List Deed) (w : World) (h : DeedsRd w A ds) (hn : ds.length = n) (hn2 : n ≤ 9000000000000) :
    Calls Try.prog 34 #[.slice A n c] w fun e w' => e = .returned (.bool (light ds)) ∧ w = w' := by
  have HD := Lib.hid h; have HN := Lib.hid hn
  clear h hn
  go_enter Try.func34, Try.ntmps34
  go_wp2_with fail
  go_loop [3, 4] (fun v i => ∃ k m : Nat, k ≤ n ∧ m ≤ 12010 ∧ i = .int .i64 (k : Int) ∧ v = .int .i64 (m : Int) ∧ lout 0 ds = lout m (ds.drop k)) (fun _ i => n - (intOf i).toNat)
  case atStart => exact ⟨0, 0, by omega, by omega, rfl, rfl, by rw [List.drop_zero]⟩
  case round =>
    obtain ⟨k, m, hk, hm, rfl, rfl, hl⟩ := hrel
    have k0 : (0 : Int) ≤ (k : Int) := by omega
    have HL := Lib.hid hl
    clear hl
    by_cases h1 : k < n ∧ m < 6000
    · have i1 : (k : Int) < (n : Int) := by omega
      have i2 : (m : Int) < 6000 := by omega
      have hkd : k < ds.length := by rw [HN.out]; exact h1.1
      obtain ⟨b, o, rfl, A', n', c', _, _, _, _, _, _, x6, hE, hEl, hn'⟩ := HD.out k hkd
      obtain ⟨d, hd⟩ : ∃ d, d = ds[k] := ⟨_, rfl⟩
      rw [← hd] at hE hEl
      have hdrop : ds.drop k = d :: ds.drop (k + 1) := by rw [List.drop_eq_getElem_cons hkd, hd]
      have HDR := Lib.hid (show lout 0 ds = lout (lin m d.es) (ds.drop (k + 1)) by rw [HL.out, hdrop, lout, if_pos h1.2])
      have HE := Lib.hid hE; have HEL := Lib.hid hEl
      have h2 := h1.2
      clear hE hEl hd hdrop HL
      go_wp2_with fail
      go_loop [3, 5] (fun v i => ∃ j q : Nat, j ≤ n' ∧ q ≤ 12010 ∧ i = .int .i64 (j : Int) ∧ v = .int .i64 (q : Int) ∧ lin m d.es = lin q (d.es.drop j)) (fun _ i => n' - (intOf i).toNat)
      case atStart => exact ⟨0, m, by omega, hm, rfl, rfl, by rw [List.drop_zero]⟩
      case round =>
        obtain ⟨j, q, hj, hq, rfl, rfl, hl⟩ := hrel
        have j0 : (0 : Int) ≤ (j : Int) := by omega
        have HL := Lib.hid hl
        clear hl
        by_cases h3 : j < n' ∧ q < 6000
        · have i3 : (j : Int) < (n' : Int) := by omega
          have i4 : (q : Int) < 6000 := by omega
          have hje : j < d.es.length := by rw [HEL.out]; exact h3.1
          obtain ⟨b2, o2, rfl, B, nb, cb, ⟨_, _, _, _, _, y5⟩, hrd⟩ := HE.out j hje
          obtain ⟨en, hen⟩ : ∃ en, en = d.es[j] := ⟨_, rfl⟩
          rw [← hen] at hrd
          have hnb : en.data.length = nb := hrd.len
          have hdrop : d.es.drop j = en :: d.es.drop (j + 1) := by rw [List.drop_eq_getElem_cons hje, hen]
          have HDR2 := Lib.hid (show lin m d.es = lin (q + 10 + min nb 6000) (d.es.drop (j + 1)) by rw [HL.out, hdrop, lin, if_pos h3.2, hnb])
          clear hrd hen hdrop HL hnb
          rcases Nat.lt_or_ge 6000 nb with h5 | h5
          · have i5 : (6000 : Int) < (nb : Int) := by omega
            have i6 : ¬ (nb : Int) < 6000 := by omega
            go_wp2
            go_round
            case rel => exact ⟨j + 1, q + 10 + 6000, by omega, by omega, by go_num, by go_num, by rw [HDR2.out, Nat.min_eq_right (by omega)]⟩
            case measure => simp [intOf]; omega
          · have i5 : ¬ (6000 : Int) < (nb : Int) := by omega
            have i6 : (nb : Int) ≤ 6000 := by omega
            go_wp2
            go_round
            case rel => exact ⟨j + 1, q + 10 + nb, by omega, by omega, by go_num, by go_num, by rw [HDR2.out, Nat.min_eq_left (by omega)]⟩
            case measure => simp [intOf]; omega
        · have hq2 : lin m d.es = q := by
            rw [HL.out]
            rcases Nat.lt_or_ge q 6000 with h4 | h4
            · rw [List.drop_of_length_le (by rw [HEL.out]; omega)]; rfl
            · exact lin_big _ _ (by omega)
          have HQ2 := Lib.hid hq2
          clear hq2 HL
          by_cases h4 : j < n'
          · have i3 : (j : Int) < (n' : Int) := by omega
            have i4 : ¬ (q : Int) < 6000 := by omega
            go_wp2
            go_round
            case rel => exact ⟨k + 1, q, by omega, by omega, by go_num, rfl, by rw [HDR.out, HQ2.out]⟩
            case measure => simp [intOf]; omega
          · have i3 : ¬ (j : Int) < (n' : Int) := by omega
            go_wp2
            go_round
            case rel => exact ⟨k + 1, q, by omega, by omega, by go_num, rfl, by rw [HDR.out, HQ2.out]⟩
            case measure => simp [intOf]; omega
    · have hm2 : lout 0 ds = m := by
        rw [HL.out]
        rcases Nat.lt_or_ge m 6000 with h4 | h4
        · rw [List.drop_of_length_le (by rw [HN.out]; omega)]; rfl
        · exact lout_big _ _ (by omega)
      have HLT : Hid (light ds = (decide (n ≤ 60) && decide (m < 6000))) := Lib.hid (by rw [light, hm2, HN.out])
      clear hm2 HL
      by_cases h4 : k < n
      · have i1 : (k : Int) < (n : Int) := by omega
        have i2 : ¬ (m : Int) < 6000 := by omega
        have h5 : ¬ m < 6000 := by omega
        by_cases h6 : n ≤ 60
        · have i6 : (n : Int) ≤ 60 := by omega
          go_wp2
          go_ret
          refine ⟨?_, rfl⟩
          rw [HLT.out]
          simp [h5]
        · have i6 : ¬ (n : Int) ≤ 60 := by omega
          go_wp2
          go_ret
          refine ⟨?_, rfl⟩
          rw [HLT.out]
          simp [h5]
      · have i1 : ¬ (k : Int) < (n : Int) := by omega
        by_cases h6 : n ≤ 60
        · have i6 : (n : Int) ≤ 60 := by omega
          by_cases h7 : m < 6000
          · have i7 : (m : Int) < 6000 := by omega
            go_wp2
            go_ret
            refine ⟨?_, rfl⟩
            rw [HLT.out]
            simp [h6, h7]
          · have i7 : ¬ (m : Int) < 6000 := by omega
            go_wp2
            go_ret
            refine ⟨?_, rfl⟩
            rw [HLT.out]
            simp [h7]
        · have i6 : ¬ (n : Int) ≤ 60 := by omega
          go_wp2
          go_ret
          refine ⟨?_, rfl⟩
          rw [HLT.out]
          simp [h6]
end Go.Proofs.Ytfpjmeknjhhakaa.K
