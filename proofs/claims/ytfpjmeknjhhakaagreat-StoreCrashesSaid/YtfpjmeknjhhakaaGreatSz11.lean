/- Merged: Law22T, RefDo2, RefRf, RefEntry, RefPut22, FrRefPut, FrRefPut2, DeedCost. -/
import Derived.Test.YtfpjmeknjhhakaaGreatSz10
set_option linter.unusedVariables false
/- The contract of the law's light. -/
namespace Go.Proofs.YtfpjmeknjhhakaaGreat.K
open Go Go.RowKit Go.Maps

/-- one thing that is done -/
structure Deed where
  kind : Int
  cell : S.Cl
  a : Int
  es : List M.Ent
def lin (n : Nat) : List M.Ent → Nat
  | [] => n
  | e :: es => if n < 6000 then lin (n + 10 + min e.data.length 6000) es else n
def lout (n : Nat) : List Deed → Nat
  | [] => n
  | d :: ds => if n < 6000 then lout (lin n d.es) ds else n
def light (ds : List Deed) : Bool := decide (ds.length ≤ 60) && decide (lout 0 ds < 6000)
theorem lin_le (es : List M.Ent) : ∀ n, n ≤ 12010 → lin n es ≤ 12010 := by
  induction es with
  | nil => intro n h; exact h
  | cons e es ih =>
    intro n h
    unfold lin
    split
    · exact ih _ (by omega)
    · exact h
theorem lin_big (n : Nat) (es : List M.Ent) (h : ¬ n < 6000) : lin n es = n := by cases es <;> simp [lin, h]
theorem lout_big (n : Nat) (ds : List Deed) (h : ¬ n < 6000) : lout n ds = n := by cases ds <;> simp [lout, h]
/-- a deed in memory -/
def DeedAt (w : World) (b o : Nat) (d : Deed) : Prop := ∃ A n c, w.cell? ⟨b, o, none⟩ = some (.int .i64 d.kind) ∧ w.cell? ⟨b, o + 1, none⟩ = some (.int .i64 d.cell.term) ∧ w.cell? ⟨b, o + 2, none⟩ = some (.int .i64 d.cell.vote) ∧ w.cell? ⟨b, o + 3, none⟩ = some (.int .i64 d.cell.applied) ∧ w.cell? ⟨b, o + 4, none⟩ = some (.int .i64 d.cell.active) ∧ w.cell? ⟨b, o + 5, none⟩ = some (.int .i64 d.a) ∧ w.cell? ⟨b, o + 6, none⟩ = some (.slice A n c) ∧ EntsRd w A d.es ∧ d.es.length = n ∧ n ≤ 9000000000000
def DeedsRd (w : World) (A : Option Addr) (ds : List Deed) : Prop := ∀ i, (h : i < ds.length) → ∃ b o, A = some ⟨b, o, none⟩ ∧ DeedAt w b (o + i * 7) ds[i]
theorem cell_since {w w' : World} {a : Addr} {v : Value} (hs : Since w w') (h : w.cell? a = some v) : w'.cell? a = some v := (hs.cell (block_lt_of_cell h)).trans h
theorem DeedAt.since {w w' : World} {b o : Nat} {d : Deed} (h : DeedAt w b o d) (hs : Since w w') : DeedAt w' b o d := by
  obtain ⟨A, n, c, h0, h1, h2, h3, h4, h5, h6, h7, h8⟩ := h
  exact ⟨A, n, c, cell_since hs h0, cell_since hs h1, cell_since hs h2, cell_since hs h3, cell_since hs h4, cell_since hs h5, cell_since hs h6, h7.since hs, h8⟩
theorem DeedsRd.since {w w' : World} {A : Option Addr} {ds : List Deed} (h : DeedsRd w A ds) (hs : Since w w') : DeedsRd w' A ds := fun i hi => by
  obtain ⟨b, o, e, h1⟩ := h i hi
  exact ⟨b, o, e, h1.since hs⟩
set_option maxHeartbeats 4000000 in
set_option maxRecDepth 100000 in
theorem light_any (A : Option Addr) (n c : Nat) (ds : List Deed) (w : World) (h : DeedsRd w A ds) (hn : ds.length = n) (hn2 : n ≤ 9000000000000) :
    Calls Tryz.prog 6 #[.slice A n c] w fun e w' => e = .returned (.bool (light ds)) ∧ w = w' := by
  have HD := Lib.hid h; have HN := Lib.hid hn
  clear h hn
  go_enter Tryz.func6, Tryz.ntmps6
  go_wp2_with fail
  go_loop [3, 4] (fun v i => ∃ k m : Nat, k ≤ n ∧ m ≤ 12010 ∧ i = .int .i64 (k : Int) ∧ v = .int .i64 (m : Int) ∧ lout 0 ds = lout m (ds.drop k)) (fun _ i => n - (intOf i).toNat)
  case atStart => exact ⟨0, 0, by omega, by omega, rfl, rfl, by rw [List.drop_zero]⟩
  case round =>
    obtain ⟨k, m, hk, hm, rfl, rfl, hl⟩ := hrel
    have k0 : (0 : Int) ≤ (k : Int) := by omega
    have HL := Lib.hid hl
    clear hl
    by_cases h1 : k < n ∧ m < 6000
    · have i1 : (k : Int) < (n : Int) := by omega
      have i2 : (m : Int) < 6000 := by omega
      have hkd : k < ds.length := by rw [HN.out]; exact h1.1
      obtain ⟨b, o, rfl, A', n', c', _, _, _, _, _, _, x6, hE, hEl, hn'⟩ := HD.out k hkd
      obtain ⟨d, hd⟩ : ∃ d, d = ds[k] := ⟨_, rfl⟩
      rw [← hd] at hE hEl
      have hdrop : ds.drop k = d :: ds.drop (k + 1) := by rw [List.drop_eq_getElem_cons hkd, hd]
      have HDR := Lib.hid (show lout 0 ds = lout (lin m d.es) (ds.drop (k + 1)) by rw [HL.out, hdrop, lout, if_pos h1.2])
      have HE := Lib.hid hE; have HEL := Lib.hid hEl
      have h2 := h1.2
      clear hE hEl hd hdrop HL
      go_wp2_with fail
      go_loop [3, 5] (fun v i => ∃ j q : Nat, j ≤ n' ∧ q ≤ 12010 ∧ i = .int .i64 (j : Int) ∧ v = .int .i64 (q : Int) ∧ lin m d.es = lin q (d.es.drop j)) (fun _ i => n' - (intOf i).toNat)
      case atStart => exact ⟨0, m, by omega, hm, rfl, rfl, by rw [List.drop_zero]⟩
      case round =>
        obtain ⟨j, q, hj, hq, rfl, rfl, hl⟩ := hrel
        have j0 : (0 : Int) ≤ (j : Int) := by omega
        have HL := Lib.hid hl
        clear hl
        by_cases h3 : j < n' ∧ q < 6000
        · have i3 : (j : Int) < (n' : Int) := by omega
          have i4 : (q : Int) < 6000 := by omega
          have hje : j < d.es.length := by rw [HEL.out]; exact h3.1
          obtain ⟨b2, o2, rfl, B, nb, cb, ⟨_, _, _, _, _, y5⟩, hrd⟩ := HE.out j hje
          obtain ⟨en, hen⟩ : ∃ en, en = d.es[j] := ⟨_, rfl⟩
          rw [← hen] at hrd
          have hnb : en.data.length = nb := hrd.len
          have hdrop : d.es.drop j = en :: d.es.drop (j + 1) := by rw [List.drop_eq_getElem_cons hje, hen]
          have HDR2 := Lib.hid (show lin m d.es = lin (q + 10 + min nb 6000) (d.es.drop (j + 1)) by rw [HL.out, hdrop, lin, if_pos h3.2, hnb])
          clear hrd hen hdrop HL hnb
          rcases Nat.lt_or_ge 6000 nb with h5 | h5
          · have i5 : (6000 : Int) < (nb : Int) := by omega
            have i6 : ¬ (nb : Int) < 6000 := by omega
            go_wp2
            go_round
            case rel => exact ⟨j + 1, q + 10 + 6000, by omega, by omega, by go_num, by go_num, by rw [HDR2.out, Nat.min_eq_right (by omega)]⟩
            case measure => simp [intOf]; omega
          · have i5 : ¬ (6000 : Int) < (nb : Int) := by omega
            have i6 : (nb : Int) ≤ 6000 := by omega
            go_wp2
            go_round
            case rel => exact ⟨j + 1, q + 10 + nb, by omega, by omega, by go_num, by go_num, by rw [HDR2.out, Nat.min_eq_left (by omega)]⟩
            case measure => simp [intOf]; omega
        · have hq2 : lin m d.es = q := by
            rw [HL.out]
            rcases Nat.lt_or_ge q 6000 with h4 | h4
            · rw [List.drop_of_length_le (by rw [HEL.out]; omega)]; rfl
            · exact lin_big _ _ (by omega)
          have HQ2 := Lib.hid hq2
          clear hq2 HL
          by_cases h4 : j < n'
          · have i3 : (j : Int) < (n' : Int) := by omega
            have i4 : ¬ (q : Int) < 6000 := by omega
            go_wp2
            go_round
            case rel => exact ⟨k + 1, q, by omega, by omega, by go_num, rfl, by rw [HDR.out, HQ2.out]⟩
            case measure => simp [intOf]; omega
          · have i3 : ¬ (j : Int) < (n' : Int) := by omega
            go_wp2
            go_round
            case rel => exact ⟨k + 1, q, by omega, by omega, by go_num, rfl, by rw [HDR.out, HQ2.out]⟩
            case measure => simp [intOf]; omega
    · have hm2 : lout 0 ds = m := by
        rw [HL.out]
        rcases Nat.lt_or_ge m 6000 with h4 | h4
        · rw [List.drop_of_length_le (by rw [HN.out]; omega)]; rfl
        · exact lout_big _ _ (by omega)
      have HLT : Hid (light ds = (decide (n ≤ 60) && decide (m < 6000))) := Lib.hid (by rw [light, hm2, HN.out])
      clear hm2 HL
      by_cases h4 : k < n
      · have i1 : (k : Int) < (n : Int) := by omega
        have i2 : ¬ (m : Int) < 6000 := by omega
        have h5 : ¬ m < 6000 := by omega
        by_cases h6 : n ≤ 60
        · have i6 : (n : Int) ≤ 60 := by omega
          go_wp2
          go_ret
          refine ⟨?_, rfl⟩
          rw [HLT.out]
          simp [h5]
        · have i6 : ¬ (n : Int) ≤ 60 := by omega
          go_wp2
          go_ret
          refine ⟨?_, rfl⟩
          rw [HLT.out]
          simp [h5]
      · have i1 : ¬ (k : Int) < (n : Int) := by omega
        by_cases h6 : n ≤ 60
        · have i6 : (n : Int) ≤ 60 := by omega
          by_cases h7 : m < 6000
          · have i7 : (m : Int) < 6000 := by omega
            go_wp2
            go_ret
            refine ⟨?_, rfl⟩
            rw [HLT.out]
            simp [h6, h7]
          · have i7 : ¬ (m : Int) < 6000 := by omega
            go_wp2
            go_ret
            refine ⟨?_, rfl⟩
            rw [HLT.out]
            simp [h7]
        · have i6 : ¬ (n : Int) ≤ 60 := by omega
          go_wp2
          go_ret
          refine ⟨?_, rfl⟩
          rw [HLT.out]
          simp [h6]
end Go.Proofs.YtfpjmeknjhhakaaGreat.K

/- (made by genrefdo2.py) The contract of the reference store's Do. -/
namespace Go.Proofs.YtfpjmeknjhhakaaGreat.K
open Go Go.RowKit Go.Maps

/-- two may come up -/
theorem WL.two {P : Program} {md : Region.Mode} {ops : Array Oper} {Q : Exit → Act → World → Prop} {S : Array Bool → World → Prop} {i j : Nat} {oi oj : Oper} {fuel : Nat} {listed : Array Bool} {a : Act} {w : World} (hsh : ShutL md ops listed) (hr : Region.ready md ops listed = [i, j]) (hoi : ops[i]? = some oi) (hoj : ops[j]? = some oj)
    (h1 : ∀ K' : Act → World → Prop, Shut (∀ a w, S (listed.setIfInBounds i true) w → (ShutL md ops (listed.setIfInBounds i true) → S (listed.setIfInBounds i true) w → WL P md ops Q S fuel (listed.setIfInBounds i true) a w) → K' a w) → if Region.wanted oi (yielded ops a.tmps) = true then Oper.wp P oi a w K' Q else K' (a.put oi.dst undef) w)
    (h2 : ∀ K' : Act → World → Prop, Shut (∀ a w, S (listed.setIfInBounds j true) w → (ShutL md ops (listed.setIfInBounds j true) → S (listed.setIfInBounds j true) w → WL P md ops Q S fuel (listed.setIfInBounds j true) a w) → K' a w) → if Region.wanted oj (yielded ops a.tmps) = true then Oper.wp P oj a w K' Q else K' (a.put oj.dst undef) w) :
    WL P md ops Q S (fuel + 1) listed a w :=
  ⟨fun h0 => (by rw [hr] at h0; cases h0), fun k hk => by
    rw [hr] at hk
    rcases List.mem_cons.1 hk with rfl | hk
    · exact wpOp_step hoi (fun K' hK => h1 K' (fun a w hS hW => hK a w ⟨hS, (hW (hsh.set (by rw [hr]; exact List.mem_cons_self ..)) hS).out⟩))
    · obtain rfl := List.mem_singleton.1 hk
      exact wpOp_step hoj (fun K' hK => h2 K' (fun a w hS hW => hK a w ⟨hS, (hW (hsh.set (by rw [hr]; exact List.mem_cons_of_mem _ (List.mem_singleton.2 rfl))) hS).out⟩))⟩
set_option maxHeartbeats 8000000 in
set_option maxRecDepth 100000 in
theorem rDo_stand (w : World) (G : Nat) (c : S.Cl) (A : Option Addr) (n cE : Nat) (xs : List EV) (B0 : Option Addr) (m0 c0 : Nat) (d : List (BitVec 8)) (hM : RBox w G c A n cE) (hE : w.ownsRow 0 62 6 (.slice A n cE) n (xs.flatMap EV.cells)) (hn : xs.length = n) (hn2 : n ≤ 1000000) (hr : RowRd w ⟨B0, m0, c0⟩ d) (hm : m0 ≤ 1000000000) :
    Calls Tryz.prog 12 #[.pointer (some ⟨G, 0, none⟩), .agg #[.int .i64 2, .slice B0 m0 c0]] w (RDoPost w G c xs ⟨2, d⟩) := by
  have HM := Lib.hid hM; have HE := Lib.hid hE; have HN := Lib.hid hn
  have BK0 := Lib.hid ((Bank.nil (Below.refl w.heap.size w)).box #[.int .i64 2, .slice B0 m0 c0] 49 (by simp))
  have HR := Lib.hid (Since.row BK0.out.since hr)
  clear hM hr hE hn
  go_enter Tryz.func12, Tryz.ntmps12
  go_wp2_with fail
  have k0 := BK0.out.cell 0 rfl 0 rfl
  obtain ⟨F0, hF0⟩ : ∃ F0, F0 = w.heap.size := ⟨_, rfl⟩
  rw [← hF0] at k0 BK0
  rw [← hF0]
  generalize w.alloc (.cells #[.int .i64 2, .slice B0 m0 c0] 49) = wa at *
  refine (rNew_any B0 m0 c0 d wa HR.out (by omega)).mono ?_
  rintro e w2 ⟨R, Bd, cB0, rfl, hR, hq, hBd, hb⟩
  have H0 := Lib.hid (show Held w w2 (fun w s => RefN w R s Bd m0 cB0 d) (some d) R Bd _ from Held.start (Q := fun w s => RefN w R s Bd m0 cB0 d) BK0.out ⟨0, false, hq⟩ hb hR hq.lt hBd (fun w w' s row h hg hR hA => refN_grownS h hg hR hA))
  have k0 := H0.out.bank.cell 0 rfl 0 rfl
  clear hq hBd hb hR BK0 hF0
  obtain ⟨s0, hs0⟩ : ∃ s0 : M.Rdr, s0 = some d := ⟨_, rfl⟩
  obtain ⟨k, hk⟩ : ∃ n, n = (M.rdNumber s0).1 := ⟨_, rfl⟩
  obtain ⟨s1, hs1⟩ : ∃ s, s = (M.rdNumber s0).2 := ⟨_, rfl⟩
  obtain ⟨en, hen⟩ : ∃ en, en = (M.rdEntry s1).1 := ⟨_, rfl⟩
  obtain ⟨s2, hs2⟩ : ∃ s, s = (M.rdEntry s1).2 := ⟨_, rfl⟩
  have HRD := Lib.hid (show S.rdIE (some d) = (k, en, s2) by rw [← hs0]; simp only [S.rdIE, ← hs1, ← hk, hen, hs2])
  have HEN := Lib.hid (show M.rdEntry s1 = (en, s2) by rw [hen, hs2])
  have HK0 := Lib.hid (show (M.rdNumber s0).1 = k from hk.symm); have HS1 := Lib.hid (show (M.rdNumber s0).2 = s1 from hs1.symm)
  rw [← hs0] at H0
  clear hs0 hk hs1 hen hs2
  go_wp2_with fail
  refine (num_heldR H0.out).mono ?_
  rintro e u1 ⟨rfl, hH⟩
  rw [HS1.out] at hH
  rw [HK0.out]
  have H1 := Lib.hid hH
  clear hH H0 HS1 HK0 k0
  go_wp2_with fail
  refine (entry_heldS H1.out HEN.out).mono ?_
  rintro e u2 ⟨B, m, cB, rfl, hH⟩
  have H1' := Lib.hid (hH.box #[.int .i64 en.term, B8 en.kind, .int .i64 en.version, .int .i64 en.server, .bool en.good, .slice B m cB] 62 (by simp))
  clear hH H1 HEN
  go_wp2_with fail
  generalize u2.alloc (.cells #[.int .i64 en.term, B8 en.kind, .int .i64 en.version, .int .i64 en.server, .bool en.good, .slice B m cB] 62) = u3 at *
  generalize u2.heap.size = Y at *
  refine (done_heldR H1'.out).mono ?_
  rintro e v0 ⟨rfl, hH⟩
  have H2 := Lib.hid hH
  have SV := Lib.hid hH.bank.since
  clear hH H1'
  have z5 := (HM.out.since SV.out).c4
  have BAD : Hid (¬ (s2 = some [] ∧ 1 ≤ k ∧ k ≤ (n : Int) + 1) → RDoPost w G c xs ⟨2, d⟩ (.returned (.bool false)) v0) := Lib.hid (fun hb => .inl ⟨by
    unfold S.sdo S.sstand
    rw [if_neg (by simp), if_pos rfl, if_neg]
    rw [HRD.out, List.length_map, HN.out]
    exact hb, rfl, SV.out⟩)
  by_cases hs : s2 = some []
  rotate_left
  · have hd : decide (s2 = some []) = false := by simp [hs]
    rw [hd]
    have HFIN := Lib.hid (BAD.out (fun h => hs h.1))
    clear hs hd H2
    go_wp2
    go_ret
    exact HFIN.out
  have hd : decide (s2 = some []) = true := by simp [hs]
  rw [hd]
  have HS2 := Lib.hid hs
  clear hs hd
  have hwr : IntKind.i64.wrap ((n : Int) + 1) = (n : Int) + 1 := IntWalk.i64_in _ (by omega)
  by_cases h1 : k < 1
  · have HFIN := Lib.hid (BAD.out (fun h => by omega))
    clear BAD
    go_wp2
    go_ret
    exact HFIN.out
  by_cases h2 : (n : Int) + 1 < k
  · have HFIN := Lib.hid (BAD.out (fun h => by omega))
    clear BAD
    go_wp2
    go_ret
    exact HFIN.out
  obtain ⟨q, hq⟩ : ∃ q : Nat, k = (q : Int) + 1 := ⟨(k - 1).toNat, by omega⟩
  subst hq
  have hqn : q ≤ n := by omega
  clear BAD
  go_wp2_with fail
  have hA : (A = Option.none ∧ n = 0 ∧ cE = 0) ∨ ∃ g, A = some ⟨g, 0, Option.none⟩ ∧ n ≤ cE := by
    rcases HE.out.2 with ⟨h0, h3⟩ | ⟨g, cap, cur, hv, _, _, h3, _⟩
    · simp only [Value.slice.injEq] at h0
      exact .inl ⟨h0.1, h3, h0.2.2⟩
    · simp only [Value.slice.injEq, true_and] at hv
      exact .inr ⟨g, hv.1, by rw [hv.2]; exact h3⟩
  have hqc : q ≤ cE := by rcases hA with ⟨_, h3, h4⟩ | ⟨g, _, h3⟩ <;> omega
  have hsl : ∀ w, (Instr.slice 34 (.slice A n cE) Option.none (some (.int .i64 (q : Int))) Option.none).run Tryz.prog w = .ok (.slice A q cE) w := fun w =>
    run_cut2 Tryz.underlying34 (es := 6) (fun _ => by kernel_rfl) (hA.imp (fun h => h.1) (fun ⟨g, h, _⟩ => ⟨g, h⟩)) n cE q hqc w
  have hwq : IntKind.i64.wrap (q : Int) = (q : Int) := IntWalk.i64_in _ (by omega)
  have HNO : Hid (A = Option.none → q = 0 ∧ cE = 0) := Lib.hid (fun h => by
    rcases hA with ⟨_, h3, h4⟩ | ⟨g, h3, _⟩
    · exact ⟨by omega, h4⟩
    · rw [h] at h3; cases h3)
  have HPL := Lib.hid (show ((xs.take q).flatMap EV.cells).length = q * 6 by rw [evs_len, List.length_take, HN.out, Nat.min_eq_left hqn])
  have HPC : Hid (∀ ad, A = some ad → ∀ j u, ((xs.take q).flatMap EV.cells)[j]? = some u → v0.cell? (ad.add j) = some u) := Lib.hid (fun ad had j u hu => by
    have h1 := World.ownsRow.cells HE.out (g := ad.block) (by rw [had]; rfl) j u (evs_take xs q j u hu)
    rcases hA with ⟨h3, _⟩ | ⟨g, h3, _⟩
    · rw [had] at h3; cases h3
    · rw [had] at h3
      cases h3
      exact cell_since SV.out h1)
  have e0 := H2.out.bank.cell 0 rfl 0 rfl
  have e1 := H2.out.bank.cell 0 rfl 1 rfl
  have e2 := H2.out.bank.cell 0 rfl 2 rfl
  have e3 := H2.out.bank.cell 0 rfl 3 rfl
  have e4 := H2.out.bank.cell 0 rfl 4 rfl
  have e5 := H2.out.bank.cell 0 rfl 5 rfl
  have UPC : Hid (∀ w', Since v0 w' → w'.cell? ⟨G, 4, none⟩ = some (.slice A n cE) ∧ w'.cell? ⟨Y, 0, none⟩ = some (.int .i64 en.term) ∧ w'.cell? ⟨Y, 1, none⟩ = some (B8 en.kind) ∧ w'.cell? ⟨Y, 2, none⟩ = some (.int .i64 en.version) ∧ w'.cell? ⟨Y, 3, none⟩ = some (.int .i64 en.server) ∧ w'.cell? ⟨Y, 4, none⟩ = some (.bool en.good) ∧ w'.cell? ⟨Y, 5, none⟩ = some (.slice B m cB)) := Lib.hid (fun w' h => ⟨cell_since h z5, cell_since h e0, cell_since h e1, cell_since h e2, cell_since h e3, cell_since h e4, cell_since h e5⟩)
  have FIN : Hid (∀ A' c' w', Bank w w' (⟨.slice A' (q + 1) c', q + 1, 62, 6, ((xs.take q).flatMap EV.cells) ++ (entL en.term en.version en.server en.kind en.good B m cB)⟩ :: _) → RDoPost w G c xs ⟨2, d⟩ (.returned (.bool true)) (w'.setCell ⟨G, 4, none⟩ (.slice A' (q + 1) c'))) := Lib.hid (fun A' c' w' (h : Bank w w' (⟨.slice A' (q + 1) c', q + 1, 62, 6, ((xs.take q).flatMap EV.cells) ++ (entL en.term en.version en.server en.kind en.good B m cB)⟩ :: [boxAcc Y 62 [.int .i64 en.term, B8 en.kind, .int .i64 en.version, .int .i64 en.server, .bool en.good, .slice B m cB], rowAcc B m cB en.data, boxAcc F0 49 [.int .i64 2, .slice B0 m0 c0]])) => .inr (.inr ⟨w', q, A', c', en, B, m, cB, by
    unfold S.sdo S.sstand
    rw [if_neg (by simp), if_pos rfl, if_pos (by rw [HRD.out, List.length_map, HN.out]; exact ⟨HS2.out, by simp only; omega, by simp only; omega⟩), HRD.out]
    simp [List.map_take], by rw [HN.out]; exact hqn, rfl, by
      have e9 : evsAcc A' (q + 1) c' (xs.take q ++ [⟨en, B, m, cB⟩]) = ⟨.slice A' (q + 1) c', q + 1, 62, 6, ((xs.take q).flatMap EV.cells) ++ (entL en.term en.version en.server en.kind en.good B m cB)⟩ := by
        rw [evsAcc, List.flatMap_append]; simp [EV.cells]
      rw [e9]
      exact h.sub (.cons_cons _ (.cons _ (.cons_cons _ (.cons _ (List.Sublist.refl _))))), rfl⟩))
  have BV0 := Lib.hid (Bank.nil (Below.refl v0.heap.size v0))
  refine WL.region (SApp 15 (fun w' => w'.cell? ⟨G, 4, none⟩ = some (.slice A n cE) ∧ w'.cell? ⟨Y, 0, none⟩ = some (.int .i64 en.term) ∧ w'.cell? ⟨Y, 1, none⟩ = some (B8 en.kind) ∧ w'.cell? ⟨Y, 2, none⟩ = some (.int .i64 en.version) ∧ w'.cell? ⟨Y, 3, none⟩ = some (.int .i64 en.server) ∧ w'.cell? ⟨Y, 4, none⟩ = some (.bool en.good) ∧ w'.cell? ⟨Y, 5, none⟩ = some (.slice B m cB)) (fun _ => True)) (by kernel_rfl) ?_
  intro hsh
  have hS : SApp 15 (fun w' => w'.cell? ⟨G, 4, none⟩ = some (.slice A n cE) ∧ w'.cell? ⟨Y, 0, none⟩ = some (.int .i64 en.term) ∧ w'.cell? ⟨Y, 1, none⟩ = some (B8 en.kind) ∧ w'.cell? ⟨Y, 2, none⟩ = some (.int .i64 en.version) ∧ w'.cell? ⟨Y, 3, none⟩ = some (.int .i64 en.server) ∧ w'.cell? ⟨Y, 4, none⟩ = some (.bool en.good) ∧ w'.cell? ⟨Y, 5, none⟩ = some (.slice B m cB)) (fun _ => True) (Array.replicate 16 false) v0.drew := ⟨fun _ => ⟨z5, e0, e1, e2, e3, e4, e5⟩, trivial⟩
  clear hA h1 h2 hqc z5 e0 e1 e2 e3 e4 e5
  refine WL.take (i := 0) (v := ?_) (S0 := fun _ => True) rfl (by kernel_rfl) (by kernel_rfl) (by kernel_rfl) (fun _ _ _ h => h) (SApp.hm (by decide)) (SApp.any) hsh (Or.inl ⟨by rfl, ?_⟩) hS ?_
  rotate_left
  · intro w hSw; clear hSw; go_simp <;> rfl
  clear hsh hS; intro hsh hS
  try simp only [Act.put, List.setIfInBounds_toArray]
  refine WL.take (i := 2) (v := ?_) (S0 := fun _ => True) rfl (by kernel_rfl) (by kernel_rfl) (by kernel_rfl) (fun _ _ _ h => h) (SApp.hm (by decide)) (SApp.any) hsh (Or.inl ⟨by rfl, ?_⟩) hS ?_
  rotate_left
  · intro w hSw; clear hSw; go_simp <;> rfl
  clear hsh hS; intro hsh hS
  try simp only [Act.put]
  refine WL.take (i := 3) (v := ?_) (S0 := fun _ => True) rfl (by kernel_rfl) (by kernel_rfl) (by kernel_rfl) (fun _ _ _ h => h) (SApp.hm (by decide)) (SApp.any) hsh (Or.inl ⟨by rfl, ?_⟩) hS ?_
  rotate_left
  · intro w hSw; clear hSw; go_simp <;> rfl
  clear hsh hS; intro hsh hS
  try simp only [Act.put]
  refine WL.take (i := 4) (v := ?_) (S0 := fun _ => True) rfl (by kernel_rfl) (by kernel_rfl) (by kernel_rfl) (fun _ _ _ h => h) (SApp.hm (by decide)) (SApp.any) hsh (Or.inl ⟨by rfl, ?_⟩) hS ?_
  rotate_left
  · intro w hSw; clear hSw; go_simp <;> rfl
  clear hsh hS; intro hsh hS
  try simp only [Act.put]
  refine WL.take (i := 5) (v := ?_) rfl (by kernel_rfl) (by kernel_rfl) (by kernel_rfl) (fun _ _ _ h => h) (SApp.hm (by decide)) (SApp.both (by kernel_rfl)) hsh (Or.inl ⟨by rfl, ?_⟩) hS ?_
  rotate_left
  · intro w hSw; (have hc := hSw.1); clear hSw; go_simp <;> rfl
  clear hsh hS; intro hsh hS
  try simp only [Act.put]
  refine WL.take (i := 6) (v := ?_) (S0 := fun _ => True) rfl (by kernel_rfl) (by kernel_rfl) (by kernel_rfl) (fun _ _ _ h => h) (SApp.hm (by decide)) (SApp.any) hsh (Or.inl ⟨by rfl, ?_⟩) hS ?_
  rotate_left
  · intro w hSw; clear hSw; go_simp <;> rfl
  clear hsh hS; intro hsh hS
  try simp only [Act.put]
  refine WL.take (i := 7) (v := ?_) (S0 := fun _ => True) rfl (by kernel_rfl) (by kernel_rfl) (by kernel_rfl) (fun _ _ _ h => h) (SApp.hm (by decide)) (SApp.any) hsh (Or.inl ⟨by rfl, ?_⟩) hS ?_
  rotate_left
  · intro w hSw; clear hSw; go_simp <;> rfl
  clear hsh hS; intro hsh hS
  try simp only [Act.put]
  refine WL.take (i := 8) (v := ?_) (S0 := fun _ => True) rfl (by kernel_rfl) (by kernel_rfl) (by kernel_rfl) (fun _ _ _ h => h) (SApp.hm (by decide)) (SApp.any) hsh (Or.inl ⟨by rfl, ?_⟩) hS ?_
  rotate_left
  · intro w hSw; clear hSw; go_simp <;> rfl
  clear hsh hS; intro hsh hS
  try simp only [Act.put]
  refine WL.take (i := 10) (v := ?_) rfl (by kernel_rfl) (by kernel_rfl) (by kernel_rfl) (fun _ _ _ h => h) (SApp.hm (by decide)) (SApp.both (by kernel_rfl)) hsh (Or.inl ⟨by rfl, ?_⟩) hS ?_
  rotate_left
  · intro w hSw; (have hc := hSw.1); clear hSw; go_simp <;> rfl
  clear hsh hS; intro hsh hS
  try simp only [Act.put]
  have HSH := Lib.hid hsh
  clear hsh hS
  refine WL.two (i := 1) (j := 11) HSH.out (by kernel_rfl) rfl rfl ?_ ?_
  · clear HSH
    intro K hK
    have HK := Lib.hid hK
    clear hK
    go_simp
    have bv := BV0.out.made ((Below.refl _ _).alloc (Nat.le_refl _) (.cells #[] 62)) (World.ownsRow_lit (e := 62) (size := 6) _ #[] 0 (Nat.le_refl _) (by unfold maxLen; omega) rfl)
    have BV1 := Lib.hid bv
    clear bv
    refine HK.out _ _ (SApp.intro (fun _ => UPC.out _ BV1.out.drew.since) trivial) ?_
    clear K HK
    intro hsh hS
    try simp only [Act.put, List.setIfInBounds_toArray, List.set_cons_zero, List.set_cons_succ]
    have HSH := Lib.hid hsh
    clear hsh hS
    refine WL.two (i := 9) (j := 11) HSH.out (by kernel_rfl) rfl rfl ?_ ?_
    · clear HSH
      intro K hK
      have HK := Lib.hid hK
      clear hK
      refine step_append_src (BV1.out.drew) rfl (.tmp 64) (.tmp 71) 34 rfl 62 (.agg #[.int .i64 0, .int .u8 0, .int .i64 0, .int .i64 0, .bool false, .slice none 0 0]) 6 64 infoEntry Tryz.underlying34 rfl (by decide) 0 (some ⟨v0.heap.size, 0, none⟩) 0 0 [] rfl rfl A q cE ((xs.take q).flatMap EV.cells) rfl HNO.out HPL.out (fun ad had j u hu => cell_since (BV1.out.drew).since (HPC.out ad had j u hu)) (evs_one _) (by unfold maxLen; omega) (by omega) ?_
      intro A2 n2 c2 w2 hn hB
      dsimp only [List.set] at hB
      rw [List.nil_append] at hB
      rw [Nat.zero_add] at hn
      have hn2 := hn.symm
      subst hn2
      clear hn
      have BV2 := Lib.hid hB
      clear hB
      refine HK.out _ _ (SApp.intro (fun _ => UPC.out _ BV2.out.since) trivial) ?_
      clear K HK
      intro hsh hS
      try simp only [Act.put, List.setIfInBounds_toArray]
      have HSH := Lib.hid hsh
      clear hsh hS
      refine WL.one (i := 11) HSH.out (by kernel_rfl) rfl ?_
      clear HSH
      intro K hK
      have HK := Lib.hid hK
      clear hK
      go_simp
      have bv := BV2.out.made ((Below.refl _ _).alloc (Nat.le_refl _) (.cells #[.int .i64 en.term, B8 en.kind, .int .i64 en.version, .int .i64 en.server, .bool en.good, .slice B m cB] 62)) (World.ownsRow_lit (e := 62) (size := 6) _ #[.int .i64 en.term, B8 en.kind, .int .i64 en.version, .int .i64 en.server, .bool en.good, .slice B m cB] 1 (Nat.le_refl _) (by unfold maxLen; omega) rfl)
      have BV3 := Lib.hid bv
      clear bv
      refine HK.out _ _ (SApp.intro (fun _ => UPC.out _ BV3.out.since) trivial) ?_
      clear K HK
      intro hsh hS
      try simp only [Act.put, List.setIfInBounds_toArray, List.set_cons_zero, List.set_cons_succ]
      have HSH := Lib.hid hsh
      clear hsh hS
      refine WL.one (i := 12) HSH.out (by kernel_rfl) rfl ?_
      clear HSH
      intro K hK
      have HK := Lib.hid hK
      clear hK
      refine step_append_src (BV3.out) rfl (.tmp 72) (.tmp 74) 34 rfl 62 (.agg #[.int .i64 0, .int .u8 0, .int .i64 0, .int .i64 0, .bool false, .slice none 0 0]) 6 64 infoEntry Tryz.underlying34 rfl (by decide) 1 A2 q c2 ((xs.take q).flatMap EV.cells) rfl rfl (some ⟨w2.heap.size, 0, none⟩) 1 1 (entL en.term en.version en.server en.kind en.good B m cB) rfl (fun h => by cases h) rfl (fun ad had j u hu => by cases had; exact World.ownsRow.cells ((BV3.out).at 0 rfl) (g := w2.heap.size) rfl j u hu) (entL_oneL _ _ _ _ _ _ _ _) (by unfold maxLen; omega) (by omega) ?_
      intro A4 n4 c4 w4 hn hB
      dsimp only [List.set] at hB
      have BV4 := Lib.hid hB
      have HNF := Lib.hid hn
      clear hB hn
      refine HK.out _ _ (SApp.intro (fun _ => UPC.out _ BV4.out.since) trivial) ?_
      clear K HK
      intro hsh hS
      try simp only [Act.put, List.setIfInBounds_toArray]
      refine WL.take (i := 13) (v := ?_) (S0 := fun _ => True) rfl (by kernel_rfl) (by kernel_rfl) (by kernel_rfl) (fun _ _ _ h => h) (SApp.hm (by decide)) (SApp.any) hsh (Or.inl ⟨by rfl, ?_⟩) hS ?_
      rotate_left
      · intro w hSw; clear hSw; go_simp <;> rfl
      clear hsh hS; intro hsh hS
      try simp only [Act.put]
      refine WL.take (i := 14) (v := ?_) (S0 := fun _ => True) rfl (by kernel_rfl) (by kernel_rfl) (by kernel_rfl) (fun _ _ _ h => h) (SApp.hm (by decide)) (SApp.any) hsh (Or.inl ⟨by rfl, ?_⟩) hS ?_
      rotate_left
      · intro w hSw; clear hSw; go_simp <;> rfl
      clear hsh hS; intro hsh hS
      try simp only [Act.put]
      have hz := HM.out.since (SV.out.add BV4.out.since)
      have f4 := hz.free 4
      have z9 := hz.c4
      have HSH := Lib.hid hsh
      clear hsh hS hz
      refine WL.one (i := 15) HSH.out (by kernel_rfl) rfl ?_
      intro K hK
      have HK := Lib.hid hK
      clear hK
      go_simp
      refine HK.out _ _ (SApp.intro (fun h => (by cases h)) trivial) ?_
      clear K HK HSH
      intro _ _
      try simp only [Act.put, List.setIfInBounds_toArray, List.set_cons_zero, List.set_cons_succ]
      refine WL.done (by kernel_rfl) ?_ _
      simp only [Exit.then]
      have hn := HNF.out
      subst hn
      have bf := bank_underS H2.out.bank (BV4.out.sub (L' := [⟨.slice A4 (q + 1) c4, q + 1, 62, 6, ((xs.take q).flatMap EV.cells) ++ (entL en.term en.version en.server en.kind en.good B m cB)⟩]) (.cons _ (.cons_cons _ (List.Sublist.refl _))))
      have BF := Lib.hid bf
      have HFIN := Lib.hid (FIN.out A4 c4 w4 BF.out)
      clear bf BF BV4
      go_wp2
      go_ret
      exact HFIN.out
    · clear HSH
      intro K hK
      have HK := Lib.hid hK
      clear hK
      go_simp
      have bv := BV1.out.made ((Below.refl _ _).alloc (Nat.le_refl _) (.cells #[.int .i64 en.term, B8 en.kind, .int .i64 en.version, .int .i64 en.server, .bool en.good, .slice B m cB] 62)) (World.ownsRow_lit (e := 62) (size := 6) _ #[.int .i64 en.term, B8 en.kind, .int .i64 en.version, .int .i64 en.server, .bool en.good, .slice B m cB] 1 (Nat.le_refl _) (by unfold maxLen; omega) rfl)
      try rw [World.size_alloc] at bv
      have BV5 := Lib.hid bv
      clear bv
      refine HK.out _ _ (SApp.intro (fun _ => UPC.out _ BV5.out.drew.since) trivial) ?_
      clear K HK
      intro hsh hS
      try simp only [Act.put, List.setIfInBounds_toArray, List.set_cons_zero, List.set_cons_succ]
      have HSH := Lib.hid hsh
      clear hsh hS
      refine WL.one (i := 9) HSH.out (by kernel_rfl) rfl ?_
      clear HSH
      intro K hK
      have HK := Lib.hid hK
      clear hK
      refine step_append_src (BV5.out.drew) rfl (.tmp 64) (.tmp 71) 34 rfl 62 (.agg #[.int .i64 0, .int .u8 0, .int .i64 0, .int .i64 0, .bool false, .slice none 0 0]) 6 64 infoEntry Tryz.underlying34 rfl (by decide) 1 (some ⟨v0.heap.size, 0, none⟩) 0 0 [] rfl rfl A q cE ((xs.take q).flatMap EV.cells) rfl HNO.out HPL.out (fun ad had j u hu => cell_since (BV5.out.drew).since (HPC.out ad had j u hu)) (evs_one _) (by unfold maxLen; omega) (by omega) ?_
      intro A6 n6 c6 w6 hn hB
      dsimp only [List.set] at hB
      rw [List.nil_append] at hB
      rw [Nat.zero_add] at hn
      have hn2 := hn.symm
      subst hn2
      clear hn
      have BV6 := Lib.hid hB
      clear hB
      refine HK.out _ _ (SApp.intro (fun _ => UPC.out _ BV6.out.since) trivial) ?_
      clear K HK
      intro hsh hS
      try simp only [Act.put, List.setIfInBounds_toArray]
      have HSH := Lib.hid hsh
      clear hsh hS
      refine WL.one (i := 12) HSH.out (by kernel_rfl) rfl ?_
      clear HSH
      intro K hK
      have HK := Lib.hid hK
      clear hK
      refine step_append_src (BV6.out) rfl (.tmp 72) (.tmp 74) 34 rfl 62 (.agg #[.int .i64 0, .int .u8 0, .int .i64 0, .int .i64 0, .bool false, .slice none 0 0]) 6 64 infoEntry Tryz.underlying34 rfl (by decide) 1 A6 q c6 ((xs.take q).flatMap EV.cells) rfl rfl (some ⟨v0.heap.size + 1, 0, none⟩) 1 1 (entL en.term en.version en.server en.kind en.good B m cB) rfl (fun h => by cases h) rfl (fun ad had j u hu => by cases had; exact World.ownsRow.cells ((BV6.out).at 0 rfl) (g := v0.heap.size + 1) rfl j u hu) (entL_oneL _ _ _ _ _ _ _ _) (by unfold maxLen; omega) (by omega) ?_
      intro A7 n7 c7 w7 hn hB
      dsimp only [List.set] at hB
      have BV7 := Lib.hid hB
      have HNF := Lib.hid hn
      clear hB hn
      refine HK.out _ _ (SApp.intro (fun _ => UPC.out _ BV7.out.since) trivial) ?_
      clear K HK
      intro hsh hS
      try simp only [Act.put]
      refine WL.take (i := 13) (v := ?_) (S0 := fun _ => True) rfl (by kernel_rfl) (by kernel_rfl) (by kernel_rfl) (fun _ _ _ h => h) (SApp.hm (by decide)) (SApp.any) hsh (Or.inl ⟨by rfl, ?_⟩) hS ?_
      rotate_left
      · intro w hSw; clear hSw; go_simp <;> rfl
      clear hsh hS; intro hsh hS
      try simp only [Act.put]
      refine WL.take (i := 14) (v := ?_) (S0 := fun _ => True) rfl (by kernel_rfl) (by kernel_rfl) (by kernel_rfl) (fun _ _ _ h => h) (SApp.hm (by decide)) (SApp.any) hsh (Or.inl ⟨by rfl, ?_⟩) hS ?_
      rotate_left
      · intro w hSw; clear hSw; go_simp <;> rfl
      clear hsh hS; intro hsh hS
      try simp only [Act.put]
      have hz := HM.out.since (SV.out.add BV7.out.since)
      have f4 := hz.free 4
      have z9 := hz.c4
      have HSH := Lib.hid hsh
      clear hsh hS hz
      refine WL.one (i := 15) HSH.out (by kernel_rfl) rfl ?_
      intro K hK
      have HK := Lib.hid hK
      clear hK
      go_simp
      refine HK.out _ _ (SApp.intro (fun h => (by cases h)) trivial) ?_
      clear K HK HSH
      intro _ _
      try simp only [Act.put, List.setIfInBounds_toArray, List.set_cons_zero, List.set_cons_succ]
      refine WL.done (by kernel_rfl) ?_ _
      simp only [Exit.then]
      have hn := HNF.out
      subst hn
      have bf := bank_underS H2.out.bank (BV7.out.sub (L' := [⟨.slice A7 (q + 1) c7, q + 1, 62, 6, ((xs.take q).flatMap EV.cells) ++ (entL en.term en.version en.server en.kind en.good B m cB)⟩]) (.cons _ (.cons_cons _ (List.Sublist.refl _))))
      have BF := Lib.hid bf
      have HFIN := Lib.hid (FIN.out A7 c7 w7 BF.out)
      clear bf BF BV7
      go_wp2
      go_ret
      exact HFIN.out
  · clear HSH
    intro K hK
    have HK := Lib.hid hK
    clear hK
    go_simp
    have bv := BV0.out.made ((Below.refl _ _).alloc (Nat.le_refl _) (.cells #[.int .i64 en.term, B8 en.kind, .int .i64 en.version, .int .i64 en.server, .bool en.good, .slice B m cB] 62)) (World.ownsRow_lit (e := 62) (size := 6) _ #[.int .i64 en.term, B8 en.kind, .int .i64 en.version, .int .i64 en.server, .bool en.good, .slice B m cB] 1 (Nat.le_refl _) (by unfold maxLen; omega) rfl)
    have BV8 := Lib.hid bv
    clear bv
    refine HK.out _ _ (SApp.intro (fun _ => UPC.out _ BV8.out.drew.since) trivial) ?_
    clear K HK
    intro hsh hS
    try simp only [Act.put, List.setIfInBounds_toArray, List.set_cons_zero, List.set_cons_succ]
    have HSH := Lib.hid hsh
    clear hsh hS
    refine WL.one (i := 1) HSH.out (by kernel_rfl) rfl ?_
    clear HSH
    intro K hK
    have HK := Lib.hid hK
    clear hK
    go_simp
    have bv := BV8.out.made ((Below.refl _ _).alloc (Nat.le_refl _) (.cells #[] 62)) (World.ownsRow_lit (e := 62) (size := 6) _ #[] 0 (Nat.le_refl _) (by unfold maxLen; omega) rfl)
    try rw [World.size_alloc] at bv
    have BV9 := Lib.hid bv
    clear bv
    refine HK.out _ _ (SApp.intro (fun _ => UPC.out _ BV9.out.drew.since) trivial) ?_
    clear K HK
    intro hsh hS
    try simp only [Act.put, List.setIfInBounds_toArray, List.set_cons_zero, List.set_cons_succ]
    have HSH := Lib.hid hsh
    clear hsh hS
    refine WL.one (i := 9) HSH.out (by kernel_rfl) rfl ?_
    clear HSH
    intro K hK
    have HK := Lib.hid hK
    clear hK
    refine step_append_src (BV9.out.drew) rfl (.tmp 64) (.tmp 71) 34 rfl 62 (.agg #[.int .i64 0, .int .u8 0, .int .i64 0, .int .i64 0, .bool false, .slice none 0 0]) 6 64 infoEntry Tryz.underlying34 rfl (by decide) 0 (some ⟨v0.heap.size + 1, 0, none⟩) 0 0 [] rfl rfl A q cE ((xs.take q).flatMap EV.cells) rfl HNO.out HPL.out (fun ad had j u hu => cell_since (BV9.out.drew).since (HPC.out ad had j u hu)) (evs_one _) (by unfold maxLen; omega) (by omega) ?_
    intro A10 n10 c10 w10 hn hB
    dsimp only [List.set] at hB
    rw [List.nil_append] at hB
    rw [Nat.zero_add] at hn
    have hn2 := hn.symm
    subst hn2
    clear hn
    have BV10 := Lib.hid hB
    clear hB
    refine HK.out _ _ (SApp.intro (fun _ => UPC.out _ BV10.out.since) trivial) ?_
    clear K HK
    intro hsh hS
    try simp only [Act.put, List.setIfInBounds_toArray]
    have HSH := Lib.hid hsh
    clear hsh hS
    refine WL.one (i := 12) HSH.out (by kernel_rfl) rfl ?_
    clear HSH
    intro K hK
    have HK := Lib.hid hK
    clear hK
    refine step_append_src (BV10.out) rfl (.tmp 72) (.tmp 74) 34 rfl 62 (.agg #[.int .i64 0, .int .u8 0, .int .i64 0, .int .i64 0, .bool false, .slice none 0 0]) 6 64 infoEntry Tryz.underlying34 rfl (by decide) 0 A10 q c10 ((xs.take q).flatMap EV.cells) rfl rfl (some ⟨v0.heap.size, 0, none⟩) 1 1 (entL en.term en.version en.server en.kind en.good B m cB) rfl (fun h => by cases h) rfl (fun ad had j u hu => by cases had; exact World.ownsRow.cells ((BV10.out).at 1 rfl) (g := v0.heap.size) rfl j u hu) (entL_oneL _ _ _ _ _ _ _ _) (by unfold maxLen; omega) (by omega) ?_
    intro A11 n11 c11 w11 hn hB
    dsimp only [List.set] at hB
    have BV11 := Lib.hid hB
    have HNF := Lib.hid hn
    clear hB hn
    refine HK.out _ _ (SApp.intro (fun _ => UPC.out _ BV11.out.since) trivial) ?_
    clear K HK
    intro hsh hS
    try simp only [Act.put]
    refine WL.take (i := 13) (v := ?_) (S0 := fun _ => True) rfl (by kernel_rfl) (by kernel_rfl) (by kernel_rfl) (fun _ _ _ h => h) (SApp.hm (by decide)) (SApp.any) hsh (Or.inl ⟨by rfl, ?_⟩) hS ?_
    rotate_left
    · intro w hSw; clear hSw; go_simp <;> rfl
    clear hsh hS; intro hsh hS
    try simp only [Act.put]
    refine WL.take (i := 14) (v := ?_) (S0 := fun _ => True) rfl (by kernel_rfl) (by kernel_rfl) (by kernel_rfl) (fun _ _ _ h => h) (SApp.hm (by decide)) (SApp.any) hsh (Or.inl ⟨by rfl, ?_⟩) hS ?_
    rotate_left
    · intro w hSw; clear hSw; go_simp <;> rfl
    clear hsh hS; intro hsh hS
    try simp only [Act.put]
    have hz := HM.out.since (SV.out.add BV11.out.since)
    have f4 := hz.free 4
    have z9 := hz.c4
    have HSH := Lib.hid hsh
    clear hsh hS hz
    refine WL.one (i := 15) HSH.out (by kernel_rfl) rfl ?_
    intro K hK
    have HK := Lib.hid hK
    clear hK
    go_simp
    refine HK.out _ _ (SApp.intro (fun h => (by cases h)) trivial) ?_
    clear K HK HSH
    intro _ _
    try simp only [Act.put, List.setIfInBounds_toArray, List.set_cons_zero, List.set_cons_succ]
    refine WL.done (by kernel_rfl) ?_ _
    simp only [Exit.then]
    have hn := HNF.out
    subst hn
    have bf := bank_underS H2.out.bank (BV11.out.sub (L' := [⟨.slice A11 (q + 1) c11, q + 1, 62, 6, ((xs.take q).flatMap EV.cells) ++ (entL en.term en.version en.server en.kind en.good B m cB)⟩]) (.cons_cons _ (.cons _ (List.Sublist.refl _))))
    have BF := Lib.hid bf
    have HFIN := Lib.hid (FIN.out A11 c11 w11 BF.out)
    clear bf BF BV11
    go_wp2
    go_ret
    exact HFIN.out
end Go.Proofs.YtfpjmeknjhhakaaGreat.K

/- The reference store's Do, whatever the frame, and the store as accounts. -/
namespace Go.Proofs.YtfpjmeknjhhakaaGreat.K
open Go Go.RowKit Go.Maps

set_option maxHeartbeats 4000000 in
set_option maxRecDepth 100000 in
theorem rDo_other (w : World) (G : Nat) (c : S.Cl) (xs : List EV) (k : Int) (B0 : Option Addr) (m0 c0 : Nat) (d : List (BitVec 8)) (hr : RowRd w ⟨B0, m0, c0⟩ d) (hm : m0 ≤ 1000000000) (k1 : k ≠ 1) (k2 : k ≠ 2) :
    Calls Tryz.prog 12 #[.pointer (some ⟨G, 0, none⟩), .agg #[.int .i64 k, .slice B0 m0 c0]] w (RDoPost w G c xs ⟨k, d⟩) := by
  have BK0 := Lib.hid ((Bank.nil (Below.refl w.heap.size w)).box #[.int .i64 k, .slice B0 m0 c0] 49 (by simp))
  have HR := Lib.hid (Since.row BK0.out.since hr)
  clear hr
  go_enter Tryz.func12, Tryz.ntmps12
  go_wp2_with fail
  obtain ⟨F0, hF0⟩ : ∃ F0, F0 = w.heap.size := ⟨_, rfl⟩
  rw [← hF0] at BK0
  rw [← hF0]
  generalize w.alloc (.cells #[.int .i64 k, .slice B0 m0 c0] 49) = wa at *
  refine (rNew_any B0 m0 c0 d wa HR.out (by omega)).mono ?_
  rintro e w2 ⟨R, Bd, cB, rfl, hR, hq, hBd, hb⟩
  have BK2 := Lib.hid (BK0.out.call hb)
  have x0 := BK2.out.cell 0 rfl 0 rfl
  have HFIN := Lib.hid (show RDoPost w G c xs ⟨k, d⟩ (.returned (.bool false)) w2 from .inl ⟨by simp [S.sdo, k1, k2], rfl, BK2.out.since⟩)
  clear hq hBd hb hR BK0 hF0
  go_wp2
  go_ret
  exact HFIN.out
theorem rDo_any (w : World) (G : Nat) (c : S.Cl) (A : Option Addr) (n cE : Nat) (xs : List EV) (f : F.Fr) (B0 : Option Addr) (m0 c0 : Nat) (hM : RBox w G c A n cE) (hE : w.ownsRow 0 62 6 (.slice A n cE) n (xs.flatMap EV.cells)) (hn : xs.length = n) (hn2 : n ≤ 1000000) (hr : RowRd w ⟨B0, m0, c0⟩ f.data) (hm : m0 ≤ 1000000000) :
    Calls Tryz.prog 12 #[.pointer (some ⟨G, 0, none⟩), .agg #[.int .i64 f.kind, .slice B0 m0 c0]] w (RDoPost w G c xs f) := by
  obtain ⟨k, d⟩ := f
  by_cases k1 : k = 1
  · subst k1; exact rDo_set w G c A n cE xs B0 m0 c0 d hM hr hm
  by_cases k2 : k = 2
  · subst k2; exact rDo_stand w G c A n cE xs B0 m0 c0 d hM hE hn hn2 hr hm
  · exact rDo_other w G c xs k B0 m0 c0 d hr hm k1 k2
/-- the reference's store as accounts, ahead of the rest -/
def RfL (G : Nat) (c : S.Cl) (A : Option Addr) (cE : Nat) (xs : List EV) (L : List Acc) : List Acc := boxAcc G 36 (refCells c A xs.length cE) :: evsAcc A xs.length cE xs :: (evRows xs ++ L)
theorem rf_box {w0 w : World} {G : Nat} {c : S.Cl} {A : Option Addr} {cE : Nat} {xs : List EV} {L : List Acc} (h : Bank w0 w (RfL G c A cE xs L)) : RBox w G c A xs.length cE := (h.boxAt 0 rfl).2
theorem rf_own {w0 w : World} {G : Nat} {c : S.Cl} {A : Option Addr} {cE : Nat} {xs : List EV} {L : List Acc} (h : Bank w0 w (RfL G c A cE xs L)) : w.ownsRow 0 62 6 (.slice A xs.length cE) xs.length (xs.flatMap EV.cells) := row_base (h.at 1 rfl) (Nat.zero_le _)
theorem rf_rd {w0 w : World} {G : Nat} {c : S.Cl} {A : Option Addr} {cE : Nat} {xs : List EV} {L : List Acc} (h : Bank w0 w (RfL G c A cE xs L)) : EntsRd w A (xs.map EV.e) :=
  evs_rd (n := xs.length) (c := cE) h (.tail _ (.head _)) (fun x hx => .tail _ (.tail _ (List.mem_append_left _ (List.mem_map.2 ⟨x, by simpa using hx, rfl⟩)))) rfl
theorem rf_c {w0 w : World} {G : Nat} {c : S.Cl} {A : Option Addr} {cE : Nat} {xs : List EV} {L : List Acc} (h : Bank w0 w (RfL G c A cE xs L)) : RefC w G c A xs.length cE := ⟨h.cell 0 rfl 0 rfl, h.cell 0 rfl 1 rfl, h.cell 0 rfl 2 rfl, h.cell 0 rfl 3 rfl, h.cell 0 rfl 4 rfl⟩
theorem Bank.permS {w0 w : World} {L L' : List Acc} (h : Bank w0 w L) (hp : L.Perm L') : Bank w0 w L' := ⟨h.since, fun p hm => h.own p (hp.mem_iff.2 hm), (List.Perm.pairwise_iff (fun {_ _} h => Apartness.symm h) hp).1 h.sep⟩
/-- behind a frame -/
theorem rf_done {w0 w w' : World} {G : Nat} {c : S.Cl} {A : Option Addr} {cE : Nat} {xs : List EV} {L : List Acc} {f : F.Fr} {e : Ending} (h : Bank w0 w (RfL G c A cE xs L)) (hp : RDoPost w G c xs f e w') :
    (S.sdo ⟨c, xs.map EV.e⟩ f = none ∧ e = .returned (.bool false) ∧ Bank w0 w' (RfL G c A cE xs L)) ∨
    (∃ c' A' cE' xs', S.sdo ⟨c, xs.map EV.e⟩ f = some ⟨c', xs'.map EV.e⟩ ∧ xs'.length ≤ xs.length + 1 ∧ e = .returned (.bool true) ∧ Bank w0 w' (RfL G c' A' cE' xs' L)) := by
  rcases hp with ⟨h1, he, hs⟩ | ⟨c', w1, h1, he, hs, rfl⟩ | ⟨w1, q, A', cE', en, B, m, cB, h1, hq, he, hB, rfl⟩
  · exact .inl ⟨h1, he, h.call hs⟩
  · exact .inr ⟨c', A, cE, xs, h1, by omega, he, ((((h.call hs).boxSet 0 rfl 0 (.int .i64 c'.term)).boxSet 0 rfl 1 (.int .i64 c'.vote)).boxSet 0 rfl 2 (.int .i64 c'.applied)).boxSet 0 rfl 3 (.int .i64 c'.active)⟩
  · have hl : (xs.take q ++ [⟨en, B, m, cB⟩] : List EV).length = q + 1 := by simp; omega
    refine .inr ⟨c, A', cE', _, h1, by omega, he, ?_⟩
    have h2 : Bank w0 (w1.setCell ⟨G, 4, none⟩ (.slice A' (q + 1) cE')) ([evsAcc A' (q + 1) cE' (xs.take q ++ [⟨en, B, m, cB⟩]), rowAcc B m cB en.data] ++ boxAcc G 36 (refCells c A' (q + 1) cE') :: (evsAcc A xs.length cE xs :: (evRows xs ++ L))) := (bank_underS h hB).boxSet 2 rfl 4 (.slice A' (q + 1) cE')
    have h3 := (h2.permS (L' := boxAcc G 36 (refCells c A' (q + 1) cE') :: ([evsAcc A' (q + 1) cE' (xs.take q ++ [⟨en, B, m, cB⟩]), rowAcc B m cB en.data] ++ (evsAcc A xs.length cE xs :: (evRows xs ++ L)))) List.perm_middle).sub (L' := boxAcc G 36 (refCells c A' (q + 1) cE') :: evsAcc A' (q + 1) cE' (xs.take q ++ [⟨en, B, m, cB⟩]) :: ((rowAcc B m cB en.data :: evRows (xs.take q)) ++ L)) (.cons_cons _ (.cons_cons _ (.cons_cons _ (.cons _ ((evRows_take xs q).append (List.Sublist.refl _))))))
    show Bank w0 _ (boxAcc G _ (refCells c A' _ cE') :: evsAcc A' _ cE' _ :: (evRows _ ++ L))
    rw [hl, evRows_snoc]
    exact h3
end Go.Proofs.YtfpjmeknjhhakaaGreat.K

/- The contract of the reference's Entry. -/
namespace Go.Proofs.YtfpjmeknjhhakaaGreat.K
open Go Go.RowKit

theorem cells_row {w : World} {base : Nat} {e : TypeId} {g n c : Nat} {bs : List (BitVec 8)} (h : w.ownsRow base e 1 (.slice (some ⟨g, 0, none⟩) n c) n (bv bs)) : ∀ ad, some (⟨g, 0, none⟩ : Addr) = some ad → ∀ j u, (bv bs)[j]? = some u → w.cell? (ad.add j) = some u := (Rd.of_own h).cells

theorem fl_row {w : World} {base : Nat} {e : TypeId} {v : Value} {fl : Int} {G : Bool} {x : Int} (h : fl = M.flag G) (ho : w.ownsRow base e 1 v 8 (bv (M.num x))) (hx : x = M.flag G := by rfl) : w.ownsRow base e 1 v 8 (bv (M.num fl)) := by
  rw [h, ← hx]; exact ho
set_option maxHeartbeats 2000000 in
set_option maxRecDepth 100000 in
theorem rentry_any (t k v s : Int) (K : BitVec 8) (G : Bool) (A : Option Addr) (n c : Nat) (bs : List (BitVec 8)) (w : World) (hr : RowRd w ⟨A, n, c⟩ bs) (hn2 : n ≤ 1000000000000) (hk : k = (K.toNat : Int)) :
    Calls Tryz.prog 73 #[.agg #[.int .i64 t, B8 K, .int .i64 v, .int .i64 s, .bool G, .slice A n c]] w fun e w' => ∃ g N c', e = .returned (.slice (some ⟨g, 0, none⟩) N c') ∧ N = (M.ent ⟨t, K, v, s, G, bs⟩).length ∧ w'.ownsRow w.heap.size 5 1 (.slice (some ⟨g, 0, none⟩) N c') N (bv (M.ent ⟨t, K, v, s, G, bs⟩)) ∧ Below w.heap.size w w' := by
  obtain ⟨i0, hi, hz0, hz1, hz2⟩ := info_parts infoByte
  have hcv := fun w => conv_B8_int (P := Tryz.prog) w 60 3 K Tryz.underlying60 Tryz.underlying3
  rw [← hk] at hcv
  have hr0 : RowRd (w.alloc (.cells #[.int .i64 t, B8 K, .int .i64 v, .int .i64 s, .bool G, .slice A n c] 62)) ⟨A, n, c⟩ bs := hr.below ((Below.refl _ _).alloc (Nat.le_refl _) _)
  have hlen : bs.length = n := hr.len
  have HR := Lib.hid hr0; have HK := Lib.hid hk; have HLEN := Lib.hid hlen
  clear hr hk hr0 hlen
  have x0 : (w.alloc (.cells #[.int .i64 t, B8 K, .int .i64 v, .int .i64 s, .bool G, .slice A n c] 62)).cell? ⟨w.heap.size, 0, none⟩ = some (.int .i64 t) := by rw [World.cell?_alloc_new]; rfl
  have x1 : (w.alloc (.cells #[.int .i64 t, B8 K, .int .i64 v, .int .i64 s, .bool G, .slice A n c] 62)).cell? ⟨w.heap.size, 1, none⟩ = some (B8 K) := by rw [World.cell?_alloc_new]; rfl
  have x2 : (w.alloc (.cells #[.int .i64 t, B8 K, .int .i64 v, .int .i64 s, .bool G, .slice A n c] 62)).cell? ⟨w.heap.size, 2, none⟩ = some (.int .i64 v) := by rw [World.cell?_alloc_new]; rfl
  have x3 : (w.alloc (.cells #[.int .i64 t, B8 K, .int .i64 v, .int .i64 s, .bool G, .slice A n c] 62)).cell? ⟨w.heap.size, 3, none⟩ = some (.int .i64 s) := by rw [World.cell?_alloc_new]; rfl
  have x4 : (w.alloc (.cells #[.int .i64 t, B8 K, .int .i64 v, .int .i64 s, .bool G, .slice A n c] 62)).cell? ⟨w.heap.size, 4, none⟩ = some (.bool G) := by rw [World.cell?_alloc_new]; rfl
  have x5 : (w.alloc (.cells #[.int .i64 t, B8 K, .int .i64 v, .int .i64 s, .bool G, .slice A n c] 62)).cell? ⟨w.heap.size, 5, none⟩ = some (.slice A n c) := by rw [World.cell?_alloc_new]; rfl
  have hb0 : Below w.heap.size w (w.alloc (.cells #[.int .i64 t, B8 K, .int .i64 v, .int .i64 s, .bool G, .slice A n c] 62)) := (Below.refl _ _).alloc (Nat.le_refl _) _
  have hs0 : w.heap.size < (w.alloc (.cells #[.int .i64 t, B8 K, .int .i64 v, .int .i64 s, .bool G, .slice A n c] 62)).heap.size := by simp
  have X0 := Lib.hid x0; have X1 := Lib.hid x1; have X2 := Lib.hid x2; have X3 := Lib.hid x3; have X4 := Lib.hid x4; have X5 := Lib.hid x5; have HB0 := Lib.hid hb0
  clear x0 x1 x2 x3 x4 x5 hb0
  obtain ⟨fl, hfl⟩ : ∃ fl, fl = M.flag G := ⟨_, rfl⟩
  have HFL := Lib.hid hfl
  have hent : M.ent ⟨t, K, v, s, G, bs⟩ = M.num t ++ M.num k ++ M.num v ++ M.num s ++ M.num fl ++ M.blob bs := by rw [HK.out, HFL.out]; rfl
  have HENT := Lib.hid hent
  clear hfl hent
  cases G
  all_goals
    have y0 := X0.out
    have y4 := X4.out
    go_enter Tryz.func73, Tryz.ntmps73
    go_wp2_with fail
    clear y0 y4
    generalize World.alloc w _ = w0 at *
    have HFE := HFL
    refine (rnum_any t _).mono ?_
    rintro e w1 ⟨g1, c1, rfl, ho1, hb1⟩
    have HO1 := Lib.hid ho1; have HB1 := Lib.hid hb1
    have hs1 := hb1.size
    clear ho1 hb1
    have y : w1.cell? ⟨w.heap.size, 1, none⟩ = some (B8 K) := (HB1.out.cell (p := ⟨w.heap.size, 1, none⟩) hs0).trans X1.out
    go_wp2_with fail
    refine (rnum_any k _).mono ?_
    rintro e w2 ⟨g2, c2, rfl, ho2, hb2⟩
    have HO2 := Lib.hid (row_kept HO1.out hb2); have HB2 := Lib.hid (HB1.out.trans (hb2.mono HB1.out.size)); have HC2 := Lib.hid (cells_row ho2)
    have hs2 := HB2.out.size
    clear ho2 hb2 HO1 HB1 y
    go_wp2_with (at_builtin; refine wpList_append_any _ rfl _ _ 37 rfl w0.heap.size 5 i0 (.int .u8 0) 1 1 Tryz.underlying37 hi hz0 hz1 hz2 rfl (by decide) _ 8 (bv (M.num t)) rfl HO2.out (some ⟨g2, 0, none⟩) 8 c2 (bv (M.num k)) rfl (fun h => by cases h) rfl HC2.out (bv_one _) (by unfold maxLen; omega) (by omega) hs2 ?_; intro v3 w3 hown hgrow; rw [← bv_append] at hown; obtain ⟨g3, c3, rfl, _, _⟩ := hown.form (by omega); have hb3 := HB2.out.grown hgrow hs2 (fun k hk => (HO2.out.lt k hk).1); have HO3 := Lib.hid hown; have HB3 := Lib.hid hb3; have hs3 := hb3.size; clear hown hgrow hb3 HO2 HB2 HC2; have y : w3.cell? ⟨w.heap.size, 2, none⟩ = some (.int .i64 v) := (HB3.out.cell (p := ⟨w.heap.size, 2, none⟩) hs0).trans X2.out)
    go_wp2_with fail
    refine (rnum_any v _).mono ?_
    rintro e w4 ⟨g4, c4, rfl, ho4, hb4⟩
    have HO4 := Lib.hid (row_kept HO3.out hb4); have HB4 := Lib.hid (HB3.out.trans (hb4.mono HB3.out.size)); have HC4 := Lib.hid (cells_row ho4)
    have hs4 := HB4.out.size
    clear ho4 hb4 HO3 HB3 y
    go_wp2_with (at_builtin; refine wpList_append_any _ rfl _ _ 37 rfl w0.heap.size 5 i0 (.int .u8 0) 1 1 Tryz.underlying37 hi hz0 hz1 hz2 rfl (by decide) _ 16 (bv (M.num t ++ M.num k)) rfl HO4.out (some ⟨g4, 0, none⟩) 8 c4 (bv (M.num v)) rfl (fun h => by cases h) rfl HC4.out (bv_one _) (by unfold maxLen; omega) (by omega) hs4 ?_; intro v5 w5 hown hgrow; rw [← bv_append] at hown; obtain ⟨g5, c5, rfl, _, _⟩ := hown.form (by omega); have hb5 := HB4.out.grown hgrow hs4 (fun k hk => (HO4.out.lt k hk).1); have HO5 := Lib.hid hown; have HB5 := Lib.hid hb5; have hs5 := hb5.size; clear hown hgrow hb5 HO4 HB4 HC4; have y : w5.cell? ⟨w.heap.size, 3, none⟩ = some (.int .i64 s) := (HB5.out.cell (p := ⟨w.heap.size, 3, none⟩) hs0).trans X3.out)
    go_wp2_with fail
    refine (rnum_any s _).mono ?_
    rintro e w6 ⟨g6, c6, rfl, ho6, hb6⟩
    have HO6 := Lib.hid (row_kept HO5.out hb6); have HB6 := Lib.hid (HB5.out.trans (hb6.mono HB5.out.size)); have HC6 := Lib.hid (cells_row ho6)
    have hs6 := HB6.out.size
    clear ho6 hb6 HO5 HB5 y
    go_wp2_with (at_builtin; refine wpList_append_any _ rfl _ _ 37 rfl w0.heap.size 5 i0 (.int .u8 0) 1 1 Tryz.underlying37 hi hz0 hz1 hz2 rfl (by decide) _ 24 (bv (M.num t ++ M.num k ++ M.num v)) rfl HO6.out (some ⟨g6, 0, none⟩) 8 c6 (bv (M.num s)) rfl (fun h => by cases h) rfl HC6.out (bv_one _) (by unfold maxLen; omega) (by omega) hs6 ?_; intro v7 w7 hown hgrow; rw [← bv_append] at hown; obtain ⟨g7, c7, rfl, _, _⟩ := hown.form (by omega); have hb7 := HB6.out.grown hgrow hs6 (fun k hk => (HO6.out.lt k hk).1); have HO7 := Lib.hid hown; have HB7 := Lib.hid hb7; have hs7 := hb7.size; clear hown hgrow hb7 HO6 HB6 HC6)
    go_wp2_with fail
    refine (rnum_any _ _).mono ?_
    rintro e w8 ⟨g8, c8, rfl, ho8, hb8⟩
    replace ho8 := fl_row HFE.out ho8
    have HO8 := Lib.hid (row_kept HO7.out hb8); have HB8 := Lib.hid (HB7.out.trans (hb8.mono HB7.out.size)); have HC8 := Lib.hid (cells_row ho8)
    have hs8 := HB8.out.size
    clear ho8 hb8 HO7 HB7
    go_wp2_with (at_builtin; refine wpList_append_any _ rfl _ _ 37 rfl w0.heap.size 5 i0 (.int .u8 0) 1 1 Tryz.underlying37 hi hz0 hz1 hz2 rfl (by decide) _ 32 (bv (M.num t ++ M.num k ++ M.num v ++ M.num s)) rfl HO8.out (some ⟨g8, 0, none⟩) 8 c8 (bv (M.num fl)) rfl (fun h => by cases h) rfl HC8.out (bv_one _) (by unfold maxLen; omega) (by omega) hs8 ?_; intro v9 w9 hown hgrow; rw [← bv_append] at hown; obtain ⟨g9, c9, rfl, _, _⟩ := hown.form (by omega); have hb9 := HB8.out.grown hgrow hs8 (fun k hk => (HO8.out.lt k hk).1); have HO9 := Lib.hid hown; have HB9 := Lib.hid hb9; have hs9 := hb9.size; clear hown hgrow hb9 HO8 HB8 HC8; have y : w9.cell? ⟨w.heap.size, 5, none⟩ = some (.slice A n c) := (HB9.out.cell (p := ⟨w.heap.size, 5, none⟩) hs0).trans X5.out)
    go_wp2_with fail
    refine (rbytes_any A n c bs _ (HR.out.below HB9.out) (by omega)).mono ?_
    rintro e w10 ⟨g10, N10, c10, rfl, hN10, ho10, hb10⟩
    have HN10 := Lib.hid hN10
    have hNb : N10 ≤ 2000000000000 := by omega
    have HO10 := Lib.hid (row_kept HO9.out hb10); have HB10 := Lib.hid (HB9.out.trans (hb10.mono HB9.out.size)); have HC10 := Lib.hid (cells_row ho10)
    have hl10 : (bv (M.blob bs)).length = N10 * 1 := ho10.1
    have HL10 := Lib.hid hl10
    have hs10 := HB10.out.size
    clear ho10 hb10 hN10 hl10 y HO9 HB9
    go_wp2_with (at_builtin; refine wpList_append_any _ rfl _ _ 37 rfl w0.heap.size 5 i0 (.int .u8 0) 1 1 Tryz.underlying37 hi hz0 hz1 hz2 rfl (by decide) _ 40 (bv (M.num t ++ M.num k ++ M.num v ++ M.num s ++ M.num fl)) rfl HO10.out (some ⟨g10, 0, none⟩) N10 c10 (bv (M.blob bs)) rfl (fun h => by cases h) HL10.out HC10.out (bv_one _) (by unfold maxLen; omega) (by omega) hs10 ?_; intro v11 w11 hown hgrow; rw [← bv_append] at hown; obtain ⟨g11, c11, rfl, _, _⟩ := hown.form (by omega); have hb11 := HB10.out.grown hgrow hs10 (fun k hk => (HO10.out.lt k hk).1); have HO11 := Lib.hid hown; have HB11 := Lib.hid hb11; clear hown hgrow hb11 HO10 HB10 HC10)
    go_ret
    refine ⟨g11, 40 + N10, c11, rfl, ?_, ?_, HB0.out.trans (HB11.out.mono (Nat.le_of_lt hs0))⟩
    · rw [HENT.out]
      have := HN10.out; have := HLEN.out
      simp [M.num_length, M.blob_length]; omega
    · rw [HENT.out]
      exact row_weaken HO11.out (Nat.le_of_lt hs0)
end Go.Proofs.YtfpjmeknjhhakaaGreat.K

/- (made by genrput22.py) The contracts of the reference's Put and Kept: frames. -/
namespace Go.Proofs.YtfpjmeknjhhakaaGreat.K
open Go Go.RowKit Go.Maps

theorem infoFrameR : (Tryz.prog.info? 49).map (·.size) = some 2 := by kernel_rfl
/-- a frame that was made -/
def FrameP (w : World) (f : F.Fr) (e : Ending) (w' : World) : Prop := ∃ A n c, e = .returned (.agg #[.int .i64 f.kind, .slice A n c]) ∧ n = f.data.length ∧ Bank w w' [rowAcc A n c f.data]
theorem rentry_madeS {e : M.Ent} {A : Option Addr} {n c : Nat} {w : World} (hr : RowRd w ⟨A, n, c⟩ e.data) (hn : n ≤ 1000000000000) : Calls Tryz.prog 73 #[.agg #[.int .i64 e.term, B8 e.kind, .int .i64 e.version, .int .i64 e.server, .bool e.good, .slice A n c]] w (Made w (M.ent e)) :=
  (rentry_any e.term (e.kind.toNat : Int) e.version e.server e.kind e.good A n c e.data w hr hn rfl).mono fun _ _ ⟨g, N, c', he, hN, ho, hb⟩ => ⟨g, N, c', he, hN, ho, hb⟩
theorem rnum_madeS (n : Int) (w : World) : Calls Tryz.prog 66 #[.int .i64 n] w (Made w (M.num n)) :=
  (rnum_any n w).mono fun _ _ ⟨g, c, he, ho, hb⟩ => ⟨g, 8, c, he, (M.num_length n).symm, ho, hb⟩
def EntB (w : World) (X : Nat) (x : M.Ent) (A : Option Addr) (n c : Nat) : Prop := w.cell? ⟨X, 0, none⟩ = some (.int .i64 x.term) ∧ w.cell? ⟨X, 1, none⟩ = some (B8 x.kind) ∧ w.cell? ⟨X, 2, none⟩ = some (.int .i64 x.version) ∧ w.cell? ⟨X, 3, none⟩ = some (.int .i64 x.server) ∧ w.cell? ⟨X, 4, none⟩ = some (.bool x.good) ∧ w.cell? ⟨X, 5, none⟩ = some (.slice A n c)
theorem entB_of {w0 w : World} {L : List Acc} {X : Nat} {x : M.Ent} {A : Option Addr} {n c : Nat} (h : Bank w0 w L) {i : Nat} (hi : L[i]? = some (boxAcc X 62 [.int .i64 x.term, B8 x.kind, .int .i64 x.version, .int .i64 x.server, .bool x.good, .slice A n c])) : EntB w X x A n c :=
  ⟨h.cell i hi 0 rfl, h.cell i hi 1 rfl, h.cell i hi 2 rfl, h.cell i hi 3 rfl, h.cell i hi 4 rfl, h.cell i hi 5 rfl⟩
set_option maxHeartbeats 4000000 in
set_option maxRecDepth 100000 in
theorem rPut22_any (i : Int) (x : M.Ent) (A : Option Addr) (n c : Nat) (w : World) (hr : RowRd w ⟨A, n, c⟩ x.data) (hn : n ≤ 1000000000) :
    Calls Tryz.prog 36 #[.int .i64 i, .agg #[.int .i64 x.term, B8 x.kind, .int .i64 x.version, .int .i64 x.server, .bool x.good, .slice A n c]] w (FrameP w ⟨2, S.edata i x⟩) := by
  have hxl : x.data.length = n := hr.len
  have HLE := Lib.hid (show (M.ent x).length = 48 + n by rw [M.ent_length, hxl])
  have HR := Lib.hid hr
  have BKA := Lib.hid (((Bank.nil (Below.refl w.heap.size w)).box #[.int .i64 x.term, B8 x.kind, .int .i64 x.version, .int .i64 x.server, .bool x.good, .slice A n c] 62 (by simp)).box #[.int .i64 0, .slice none 0 0] 49 (by simp))
  clear hr hxl
  go_enter Tryz.func36, Tryz.ntmps36
  go_upto_region 1 with fail
  obtain ⟨X, hX⟩ : ∃ X, X = w.heap.size := ⟨_, rfl⟩
  rw [show (w.alloc (.cells #[.int .i64 x.term, B8 x.kind, .int .i64 x.version, .int .i64 x.server, .bool x.good, .slice A n c] 62)).heap.size = w.heap.size + 1 by simp, ← hX] at BKA
  try simp only [← hX]
  generalize (w.alloc (.cells #[.int .i64 x.term, B8 x.kind, .int .i64 x.version, .int .i64 x.server, .bool x.good, .slice A n c] 62)).alloc (.cells #[.int .i64 0, .slice none 0 0] 49) = wb at *
  have BK0 : Hid (Bank w wb.drew [boxAcc (X + 1) 49 [.int .i64 0, .slice none 0 0], boxAcc X 62 [.int .i64 x.term, B8 x.kind, .int .i64 x.version, .int .i64 x.server, .bool x.good, .slice A n c]]) := Lib.hid BKA.out.drew
  clear hX BKA
  refine WL.region (SApp 99 (fun _ => True) (fun w' => EntB w' X x A n c)) (by kernel_rfl) ?_
  intro hsh
  have hS : SApp 99 (fun _ => True) (fun w' => EntB w' X x A n c) (Array.replicate 7 false) wb.drew := ⟨fun _ => trivial, entB_of BK0.out (i := 1) rfl⟩
  refine WL.take (i := 0) (v := ?_) (S0 := fun _ => True) rfl (by kernel_rfl) (by kernel_rfl) (by kernel_rfl) (fun _ _ _ h => h) (SApp.hm (by decide)) (SApp.any) hsh (Or.inl ⟨by rfl, ?_⟩) hS ?_
  rotate_left
  · intro w hSw; clear hSw; go_simp <;> rfl
  clear hsh hS; intro hsh hS
  try simp only [Act.put, List.setIfInBounds_toArray]
  refine WL.take (i := 2) (v := ?_) rfl (by kernel_rfl) (by kernel_rfl) (by kernel_rfl) (fun _ _ _ h => h) (SApp.hm (by decide)) (SApp.right) hsh (Or.inl ⟨by rfl, ?_⟩) hS ?_
  rotate_left
  · intro w hSw; obtain ⟨c0, c1, c2, c3, c4, c5⟩ := hSw; go_simp <;> rfl
  clear hsh hS; intro hsh hS
  try simp only [Act.put]
  have HSH := Lib.hid hsh
  clear hsh hS
  refine WL.one (i := 1) HSH.out (by kernel_rfl) rfl ?_
  · clear HSH
    intro K hK
    have HK := Lib.hid hK
    clear hK
    go_simp
    refine (rnum_madeS i _).mono ?_
    rintro e uBK1 ⟨g0, N0, q0, rfl, hN, ho, hb⟩
    have HN0 := Lib.hid hN
    have BK1 := Lib.hid (BK0.out.madeB hb ho)
    clear ho hb hN
    refine HK.out _ _ (SApp.intro (fun _ => trivial) (entB_of BK1.out (i := 2) rfl)) ?_
    clear K HK
    intro hsh hS
    try simp only [Act.put, List.setIfInBounds_toArray, List.set_cons_zero, List.set_cons_succ]
    have HSH := Lib.hid hsh
    clear hsh hS
    refine WL.one (i := 3) HSH.out (by kernel_rfl) rfl ?_
    clear HSH
    intro K hK
    have HK := Lib.hid hK
    clear hK
    go_simp
    refine (rentry_madeS (Since.row BK1.out.since HR.out) (by omega)).mono ?_
    rintro e uBK2 ⟨g1, N1, q1, rfl, hN, ho, hb⟩
    have HN1 := Lib.hid hN
    have BK2 := Lib.hid (BK1.out.madeB hb ho)
    clear ho hb hN
    refine HK.out _ _ (SApp.intro (fun _ => trivial) (entB_of BK2.out (i := 3) rfl)) ?_
    clear K HK
    intro hsh hS
    try simp only [Act.put, List.setIfInBounds_toArray, List.set_cons_zero, List.set_cons_succ]
    have HSH := Lib.hid hsh
    clear hsh hS
    refine WL.one (i := 4) HSH.out (by kernel_rfl) rfl ?_
    clear HSH
    intro K hK
    have HK := Lib.hid hK
    clear hK
    refine step_append_bytes BK2.out rfl (.tmp 6) (.tmp 8) 37 rfl 5 infoByte Tryz.underlying37 1 (some ⟨g0, 0, none⟩) N0 q0 (M.num i) rfl rfl (some ⟨g1, 0, none⟩) N1 q1 (M.ent x) rfl (BK2.out.row 0 rfl) (by rw [HN0.out, HN1.out, M.num_length, HLE.out]; omega) ?_
    intro A4 n4 c4 w4 hn4 hB
    dsimp only [List.set] at hB
    have BK3 := Lib.hid hB
    have HN4 := Lib.hid hn4
    clear hB hn4
    refine HK.out _ _ (SApp.intro (fun _ => trivial) (entB_of BK3.out (i := 3) rfl)) ?_
    clear K HK
    intro hsh hS
    try simp only [Act.put, List.setIfInBounds_toArray]
    refine WL.take (i := 5) (v := ?_) (S0 := fun _ => True) rfl (by kernel_rfl) (by kernel_rfl) (by kernel_rfl) (fun _ _ _ h => h) (SApp.hm (by decide)) (SApp.any) hsh (Or.inl ⟨by rfl, ?_⟩) hS ?_
    rotate_left
    · intro w hSw; clear hSw; go_simp <;> rfl
    clear hsh hS; intro hsh hS
    try simp only [Act.put]
    have HSH := Lib.hid hsh
    clear hsh hS
    have y0 := BK3.out.cell 2 rfl 0 rfl
    have y1 := BK3.out.cell 2 rfl 1 rfl
    have f0 := BK3.out.free 2 rfl 0
    have f1 := BK3.out.free 2 rfl 1
    refine WL.one (i := 6) HSH.out (by kernel_rfl) rfl ?_
    intro K hK
    have HK := Lib.hid hK
    clear hK
    go_simp
    have b4 := (BK3.out.boxSet 2 rfl 0 (.int .i64 2)).boxSet 2 rfl 1 (.slice A4 n4 c4)
    dsimp only [List.set] at b4
    have BK4 := Lib.hid b4
    clear b4
    refine HK.out _ _ (SApp.intro (fun _ => trivial) (entB_of BK4.out (i := 3) rfl)) ?_
    clear K HK HSH y0 y1 f0 f1
    intro _ _
    try simp only [Act.put, List.setIfInBounds_toArray, List.set_cons_zero, List.set_cons_succ]
    refine WL.done (by kernel_rfl) ?_ _
    simp only [Exit.then]
    have y0 := BK4.out.cell 2 rfl 0 rfl
    have y1 := BK4.out.cell 2 rfl 1 rfl
    have HFIN := Lib.hid (show FrameP w ⟨2, S.edata i x⟩ (.returned (.agg #[.int .i64 2, .slice A4 n4 c4])) _ from ⟨A4, n4, c4, rfl, by rw [HN4.out, HN0.out, HN1.out]; simp [S.edata], (BK4.out.sub (L' := [rowAcc A4 n4 c4 (S.edata i x)]) (.cons _ (.cons_cons _ (.cons _ (.cons _ .slnil)))))⟩)
    clear BK3
    have HBX := Lib.hid (BK4.out.boxAt 2 rfl).2
    go_wp2
    refine bodyPost_ret (v := .agg #[.int .i64 2, .slice A4 n4 c4]) ?_ ?_ ?_
    · exact results_cell_row rfl _ _ (X + 1) 49 _ (0, 0) _ rfl HBX.out Tryz.underlying49 rfl infoFrameR
    · rfl
    · exact HFIN.out
end Go.Proofs.YtfpjmeknjhhakaaGreat.K

/- The contracts of the reference's one and Put. -/
namespace Go.Proofs.YtfpjmeknjhhakaaGreat.K
open Go Go.RowKit

theorem rsum_since {w0 : World} {A : Option Addr} {n c : Nat} {bs : List (BitVec 8)} (hr : RowRd w0 ⟨A, n, c⟩ bs) (hn : n ≤ 9223372036854775807) : Calls Tryz.prog 75 #[.slice A n c] w0 fun e w' => e = .returned (W32 (F.fsum bs)) ∧ Below w0.heap.size w0 w' :=
  (rsum_any A n c bs w0 hr hn).mono fun e w' ⟨he, q, hw⟩ => ⟨he, by subst hw; exact below_drewN (Below.refl _ _) q⟩
set_option maxHeartbeats 4000000 in
set_option maxRecDepth 100000 in
theorem rone_any (k : Int) (A : Option Addr) (n c : Nat) (bs : List (BitVec 8)) (w : World) (hr : RowRd w ⟨A, n, c⟩ bs) (hn : n ≤ 100000000000) :
    Calls Tryz.prog 37 #[.agg #[.int .i64 k, .slice A n c]] w (Made w (F.one ⟨k, bs⟩)) := by
  have hbx : Box2 (w.alloc (.cells #[.int .i64 k, .slice A n c] 49)) w.heap.size k A n c := ⟨by rw [World.cell?_alloc_new]; rfl, by rw [World.cell?_alloc_new]; rfl⟩
  have hs0 : Since w (w.alloc (.cells #[.int .i64 k, .slice A n c] 49)) := (Below.refl _ _).alloc (Nat.le_refl _) _
  have HBX := Lib.hid hbx; have HS0 := Lib.hid hs0; have HR := Lib.hid (hr.below hs0); have HL := Lib.hid (show bs.length = n from hr.len)
  have hcv := fun w (n : Nat) => conv_int_W32 (P := Tryz.prog) w 3 128 n Tryz.underlying3 Tryz.underlying128
  have hcv2 := fun w (y : Int) => conv_kind (P := Tryz.prog) w 3 5 y Tryz.underlying3 Tryz.underlying5
  clear hbx hs0 hr
  go_enter Tryz.func37, Tryz.ntmps37
  go_upto_region 1 with fail
  change Code.wp _ _ _ _ (w.alloc (.cells #[.int .i64 k, .slice A n c] 49))
  generalize w.alloc (.cells #[.int .i64 k, .slice A n c] 49) = w0 at *
  go_cut [3] (fun s3 wx => ∃ A3 n3 c3, s3 = .slice A3 n3 c3 ∧ Bank w0 wx [rowAcc A3 n3 c3 (F.five ⟨k, bs⟩)])
  case first =>
    have hB := Bank.nil (Below.refl w0.heap.size w0)
    obtain ⟨x0, x1⟩ := HBX.out
    obtain ⟨y0, y1⟩ := box2_since HBX.out (Since.alloc (Below.refl w0.heap.size w0) (.cells #[B8 (BitVec.ofInt 8 k)] 5))
    go_region_law (first
      | (go_simp; go_at_call 74; (first | ((with_reducible refine calls_bank (Bank.drew hB) ?_); intro hB) | ((with_reducible refine calls_bank (Bank.drew (Bank.litV hB _ _ (by simp))) ?_); intro hB)); refine (rfour_any _ _).mono ?_; rintro e w1 ⟨g1, N1, c1, rfl, hN1, ho1, hb1⟩; obtain rfl : N1 = 4 := hN1; have hB := hB.madeB hb1 ho1; clear ho1 hb1; obtain ⟨x0, x1⟩ := box2_since HBX.out hB.since)
      | ((first | ((with_reducible refine step_bank hB ?_); intro hB) | ((with_reducible refine step_bank (Bank.litV hB _ _ (by simp)) ?_); intro hB)); refine step_append_bytes hB rfl _ _ 37 rfl 5 infoByte Tryz.underlying37 0 _ _ _ [BitVec.ofInt 8 k] rfl rfl _ _ _ _ rfl (hB.row 1 rfl) (by omega) ?_; intro A4 n4 c4 w4 hn4 hB; have hn4' := Nat.le_of_eq hn4; clear hn4; dsimp only [List.set] at hB; have hB := hB.swap.drop)
      | ((first | ((with_reducible refine step_bank hB ?_); intro hB) | ((with_reducible refine step_bank (Bank.litV hB _ _ (by simp)) ?_); intro hB)); refine step_append_bytes hB rfl _ _ 37 rfl 5 infoByte Tryz.underlying37 1 _ _ _ [BitVec.ofInt 8 k] rfl rfl _ _ _ _ rfl (hB.row 0 rfl) (by omega) ?_; intro A4 n4 c4 w4 hn4 hB; have hn4' := Nat.le_of_eq hn4; clear hn4; dsimp only [List.set] at hB; have hB := hB.drop)
      | fail "arm")
    all_goals
      have HFIN := Lib.hid (show ∃ A3 n3 c3, Value.slice A4 n4 c4 = .slice A3 n3 c3 ∧ Bank w0 w4 [rowAcc A3 n3 c3 (F.five ⟨k, bs⟩)] from ⟨A4, n4, c4, rfl, by
        rw [show F.five ⟨k, bs⟩ = [BitVec.ofInt 8 k] ++ F.be4 (BitVec.ofNat 32 n) by unfold F.five; rw [HL.out]; rfl]; exact hB⟩)
      clear hB x0 x1 y0 y1 hn4'
      go_wp2_with fail
      go_meet
      exact HFIN.out
  case rest =>
    obtain ⟨A3, n3, c3, rfl, hB⟩ := hcut
    have hn3 : n3 = 5 := (RowRd.of_row (hB.at 0 rfl)).len.symm
    have HN3 := Lib.hid hn3
    have hn3' : n3 ≤ 5 := by omega
    clear hn3
    generalize hwc : wc = w1 at *
    clear hwc
    go_upto_region 2 with fail
    go_cut [4] (fun s4 wx => s4 = W32 (F.fsum (F.five ⟨k, bs⟩ ++ bs)) ∧ Bank w0 wx [rowAcc A3 n3 c3 (F.five ⟨k, bs⟩)])
    case first =>
      obtain ⟨x0, x1⟩ := box2_since HBX.out hB.since
      obtain ⟨y0, y1⟩ := box2_since HBX.out (hB.since.alloc (.cells #[] 5))
      go_region_law (first
        | (go_simp; go_at_call 75; refine (rsum_since (hB.row 0 rfl) (by omega)).mono ?_; rintro e w3 ⟨rfl, hb3⟩; have hB := hB.call hb3; clear hb3)
        | ((first | ((with_reducible refine step_bank (Bank.lit0 hB _) ?_); intro hB) | ((with_reducible refine step_bank (Bank.drew (Bank.lit0 hB _)) ?_); intro hB)); refine step_append_bytes hB rfl (.tmp 15) (.tmp 16) 37 rfl 5 infoByte Tryz.underlying37 0 _ _ _ [] rfl rfl _ _ _ _ rfl (hB.row 1 rfl) (by omega) ?_; intro A4 n4 c4 w4 hn4 hB; have hn4' := Nat.le_of_eq hn4; clear hn4; dsimp only [List.set] at hB; rw [List.nil_append] at hB; obtain ⟨x0, x1⟩ := box2_since HBX.out hB.since)
        | (refine step_append_bytes hB rfl (.tmp 17) (.tmp 19) 37 rfl 5 infoByte Tryz.underlying37 0 _ _ _ _ rfl rfl _ _ _ _ rfl (Since.row hB.since HR.out) (by omega) ?_; intro A5 n5 c5 w5 hn5 hB; have hn5' := Nat.le_of_eq hn5; clear hn5; dsimp only [List.set] at hB)
        | fail "arm")
      all_goals
        have HFIN := Lib.hid (show Bank w0 w3 [rowAcc A3 n3 c3 (F.five ⟨k, bs⟩)] from hB.drop)
        clear hB x0 x1 y0 y1 hn4' hn5'
        go_wp2_with fail
        go_meet
        exact ⟨rfl, HFIN.out⟩
    case rest =>
      obtain ⟨rfl, hB2⟩ := hcut
      have hB := hB2
      clear hB2
      obtain ⟨x0, x1⟩ := box2_since HBX.out hB.since
      generalize hwc : wc = w2 at *
      clear hwc
      go_wp2_with fail
      go_region_law (first
        | (go_simp; go_at_call 74; ((with_reducible refine calls_bank (Bank.drew hB) ?_); intro hB); refine (rfour_any _ _).mono ?_; rintro e w3 ⟨g3, N3, c3', rfl, hN3, ho3, hb3⟩; obtain rfl : N3 = 4 := hN3; have hB := hB.madeB hb3 ho3; clear ho3 hb3; obtain ⟨x0, x1⟩ := box2_since HBX.out hB.since)
        | (refine step_append_bytes hB rfl (.tmp 22) (.tmp 24) 37 rfl 5 infoByte Tryz.underlying37 1 _ _ _ _ rfl rfl _ _ _ _ rfl (hB.row 0 rfl) (by omega) ?_; intro A4 n4 c4 w4 hn4 hB; have hn4' := Nat.le_of_eq hn4; clear hn4; dsimp only [List.set] at hB; obtain ⟨x0, x1⟩ := box2_since HBX.out hB.since)
        | (refine step_append_bytes hB rfl (.tmp 25) (.tmp 27) 37 rfl 5 infoByte Tryz.underlying37 1 _ _ _ _ rfl rfl _ _ _ _ rfl (Since.row hB.since HR.out) (by omega) ?_; intro A5 n5 c5 w5 hn5 hB; have hn5' := Lib.hid hn5; clear hn5; dsimp only [List.set] at hB)
        | fail "arm")
      all_goals
        have ho := hB.at 1 rfl
        rw [show F.five ⟨k, bs⟩ ++ F.be4 (F.fsum (F.five ⟨k, bs⟩ ++ bs)) ++ bs = F.one ⟨k, bs⟩ by simp [F.one, List.append_assoc]] at ho
        have hl := (RowRd.of_row ho).len
        obtain ⟨g5, rfl⟩ := own_somes' ho (by rw [← show (F.one ⟨k, bs⟩).length = n5 from hl, F.one_length]; omega)
        have HFIN := Lib.hid (show Made w (F.one ⟨k, bs⟩) (.returned (.slice (some ⟨g5, 0, none⟩) n5 c5)) w5 from ⟨g5, n5, c5, rfl, hl.symm, row_base ho HS0.out.size, HS0.out.add hB.since⟩)
        clear hB ho hl x0 x1 hn4' hn5'
        go_wp2_with fail
        go_ret
        exact HFIN.out
end Go.Proofs.YtfpjmeknjhhakaaGreat.K

/- The contract of the reference's Put. -/
namespace Go.Proofs.YtfpjmeknjhhakaaGreat.K
open Go Go.RowKit

def RPutRel (w : World) (fs : List F.Fr) (k : Nat) (v i : Value) (wr : World) : Prop := ∃ A N c, k ≤ fs.length ∧ i = .int .i64 (k : Int) ∧ v = .slice A N c ∧ F.perr (fs.take k) = 0 ∧ Bank w wr [rowAcc A N c (F.pbytes (fs.take k))]
theorem len_le_pbytes (fs : List F.Fr) : fs.length ≤ (F.pbytes fs).length := by
  induction fs with
  | nil => exact Nat.zero_le _
  | cons f fs ih => rw [F.pbytes_cons, List.length_append, F.one_length, List.length_cons]; omega
set_option maxHeartbeats 4000000 in
set_option maxRecDepth 100000 in
theorem rput_any (A : Option Addr) (n c : Nat) (fs : List F.Fr) (w : World) (hfs : Ones w A fs) (hn : fs.length = n) (hT : (F.pbytes fs).length ≤ 100000000000) :
    Calls Tryz.prog 11 #[.slice A n c] w (PutPost w fs) := by
  have HF := Lib.hid hfs; have HN := Lib.hid hn
  have hn63 : n ≤ 9223372036854775807 := by have := len_le_pbytes fs; omega
  have HB0 := Lib.hid (show Bank w w [rowAcc none 0 0 (F.pbytes (fs.take 0))] from (Bank.nil (Below.refl w.heap.size w)).none _ _)
  clear hfs hn
  go_enter Tryz.func11, Tryz.ntmps11
  go_wp2
  go_loopw [4, 5] (fun v i wr => ∃ k, RPutRel w fs k v i wr) (fun _ i _ => n - (intOf i).toNat)
  case atStart => exact ⟨0, none, 0, 0, Nat.zero_le _, rfl, rfl, rfl, HB0.out⟩
  case round =>
    clear HB0
    obtain ⟨k, A', N, c', hk, rfl, rfl, hpe, hB⟩ := hrel
    have HB := Lib.hid hB; have HPE := Lib.hid hpe
    have k0 : (0 : Int) ≤ (k : Int) := by omega
    clear hB hpe
    by_cases hlt : k < n
    · have i1 : (k : Int) < (n : Int) := by omega
      have hkl : k < fs.length := by rw [HN.out]; exact hlt
      obtain ⟨b, o, hA, D, m, d, hc, _, hr, _, _⟩ := HF.out k hkl
      subst hA
      obtain ⟨kd, ds, hfk⟩ : ∃ kd ds, fs[k] = F.Fr.mk kd ds := ⟨_, _, rfl⟩
      simp only [hfk] at hc hr
      have HFK := Lib.hid hfk
      have c0 := (HB.out.since.cell (p := ⟨b, o + k * 2, none⟩) (block_lt_of_cell (hc 0 _ rfl))).trans (hc 0 _ rfl)
      have c1 := (HB.out.since.cell (p := ⟨b, o + k * 2 + 1, none⟩) (block_lt_of_cell (hc 1 _ rfl))).trans (hc 1 _ rfl)
      have HRD := Lib.hid (show RowRd w ⟨D, m, d⟩ ds from hr); have HLD := Lib.hid (show ds.length = m from hr.len)
      clear hc hr hfk
      by_cases hbad : F.errOf ⟨kd, ds⟩ = 0
      · obtain ⟨b1, b2, b3⟩ := (F.errOf_ok _).1 hbad
        have b1' : (0 : Int) ≤ kd := b1
        have b2' : kd ≤ 255 := b2
        have d1 : decide (kd < 0) = false := by simp; omega
        have b3' : ¬ (262144 : Int) < (m : Int) := by have : ds.length ≤ 262144 := b3; have := HLD.out; omega
        have HBAD := Lib.hid hbad
        have HT := Lib.hid (show (F.pbytes (fs.take k)).length + (9 + ds.length) ≤ 100000000000 by
          have h1 := pbytes_take_le fs (k + 1)
          rw [pbytes_take fs k hkl, List.length_append, F.one_length, HFK.out] at h1
          have h2 : (F.Fr.mk kd ds).data.length = ds.length := rfl
          omega)
        have HNN := Lib.hid (show (F.pbytes (fs.take k)).length = N from (RowRd.of_row (HB.out.at 0 rfl)).len)
        have HPK := Lib.hid (perr_take_ok fs k hkl HPE.out (by rw [HFK.out]; exact HBAD.out))
        have HPB := Lib.hid (show F.pbytes (fs.take (k + 1)) = F.pbytes (fs.take k) ++ F.one ⟨kd, ds⟩ by rw [pbytes_take fs k hkl, HFK.out])
        have hm : m ≤ 100000000000 := by have := HT.out; have := HLD.out; omega
        have hNm : N + (9 + m) ≤ 100000000000 := by have := HT.out; have := HLD.out; have := HNN.out; omega
        clear hbad b1 b2 b3
        go_wp2_with fail
        refine (rone_any kd D m d ds _ (Since.row HB.out.since HRD.out) hm).mono ?_
        rintro e w2 ⟨g2, N2, c2, rfl, hN2, ho2, hb2⟩
        have hN2' : N2 = 9 + m := by rw [hN2, F.one_length]; have := HLD.out; show 9 + ds.length = _; omega
        have HN2 := Lib.hid hN2'
        have hn2 : N2 ≤ 9 + m := by omega
        have BK2 := Lib.hid (HB.out.madeB hb2 ho2)
        clear hN2 hN2' ho2 hb2 c0 c1 d1
        go_wp2_with (at_builtin; refine wpList_append_bytes BK2.out rfl _ _ 37 rfl 5 infoByte Tryz.underlying37 1 _ _ _ _ rfl rfl _ _ _ _ rfl (BK2.out.row 0 rfl) (by omega) ?_; intro A3 n3 c3 w3 hn3 hB3; dsimp only [List.set] at hB3; have BK3 := Lib.hid hB3.drop; clear hB3 hn3)
        go_roundw
        case rel => exact ⟨k + 1, A3, n3, c3, by omega, by go_num, rfl, HPK.out, by rw [HPB.out]; exact BK3.out⟩
        case measure => simp [intOf]; omega
      · have HPE2 := Lib.hid (show F.perr fs = F.errOf ⟨kd, ds⟩ by rw [perr_take_bad fs k hkl HPE.out (by rw [HFK.out]; exact hbad), HFK.out])
        have HPO := Lib.hid (show pout fs = [] by unfold pout; rw [if_neg (by rw [HPE2.out]; exact hbad)])
        have HFIN := Lib.hid (show PutPost w fs (.returned (.tuple #[.slice none 0 0, .int .i64 (F.errOf ⟨kd, ds⟩)])) wr from ⟨none, 0, 0, by rw [HPE2.out], by rw [HPO.out]; rfl, by rw [HPO.out]; exact World.ownsRow_nil _ _ _ _, HB.out.since⟩)
        have HBD := Lib.hid hbad
        clear hbad
        by_cases h1 : kd < 0
        · have HE := Lib.hid (show F.errOf ⟨kd, ds⟩ = 2 by unfold F.errOf; rw [if_pos (.inl h1)])
          have d1 : decide (kd < 0) = true := by simpa using h1
          rw [HE.out] at HFIN
          go_wp2_with fail
          go_ret2
          exact HFIN.out
        · have d1 : decide (kd < 0) = false := by simpa using h1
          by_cases h2 : 255 < kd
          · have HE := Lib.hid (show F.errOf ⟨kd, ds⟩ = 2 by unfold F.errOf; rw [if_pos (.inr h2)])
            rw [HE.out] at HFIN
            go_wp2_with fail
            go_ret2
            exact HFIN.out
          · have h3 : 262144 < ds.length := by
              refine Classical.byContradiction fun h3 => HBD.out ?_
              exact (F.errOf_ok _).2 ⟨by show 0 ≤ kd; omega, by show kd ≤ 255; omega, by show ds.length ≤ _; omega⟩
            have HE := Lib.hid (show F.errOf ⟨kd, ds⟩ = 3 by unfold F.errOf; rw [if_neg (by show ¬ (kd < 0 ∨ 255 < kd); omega), if_pos (by show _ < ds.length; exact h3)])
            have i3 : (262144 : Int) < (m : Int) := by have := HLD.out; omega
            rw [HE.out] at HFIN
            go_wp2_with fail
            go_ret2
            exact HFIN.out
    · have i1 : ¬ (k : Int) < (n : Int) := by omega
      have hkn : k = fs.length := by have := HN.out; omega
      have ht : fs.take k = fs := by rw [hkn, List.take_length]
      have hp0 : F.perr fs = 0 := by rw [← ht]; exact HPE.out
      have hpo : pout fs = F.pbytes fs := by unfold pout; rw [if_pos hp0]
      have hB2 := HB.out
      rw [ht] at hB2
      have HFIN := Lib.hid (show PutPost w fs (.returned (.tuple #[.slice A' N c', .int .i64 0])) wr from ⟨A', N, c', by rw [hp0]; rfl, by rw [hpo]; exact (RowRd.of_row (hB2.at 0 rfl)).len.symm, by rw [hpo]; exact hB2.at 0 rfl, hB2.since⟩)
      clear hkn ht hp0 hpo hB2
      go_wp2_with fail
      go_ret2
      exact HFIN.out
end Go.Proofs.YtfpjmeknjhhakaaGreat.K

/- What deeds cost, and how long their frames are. -/
namespace Go.Proofs.YtfpjmeknjhhakaaGreat.K
open Go

def ecost (es : List M.Ent) : Nat := (es.map fun e => 10 + e.data.length).sum
def dcost (ds : List Deed) : Nat := (ds.map fun d => ecost d.es).sum
theorem ecost_cons (e : M.Ent) (es : List M.Ent) : ecost (e :: es) = 10 + e.data.length + ecost es := by simp [ecost]
theorem ecost_mem {es : List M.Ent} {e : M.Ent} (h : e ∈ es) : 10 + e.data.length ≤ ecost es := by
  induction es with
  | nil => cases h
  | cons x es ih =>
    rw [ecost_cons]
    rcases List.mem_cons.1 h with rfl | h
    · omega
    · have := ih h; omega
theorem ecost_len (es : List M.Ent) : es.length * 10 ≤ ecost es := by
  induction es with
  | nil => exact Nat.zero_le _
  | cons x es ih => rw [ecost_cons, List.length_cons]; omega
theorem dcost_cons (d : Deed) (ds : List Deed) : dcost (d :: ds) = ecost d.es + dcost ds := by simp [dcost]
theorem dcost_append (a b : List Deed) : dcost (a ++ b) = dcost a + dcost b := by simp [dcost]
theorem lin_ge (es : List M.Ent) : ∀ n, n ≤ lin n es := by
  induction es with
  | nil => intro n; exact Nat.le_refl _
  | cons e es ih =>
    intro n
    unfold lin
    split
    · exact Nat.le_trans (by omega) (ih _)
    · exact Nat.le_refl _
theorem lin_sum (es : List M.Ent) : ∀ n, lin n es < 6000 → lin n es = n + ecost es := by
  induction es with
  | nil => intro n _; simp [lin, ecost]
  | cons e es ih =>
    intro n h
    have hn : n < 6000 := by
      by_cases h1 : n < 6000
      · exact h1
      · rw [lin_big n (e :: es) h1] at h; exact h
    have e1 : lin n (e :: es) = lin (n + 10 + min e.data.length 6000) es := by rw [lin, if_pos hn]
    rw [e1] at h ⊢
    have h2 := lin_ge es (n + 10 + min e.data.length 6000)
    rw [ih _ h, ecost_cons]
    omega
theorem lout_ge (ds : List Deed) : ∀ n, n ≤ lout n ds := by
  induction ds with
  | nil => intro n; exact Nat.le_refl _
  | cons d ds ih =>
    intro n
    unfold lout
    split
    · exact Nat.le_trans (lin_ge d.es n) (ih _)
    · exact Nat.le_refl _
theorem lout_sum (ds : List Deed) : ∀ n, lout n ds < 6000 → lout n ds = n + dcost ds := by
  induction ds with
  | nil => intro n _; simp [lout, dcost]
  | cons d ds ih =>
    intro n h
    have hn : n < 6000 := by
      by_cases h1 : n < 6000
      · exact h1
      · rw [lout_big n (d :: ds) h1] at h; exact h
    have e1 : lout n (d :: ds) = lout (lin n d.es) ds := by rw [lout, if_pos hn]
    rw [e1] at h ⊢
    have h2 := lout_ge ds (lin n d.es)
    rw [ih _ h, lin_sum d.es n (by omega), dcost_cons]
    omega
theorem light_cost {ds : List Deed} (h : light ds = true) : ds.length ≤ 60 ∧ dcost ds < 6000 := by
  unfold light at h
  rw [Bool.and_eq_true, decide_eq_true_eq, decide_eq_true_eq] at h
  have h2 := lout_sum ds 0 h.2
  exact ⟨h.1, by omega⟩
theorem dcost_take (ds : List Deed) (k : Nat) (hk : k < ds.length) : dcost (ds.take (k + 1)) = dcost (ds.take k) + ecost ds[k].es := by
  rw [List.take_succ_eq_append_getElem hk, dcost_append]; simp [dcost]
theorem dcost_le (ds : List Deed) (k : Nat) : dcost (ds.take k) ≤ dcost ds := by
  conv => rhs; rw [← List.take_append_drop k ds, dcost_append]
  omega
theorem dcost_mem {ds : List Deed} {k : Nat} (hk : k < ds.length) : ecost ds[k].es ≤ dcost ds := by
  have h1 := dcost_take ds k hk
  have h2 := dcost_le ds (k + 1)
  omega
theorem puts_bytes (es : List M.Ent) : ∀ i : Int, (F.pbytes (S.puts i es)).length ≤ 7 * ecost es := by
  induction es with
  | nil => intro i; exact Nat.zero_le _
  | cons e es ih =>
    intro i
    have h := ih (i + 1)
    rw [S.puts, F.pbytes_cons, List.length_append, F.one_length, ecost_cons]
    have h2 : (S.put i e).data.length = 56 + e.data.length := S.edata_length i e
    omega
theorem kept_bytes (c : S.Cl) : (F.pbytes [S.kept c]).length = 41 := by simp [F.pbytes, F.one_length, S.kept, S.cdata_length]
theorem puts_long (es : List M.Ent) : ∀ i : Int, ∀ f ∈ S.puts i es, 4 ≤ f.data.length := by
  induction es with
  | nil => intro i f hf; cases hf
  | cons e es ih =>
    intro i f hf
    rcases List.mem_cons.1 hf with rfl | hf
    · have h2 : (S.put i e).data.length = 56 + e.data.length := S.edata_length i e
      omega
    · exact ih (i + 1) f hf
/-- entries' numbers are int's -/
def EntsIn (es : List M.Ent) : Prop := ∀ e ∈ es, M.inI64 e.term ∧ M.inI64 e.version ∧ M.inI64 e.server
theorem EntsIn.ok {es : List M.Ent} (h : EntsIn es) (hc : ecost es ≤ 1000000) : ∀ e ∈ es, e.Ok := fun e he => by
  obtain ⟨h1, h2, h3⟩ := h e he
  have := ecost_mem he
  exact ⟨h1, h2, h3, by omega⟩
/-- frames that a store's file may hold -/
structure Good (fs : List F.Fr) (st : S.St) (c k : Nat) : Prop where
  err : F.perr fs = 0
  long : ∀ f ∈ fs, 4 ≤ f.data.length
  bytes : (F.pbytes fs).length ≤ 41 * k + 7 * c
  len : st.l.length ≤ c
  small : ∀ e ∈ st.l, e.data.length ≤ 6000
  does : S.sdos S.zero fs = some st
theorem Good.start : Good [] S.zero 0 0 := ⟨rfl, by simp, by simp [F.pbytes], by simp [S.zero], by simp [S.zero], rfl⟩
theorem Good.more {fs : List F.Fr} {st : S.St} {c k c' k' : Nat} (h : Good fs st c k) (hc : c ≤ c') (hk : k ≤ k') : Good fs st c' k' := ⟨h.err, h.long, by have := h.bytes; omega, by have := h.len; omega, h.small, h.does⟩
theorem Good.keep {fs : List F.Fr} {st : S.St} {c k : Nat} (h : Good fs st c k) (d : S.Cl) (hm : S.may d = true) : Good (fs ++ [S.kept d]) ⟨d, st.l⟩ c (k + 1) := by
  refine ⟨?_, ?_, ?_, h.len, h.small, ?_⟩
  · rw [F.perr_append _ _ h.err, F.perr_zero]
    intro f hf
    simp only [List.mem_singleton] at hf
    subst hf
    exact S.kept_err d
  · intro f hf
    rcases List.mem_append.1 hf with hf | hf
    · exact h.long f hf
    · simp only [List.mem_singleton] at hf
      subst hf
      show 4 ≤ (S.cdata d).length
      rw [S.cdata_length]; omega
  · rw [F.pbytes_append, List.length_append, kept_bytes]
    have := h.bytes
    omega
  · rw [S.sdos_append, h.does]
    show (S.sdo st (S.kept d)).bind _ = _
    rw [S.sdo_kept st d hm]
    rfl
theorem Good.app {fs : List F.Fr} {st : S.St} {c k : Nat} (h : Good fs st c k) (i : Int) (es : List M.Ent) (hi : 1 ≤ i ∧ i ≤ (st.l.length : Int) + 1) (hok : ∀ e ∈ es, e.Ok) (he : ecost es ≤ 6000) (hc : c ≤ 100000) : Good (fs ++ S.puts i es) (grewS st i es) (c + ecost es) k := by
  have hsm : ∀ e ∈ es, e.data.length ≤ 5990 := fun e hm => by have := ecost_mem hm; omega
  have hl := ecost_len es
  refine ⟨?_, ?_, ?_, ?_, ?_, ?_⟩
  · rw [F.perr_append _ _ h.err]
    exact S.puts_err i es fun e hm => by have := hsm e hm; omega
  · intro f hf
    rcases List.mem_append.1 hf with hf | hf
    · exact h.long f hf
    · exact puts_long es i f hf
  · rw [F.pbytes_append, List.length_append]
    have h1 := h.bytes
    have h2 := puts_bytes es i
    omega
  · unfold grewS
    have h1 := h.len
    split
    · omega
    · simp only [List.length_append, List.length_take]
      omega
  · unfold grewS
    split
    · exact h.small
    · intro e hm
      rcases List.mem_append.1 hm with hm | hm
      · exact h.small e (List.mem_of_mem_take hm)
      · have := hsm e hm; omega
  · have hidx : i = (i.toNat : Int) := by omega
    have h2 := h.len
    have h1 := S.sdos_puts es hok st i.toNat (by omega) (by omega) (by omega)
    rw [← hidx] at h1
    rw [S.sdos_append, h.does]
    show S.sdos st (S.puts i es) = _
    rw [h1, grewS]
    split
    · rfl
    · rw [show (i - 1).toNat = i.toNat - 1 by omega]
end Go.Proofs.YtfpjmeknjhhakaaGreat.K
