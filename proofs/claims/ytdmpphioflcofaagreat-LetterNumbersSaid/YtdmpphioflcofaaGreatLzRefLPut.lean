/- The contract of the reference's Put. -/
import Derived.Test.YtdmpphioflcofaaGreatLz9
import Derived.Test.YtdmpphioflcofaaGreatLzRefEntry
namespace Go.Proofs.YtdmpphioflcofaaGreat.K
open Go Go.RowKit

theorem heap_keepL {W : World} {l : Nat} {o : Obj} (x : Obj) (h : W.heap[l]? = some o) : (W.alloc x).heap[l]? = some o := (Below.heap_alloc W x l (Array.getElem?_eq_some_iff.1 h).1).trans h
theorem box10 {w : World} {g : Nat} {t : TypeId} {v0 v1 v2 v3 v4 v5 v6 v7 v8 v9 : Value} (h : w.heap[g]? = some (.cells #[v0, v1, v2, v3, v4, v5, v6, v7, v8, v9] t (0, 0))) : w.cell? ⟨g, 0, none⟩ = some v0 ∧ w.cell? ⟨g, 1, none⟩ = some v1 ∧ w.cell? ⟨g, 2, none⟩ = some v2 ∧ w.cell? ⟨g, 3, none⟩ = some v3 ∧ w.cell? ⟨g, 4, none⟩ = some v4 ∧ w.cell? ⟨g, 5, none⟩ = some v5 ∧ w.cell? ⟨g, 6, none⟩ = some v6 ∧ w.cell? ⟨g, 7, none⟩ = some v7 ∧ w.cell? ⟨g, 8, none⟩ = some v8 ∧ w.cell? ⟨g, 9, none⟩ = some v9 := ⟨block_cell (xs := [v0, v1, v2, v3, v4, v5, v6, v7, v8, v9]) h rfl, block_cell (xs := [v0, v1, v2, v3, v4, v5, v6, v7, v8, v9]) h rfl, block_cell (xs := [v0, v1, v2, v3, v4, v5, v6, v7, v8, v9]) h rfl, block_cell (xs := [v0, v1, v2, v3, v4, v5, v6, v7, v8, v9]) h rfl, block_cell (xs := [v0, v1, v2, v3, v4, v5, v6, v7, v8, v9]) h rfl, block_cell (xs := [v0, v1, v2, v3, v4, v5, v6, v7, v8, v9]) h rfl, block_cell (xs := [v0, v1, v2, v3, v4, v5, v6, v7, v8, v9]) h rfl, block_cell (xs := [v0, v1, v2, v3, v4, v5, v6, v7, v8, v9]) h rfl, block_cell (xs := [v0, v1, v2, v3, v4, v5, v6, v7, v8, v9]) h rfl, block_cell (xs := [v0, v1, v2, v3, v4, v5, v6, v7, v8, v9]) h rfl⟩
theorem rtruth_any (b : Bool) (w : World) : Calls Tryz.prog 36 #[.bool b] w fun e w' => e = .returned (.int .i64 (M.flag b)) ∧ w = w' := by
  cases b
  · go_enter Tryz.func36, Tryz.ntmps36
    go_wp2
    go_ret
    exact ⟨rfl, rfl⟩
  · go_enter Tryz.func36, Tryz.ntmps36
    go_wp2
    go_ret
    exact ⟨rfl, rfl⟩
set_option maxHeartbeats 8000000 in
set_option maxRecDepth 100000 in
theorem rLPut_any (l : M.Let) (A : Option Addr) (n c : Nat) (w : World) (hn : l.ents.length = n) (hE : EntsRd w A l.ents) (hD : ∀ e ∈ l.ents, e.data.length ≤ 1000000000000) :
    Calls Tryz.prog 14 #[.agg #[B8 l.kind, .int .i64 l.src, .int .i64 l.dst, .int .i64 l.term, .int .i64 l.index, .int .i64 l.was, .bool l.ok, .int .i64 l.commit, .int .i64 l.version, .slice A n c]] w (LPut w l) := by
  have HE := Lib.hid hE; have HN := Lib.hid hn; have HD := Lib.hid hD
  have BK0 := Lib.hid ((Bank.nil (Below.refl w.heap.size w)).box #[B8 l.kind, .int .i64 l.src, .int .i64 l.dst, .int .i64 l.term, .int .i64 l.index, .int .i64 l.was, .bool l.ok, .int .i64 l.commit, .int .i64 l.version, .slice A n c] 28 (by simp))
  have hcv := fun w => conv_B8_int (P := Tryz.prog) w 25 3 l.kind Tryz.underlying25 Tryz.underlying3
  clear hE hn hD
  go_enter Tryz.func14, Tryz.ntmps14
  go_wp2_with fail
  generalize w.alloc (.cells #[B8 l.kind, .int .i64 l.src, .int .i64 l.dst, .int .i64 l.term, .int .i64 l.index, .int .i64 l.was, .bool l.ok, .int .i64 l.commit, .int .i64 l.version, .slice A n c] 28) = w1 at *
  refine (rRight_any l A n c w1 HN.out (HE.out.since BK0.out.since) (fun e he => Nat.le_trans (HD.out e he) (by omega))).mono ?_
  rintro e w2 ⟨rfl, hs⟩
  have BK1 := Lib.hid (BK0.out.call hs)
  clear hs BK0
  by_cases hR : M.lright l = true
  rotate_left
  · have hR' : M.lright l = false := by simpa using hR
    rw [hR']
    have HFIN := Lib.hid (show LPut w l (.returned (.tuple #[.slice none 0 0, .int .i64 4])) w2 from ⟨none, 0, 0, by rw [(lput_bad hR').2]; rfl, by rw [(lput_bad hR').1]; rfl, by rw [(lput_bad hR').1]; exact ((Bank.nil BK1.out.since).none _ _)⟩)
    clear hR hR'
    go_wp2
    go_ret2
    exact HFIN.out
  have hlen : l.ents.length ≤ 4 := (M.lright_small l hR).2.2.2.2.2.2.2
  rw [hR]
  have hn4 : n ≤ 4 := by rw [← HN.out]; exact hlen
  have HR := Lib.hid hR
  clear hR hlen
  go_wp2_with fail
  have hB := BK1.out.drew
  have x0 := hB.cell 0 rfl 0 rfl
  have x1 := hB.cell 0 rfl 1 rfl
  have x2 := hB.cell 0 rfl 2 rfl
  have x3 := hB.cell 0 rfl 3 rfl
  have x4 := hB.cell 0 rfl 4 rfl
  have x5 := hB.cell 0 rfl 5 rfl
  have x6 := hB.cell 0 rfl 6 rfl
  have x7 := hB.cell 0 rfl 7 rfl
  have x8 := hB.cell 0 rfl 8 rfl
  have x9 := hB.cell 0 rfl 9 rfl
  have HY := Lib.hid (hB.boxAt 0 rfl).2
  go_region_held3 (fun w' => w'.cell? ⟨w.heap.size, 0, none⟩ = some (B8 l.kind) ∧ w'.cell? ⟨w.heap.size, 1, none⟩ = some (.int .i64 l.src) ∧ w'.cell? ⟨w.heap.size, 2, none⟩ = some (.int .i64 l.dst) ∧ w'.cell? ⟨w.heap.size, 3, none⟩ = some (.int .i64 l.term) ∧ w'.cell? ⟨w.heap.size, 4, none⟩ = some (.int .i64 l.index) ∧ w'.cell? ⟨w.heap.size, 5, none⟩ = some (.int .i64 l.was) ∧ w'.cell? ⟨w.heap.size, 6, none⟩ = some (.bool l.ok) ∧ w'.cell? ⟨w.heap.size, 7, none⟩ = some (.int .i64 l.commit) ∧ w'.cell? ⟨w.heap.size, 8, none⟩ = some (.int .i64 l.version) ∧ w'.cell? ⟨w.heap.size, 9, none⟩ = some (.slice A n c))
    (first
      | (go_split_ands; refine ⟨?_, ?_, ?_, ?_, ?_, ?_, ?_, ?_, ?_, ?_⟩ <;> assumption)
      | exact box10 (heap_keepL _ HY.out)
      | fail "keep")
    (first
      | (go_at_call 36; refine (rtruth_any l.ok _).mono ?_; rintro e w3 ⟨rfl, rfl⟩)
      | fail "arm")
  all_goals
    clear x0 x1 x2 x3 x4 x5 x6 x7 x8 x9
    have hnl : (#[.int .i64 (l.kind.toNat : Int), .int .i64 l.src, .int .i64 l.dst, .int .i64 l.term, .int .i64 l.index, .int .i64 l.was, .int .i64 (M.flag l.ok), .int .i64 l.commit, .int .i64 l.version, .int .i64 (n : Int)] : Array Value).toList = (M.lnums l).map (Value.int .i64) := by rw [← HN.out]; rfl
    have BK2 := Lib.hid (show Bank w _ [boxAcc w2.heap.size 3 ((M.lnums l).map (Value.int .i64)), boxAcc w.heap.size 28 #[B8 l.kind, .int .i64 l.src, .int .i64 l.dst, .int .i64 l.term, .int .i64 l.index, .int .i64 l.was, .bool l.ok, .int .i64 l.commit, .int .i64 l.version, .slice A n c].toList] from by
      have h := hB.box #[.int .i64 (l.kind.toNat : Int), .int .i64 l.src, .int .i64 l.dst, .int .i64 l.term, .int .i64 l.index, .int .i64 l.was, .int .i64 (M.flag l.ok), .int .i64 l.commit, .int .i64 l.version, .int .i64 (n : Int)] 3 (by simp)
      rw [hnl] at h
      exact h)
    clear hB BK1 hcv hnl HY
    go_wp2_with fail
    go_loopw [4, 6] (fun v i wr => ∃ (k N c' : Nat) (B : Option Addr), k ≤ 10 ∧ i = .int .i64 (k : Int) ∧ v = .slice B N c' ∧ N = 8 * k ∧ Bank w wr [rowAcc B N c' (M.nums ((M.lnums l).take k)), boxAcc w2.heap.size 3 ((M.lnums l).map (Value.int .i64)), boxAcc w.heap.size 28 #[B8 l.kind, .int .i64 l.src, .int .i64 l.dst, .int .i64 l.term, .int .i64 l.index, .int .i64 l.was, .bool l.ok, .int .i64 l.commit, .int .i64 l.version, .slice A n c].toList]) (fun _ i _ => 10 - (intOf i).toNat)
    case atStart => exact ⟨0, 0, 0, none, by omega, rfl, rfl, rfl, BK2.out.none _ _⟩
    case round =>
      clear BK2
      obtain ⟨k, N, c', B, hk, rfl, rfl, hN, hBk⟩ := hrel
      have BK := Lib.hid hBk; have HNK := Lib.hid hN
      have hNb : N ≤ 80 := by omega
      clear hBk hN
      have k0 : (0 : Int) ≤ (k : Int) := by omega
      rcases Nat.lt_or_ge k 10 with h1 | h1
      · have i1 : (k : Int) < 10 := by omega
        have hkl : k < (M.lnums l).length := h1
        have hc := BK.out.cell 1 rfl k (v := .int .i64 (M.lnums l)[k]) (by simp [hkl])
        go_wp2_with fail
        refine (rnum_made (M.lnums l)[k] wr).mono ?_
        rintro e w5 ⟨g, N1, c1, rfl, hN1, ho, hs⟩
        have hN8 : N1 = 8 := hN1
        subst hN8
        have BK5 := Lib.hid (BK.out.madeB hs ho)
        clear hs ho hN1 hc
        go_wp2_with (at_builtin; refine wpList_append_bytes BK5.out rfl _ _ 22 rfl 5 infoByte Tryz.underlying22 1 B N c' (M.nums ((M.lnums l).take k)) rfl rfl _ _ _ (M.num (M.lnums l)[k]) rfl (BK5.out.row 0 rfl) (by omega) ?_; intro A' n' c'' w6 hn' hB6; have BK6 := Lib.hid hB6.drop; have HN' := Lib.hid hn'; clear hn' hB6)
        go_roundw
        case rel =>
          refine ⟨k + 1, n', c'', A', by omega, by go_num, rfl, by rw [HN'.out, HNK.out]; omega, ?_⟩
          have h := BK6.out
          rw [List.take_succ_eq_append_getElem hkl, M.nums_snoc]
          exact h
        case measure => simp [intOf]; omega
      · have i1 : ¬ (k : Int) < 10 := by omega
        have BK7 := Lib.hid (show Bank w wr [rowAcc B N c' (M.nums (M.lnums l)), boxAcc w.heap.size 28 #[B8 l.kind, .int .i64 l.src, .int .i64 l.dst, .int .i64 l.term, .int .i64 l.index, .int .i64 l.was, .bool l.ok, .int .i64 l.commit, .int .i64 l.version, .slice A n c].toList] from by
          have h := BK.out.sub (.cons_cons _ (.cons _ (.cons_cons _ .slnil)))
          rw [show k = (M.lnums l).length by show k = 10; omega, List.take_length] at h
          exact h)
        clear BK HNK
        go_wp2_with fail
        go_loopw [4, 7] (fun v i wr => ∃ (k N c' : Nat) (B : Option Addr), k ≤ n ∧ i = .int .i64 (k : Int) ∧ v = .slice B N c' ∧ N ≤ 80 + k * 2000000000000 ∧ Bank w wr [rowAcc B N c' (M.nums (M.lnums l) ++ M.ents (l.ents.take k)), boxAcc w.heap.size 28 #[B8 l.kind, .int .i64 l.src, .int .i64 l.dst, .int .i64 l.term, .int .i64 l.index, .int .i64 l.was, .bool l.ok, .int .i64 l.commit, .int .i64 l.version, .slice A n c].toList]) (fun _ i _ => n - (intOf i).toNat)
        case atStart => exact ⟨0, N, c', B, by omega, rfl, rfl, by omega, by have h := BK7.out; simpa [M.ents] using h⟩
        case round =>
          clear BK7
          obtain ⟨k, N, c', B, hk, rfl, rfl, hNk, hBk⟩ := hrel
          have BK := Lib.hid hBk
          clear hBk
          have k0 : (0 : Int) ≤ (k : Int) := by omega
          rcases Nat.lt_or_ge k n with h1 | h1
          · have i1 : (k : Int) < (n : Int) := by omega
            have hkl : k < l.ents.length := by rw [HN.out]; exact h1
            obtain ⟨b, o, rfl, A', m', c2, ⟨y0, y1, y2, y3, y4, y5⟩, hrd⟩ := HE.out.since BK.out.since k hkl
            obtain ⟨x, hx⟩ : ∃ x, x = l.ents[k] := ⟨_, rfl⟩
            rw [← hx] at y0 y1 y2 y3 y4 hrd
            have hdl : x.data.length ≤ 1000000000000 := by rw [hx]; exact HD.out _ (List.getElem_mem _)
            have hml : x.data.length = m' := hrd.len
            have hel : (M.ent x).length = 48 + m' := by rw [M.ent_length, hml]
            have HX := Lib.hid hx; have HRD := Lib.hid hrd; have HEL := Lib.hid hel
            have hm' : m' ≤ 1000000000000 := by omega
            have x9 := BK.out.cell 1 rfl 9 rfl
            clear hx hrd hdl hml hel
            go_wp2_with fail
            clear y0 y1 y2 y3 y4 y5 x9
            refine (rentry_any x.term (x.kind.toNat : Int) x.version x.server x.kind x.good A' m' c2 x.data _ HRD.out hm' rfl).mono ?_
            rintro e w5 ⟨g5, N5, c5, rfl, hN5, ho5, hb5⟩
            have BK5 := Lib.hid (BK.out.madeB hb5 ho5)
            have hn5 : N5 ≤ 48 + m' := by rw [hN5]; exact Nat.le_of_eq HEL.out
            clear hN5 ho5 hb5
            go_wp2_with (at_builtin; refine wpList_append_bytes BK5.out rfl _ _ 22 rfl 5 infoByte Tryz.underlying22 1 B N c' (M.nums (M.lnums l) ++ M.ents (l.ents.take k)) rfl rfl _ _ _ (M.ent x) rfl (BK5.out.row 0 rfl) (by omega) ?_; intro A6 n6 c6 w6 hn6 hB6; have BK6 := Lib.hid hB6.drop; have hn6' := Nat.le_of_eq hn6; clear hn6 hB6)
            go_roundw
            case rel =>
              refine ⟨k + 1, n6, c6, A6, by omega, by go_num, rfl, by omega, ?_⟩
              have h := BK6.out
              rw [HX.out] at h
              rw [List.take_succ_eq_append_getElem hkl, M.ents_snoc, ← List.append_assoc]
              exact h
            case measure => simp [intOf]; omega
          · have i1 : ¬ (k : Int) < (n : Int) := by omega
            have hkm : k = l.ents.length := by rw [HN.out]; omega
            have x9 := BK.out.cell 1 rfl 9 rfl
            have HFIN := Lib.hid (show LPut w l (.returned (.tuple #[.slice B N c', .int .i64 0])) wr from by
              have h := BK.out
              rw [hkm, List.take_length] at h
              have h2 := h.sub (.cons_cons _ (.cons _ .slnil))
              refine ⟨B, N, c', by rw [(lput_good HR.out).2]; rfl, ?_, by rw [(lput_good HR.out).1]; exact h2⟩
              rw [(lput_good HR.out).1]
              exact (h.row 0 rfl).len.symm)
            clear hkm
            go_wp2
            go_ret2
            exact HFIN.out
end Go.Proofs.YtdmpphioflcofaaGreat.K
