/- The law LetterPuts answers true. -/
import Derived.Test.YtdmpphioflcofaaGreatLz9
import Derived.Test.YtdmpphioflcofaaGreatLzRefLPut
namespace Go.Proofs.YtdmpphioflcofaaGreat.K
open Go Go.RowKit

theorem ents_len_le (es : List M.Ent) (N : Nat) (h : ∀ e ∈ es, e.data.length ≤ N) : (M.ents es).length ≤ es.length * (48 + N) := by
  induction es with
  | nil => simp [M.ents]
  | cons e es ih =>
    have h1 := ih fun x hx => h x (List.mem_cons_of_mem _ hx)
    have h2 := h e (List.mem_cons_self ..)
    simp only [M.ents, List.flatMap_cons, List.length_append, List.length_cons, M.ent_length] at *
    rw [Nat.add_mul]
    omega
theorem lput_len (l : M.Let) (N : Nat) (hD : ∀ e ∈ l.ents, e.data.length ≤ N) : (M.lput l).length ≤ 80 + 4 * (48 + N) := by
  unfold M.lput
  split
  · rename_i h
    have h4 := (M.lright_small l h).2.2.2.2.2.2.2
    rw [M.lbytes, List.length_append, M.nums_length]
    have h2 := ents_len_le l.ents N hD
    have h3 : l.ents.length * (48 + N) ≤ 4 * (48 + N) := Nat.mul_le_mul_right _ h4
    have h5 : (M.lnums l).length = 10 := rfl
    omega
  · exact Nat.zero_le _
theorem box20 {w : World} {g h : Nat} {t : TypeId} {v0 v1 v2 v3 v4 v5 v6 v7 v8 v9 u0 u1 u2 u3 u4 u5 u6 u7 u8 u9 : Value} (hg : w.heap[g]? = some (.cells #[v0, v1, v2, v3, v4, v5, v6, v7, v8, v9] t (0, 0))) (hh : w.heap[h]? = some (.cells #[u0, u1, u2, u3, u4, u5, u6, u7, u8, u9] t (0, 0))) : w.cell? ⟨g, 0, none⟩ = some v0 ∧ w.cell? ⟨g, 1, none⟩ = some v1 ∧ w.cell? ⟨g, 2, none⟩ = some v2 ∧ w.cell? ⟨g, 3, none⟩ = some v3 ∧ w.cell? ⟨g, 4, none⟩ = some v4 ∧ w.cell? ⟨g, 5, none⟩ = some v5 ∧ w.cell? ⟨g, 6, none⟩ = some v6 ∧ w.cell? ⟨g, 7, none⟩ = some v7 ∧ w.cell? ⟨g, 8, none⟩ = some v8 ∧ w.cell? ⟨g, 9, none⟩ = some v9 ∧ w.cell? ⟨h, 0, none⟩ = some u0 ∧ w.cell? ⟨h, 1, none⟩ = some u1 ∧ w.cell? ⟨h, 2, none⟩ = some u2 ∧ w.cell? ⟨h, 3, none⟩ = some u3 ∧ w.cell? ⟨h, 4, none⟩ = some u4 ∧ w.cell? ⟨h, 5, none⟩ = some u5 ∧ w.cell? ⟨h, 6, none⟩ = some u6 ∧ w.cell? ⟨h, 7, none⟩ = some u7 ∧ w.cell? ⟨h, 8, none⟩ = some u8 ∧ w.cell? ⟨h, 9, none⟩ = some u9 := ⟨block_cell (xs := [v0, v1, v2, v3, v4, v5, v6, v7, v8, v9]) hg rfl, block_cell (xs := [v0, v1, v2, v3, v4, v5, v6, v7, v8, v9]) hg rfl, block_cell (xs := [v0, v1, v2, v3, v4, v5, v6, v7, v8, v9]) hg rfl, block_cell (xs := [v0, v1, v2, v3, v4, v5, v6, v7, v8, v9]) hg rfl, block_cell (xs := [v0, v1, v2, v3, v4, v5, v6, v7, v8, v9]) hg rfl, block_cell (xs := [v0, v1, v2, v3, v4, v5, v6, v7, v8, v9]) hg rfl, block_cell (xs := [v0, v1, v2, v3, v4, v5, v6, v7, v8, v9]) hg rfl, block_cell (xs := [v0, v1, v2, v3, v4, v5, v6, v7, v8, v9]) hg rfl, block_cell (xs := [v0, v1, v2, v3, v4, v5, v6, v7, v8, v9]) hg rfl, block_cell (xs := [v0, v1, v2, v3, v4, v5, v6, v7, v8, v9]) hg rfl, block_cell (xs := [u0, u1, u2, u3, u4, u5, u6, u7, u8, u9]) hh rfl, block_cell (xs := [u0, u1, u2, u3, u4, u5, u6, u7, u8, u9]) hh rfl, block_cell (xs := [u0, u1, u2, u3, u4, u5, u6, u7, u8, u9]) hh rfl, block_cell (xs := [u0, u1, u2, u3, u4, u5, u6, u7, u8, u9]) hh rfl, block_cell (xs := [u0, u1, u2, u3, u4, u5, u6, u7, u8, u9]) hh rfl, block_cell (xs := [u0, u1, u2, u3, u4, u5, u6, u7, u8, u9]) hh rfl, block_cell (xs := [u0, u1, u2, u3, u4, u5, u6, u7, u8, u9]) hh rfl, block_cell (xs := [u0, u1, u2, u3, u4, u5, u6, u7, u8, u9]) hh rfl, block_cell (xs := [u0, u1, u2, u3, u4, u5, u6, u7, u8, u9]) hh rfl, block_cell (xs := [u0, u1, u2, u3, u4, u5, u6, u7, u8, u9]) hh rfl⟩
theorem esum_data {es : List M.Ent} {n : Nat} (hl : es.length = n) (h : n + esum es n ≤ 1000) : ∀ e ∈ es, e.data.length ≤ 8007 := fun e he => by
  obtain ⟨i, hi, rfl⟩ := List.mem_iff_getElem.1 he
  have := esum_le es n i (by omega) (by omega)
  omega
set_option maxHeartbeats 16000000 in
set_option maxRecDepth 100000 in
theorem LetterPuts_any (l : M.Let) (A : Option Addr) (n c : Nat) (w : World) (hE : EntsRd w A l.ents) (hl : l.ents.length = n) (hn : n ≤ 1000000000000000) (hD : ∀ e ∈ l.ents, e.data.length ≤ 9223372036854775807) :
    Calls Tryz.prog 21 #[.agg #[B8 l.kind, .int .i64 l.src, .int .i64 l.dst, .int .i64 l.term, .int .i64 l.index, .int .i64 l.was, .bool l.ok, .int .i64 l.commit, .int .i64 l.version, .slice A n c]] w (SaidB w true) := by
  have HE := Lib.hid hE; have HL := Lib.hid hl; have HD := Lib.hid hD
  have BK0 := Lib.hid ((Bank.nil (Below.refl w.heap.size w)).box #[B8 l.kind, .int .i64 l.src, .int .i64 l.dst, .int .i64 l.term, .int .i64 l.index, .int .i64 l.was, .bool l.ok, .int .i64 l.commit, .int .i64 l.version, .slice A n c] 28 (by simp))
  clear hE hl hD
  go_enter Tryz.func21, Tryz.ntmps21
  go_wp2_with fail
  generalize w.alloc (.cells #[B8 l.kind, .int .i64 l.src, .int .i64 l.dst, .int .i64 l.term, .int .i64 l.index, .int .i64 l.was, .bool l.ok, .int .i64 l.commit, .int .i64 l.version, .slice A n c] 28) = w1 at *
  refine (LetterOf_any l A n c w1 (HE.out.since BK0.out.since) HL.out hn HD.out).mono ?_
  rintro e w2 ⟨r, rfl, hr, hle, hs⟩
  have BK2 := Lib.hid (BK0.out.call hs)
  clear hs BK0
  by_cases h1 : 1000 < r + 1
  · have i1 : (1000 : Int) < (r : Int) + 1 := by omega
    go_wp2_with fail
    refine (awake24_any w2).mono ?_
    rintro e w3 ⟨rfl, hs⟩
    have HFIN := Lib.hid (BK2.out.call hs).since
    clear hs
    go_wp2_with fail
    go_ret
    exact ⟨rfl, HFIN.out⟩
  have i1 : ¬ (1000 : Int) < (r : Int) + 1 := by omega
  have hle2 := hle (by omega)
  have hn2 : n ≤ 1000 := by omega
  have HDD := Lib.hid (esum_data HL.out hle2)
  clear hle hle2 hn HD
  have x0 := BK2.out.cell 0 rfl 0 rfl
  have x1 := BK2.out.cell 0 rfl 1 rfl
  have x2 := BK2.out.cell 0 rfl 2 rfl
  have x3 := BK2.out.cell 0 rfl 3 rfl
  have x4 := BK2.out.cell 0 rfl 4 rfl
  have x5 := BK2.out.cell 0 rfl 5 rfl
  have x6 := BK2.out.cell 0 rfl 6 rfl
  have x7 := BK2.out.cell 0 rfl 7 rfl
  have x8 := BK2.out.cell 0 rfl 8 rfl
  have x9 := BK2.out.cell 0 rfl 9 rfl
  go_wp2_with fail
  clear i1 h1 x0 x1 x2 x3 x4 x5 x6 x7 x8 x9
  refine (LentLetter_any l A n c w2 HL.out (HE.out.since BK2.out.since) (by omega) (fun e he => Nat.le_trans (HDD.out e he) (by omega))).mono ?_
  rintro e w3 ⟨g, d, rfl, hLD, hs⟩
  have hb3 := ((BK2.out.call hs).box #[B8 l.kind, .int .i64 l.src, .int .i64 l.dst, .int .i64 l.term, .int .i64 l.index, .int .i64 l.was, .bool l.ok, .int .i64 l.commit, .int .i64 l.version, .slice (some ⟨g, 0, none⟩) n (n + 12)] 28 (by simp))
  have HX := Lib.hid (hb3.boxAt 0 rfl).2
  have HY := Lib.hid (hb3.boxAt 1 rfl).2
  have LD := Lib.hid (hLD.since (Since.alloc (Below.refl _ _) (.cells #[B8 l.kind, .int .i64 l.src, .int .i64 l.dst, .int .i64 l.term, .int .i64 l.index, .int .i64 l.was, .bool l.ok, .int .i64 l.commit, .int .i64 l.version, .slice (some ⟨g, 0, none⟩) n (n + 12)] 28)))
  have S5 := Lib.hid hb3.since
  clear hLD hs hb3 BK2
  go_wp2_with fail
  generalize hX3 : w3.heap.size = X3 at *
  generalize w3.alloc (.cells #[B8 l.kind, .int .i64 l.src, .int .i64 l.dst, .int .i64 l.term, .int .i64 l.index, .int .i64 l.was, .bool l.ok, .int .i64 l.commit, .int .i64 l.version, .slice (some ⟨g, 0, none⟩) n (n + 12)] 28) = w5 at *
  clear hX3
  have HE5 := Lib.hid (HE.out.since S5.out)
  have HR5 := Lib.hid (LD.out.rd HL.out)
  have HDP := Lib.hid (fun e he => Nat.le_trans (HDD.out e he) (show 8007 ≤ 1000000000000 by omega))
  have HLEN := Lib.hid (show (M.lput l).length ≤ 1000000 from Nat.le_trans (lput_len l 8007 HDD.out) (by omega))
  have HLE := Lib.hid (show ∃ ee : Int, ee = (M.lputE l : Int) from ⟨_, rfl⟩)
  refine (lPut_any l (some ⟨g, 0, none⟩) n (n + 12) w5 HL.out (by omega) HR5.out HDP.out).mono ?_
  rintro e w6 ⟨A6, N6, c6, rfl, hN6, hB⟩
  have HN6 := Lib.hid (show N6 ≤ 1000000 by rw [hN6]; exact HLEN.out)
  have BK6 := Lib.hid hB
  clear hN6 hB
  have hB := BK6.out
  obtain ⟨x0, x1, x2, x3, x4, x5, x6, x7, x8, x9⟩ := box10 (Since.at hB.since HX.out)
  clear hB
  go_wp2_with fail
  clear x0 x1 x2 x3 x4 x5 x6 x7 x8 x9
  refine (lPut_any l (some ⟨g, 0, none⟩) n (n + 12) w6 HL.out (by omega) (HR5.out.since BK6.out.since) HDP.out).mono ?_
  rintro e w7 ⟨A7, N7, c7, rfl, hN7, hB⟩
  have HN7 := Lib.hid (show N7 ≤ 1000000 by rw [hN7]; exact HLEN.out)
  have BK7 := Lib.hid (bank_under' BK6.out hB)
  clear hN7 hB BK6
  have hB := BK7.out
  obtain ⟨y0, y1, y2, y3, y4, y5, y6, y7, y8, y9⟩ := box10 (Since.at hB.since HY.out)
  clear hB
  go_wp2_with fail
  clear y0 y1 y2 y3 y4 y5 y6 y7 y8 y9
  refine (rLPut_any l A n c w7 HL.out (HE5.out.since BK7.out.since) HDP.out).mono ?_
  rintro e w8 ⟨A8, N8, c8, rfl, hN8, hB⟩
  have BK8 := Lib.hid (show Bank w5 w8 [rowAcc A8 N8 c8 (M.lput l), rowAcc A7 N7 c7 (M.lput l), rowAcc A6 N6 c6 (M.lput l)] from bank_under' BK7.out hB)
  clear hN8 hB BK7
  obtain ⟨ee, hee⟩ : ∃ ee : Int, ee = (M.lputE l : Int) := ⟨_, rfl⟩
  rw [← hee]
  clear hee HLE
  obtain ⟨rr, hrr⟩ : ∃ rr : Bool, rr = M.lright l := ⟨_, rfl⟩
  have HRR := Lib.hid hrr
  clear hrr
  go_wp2_with fail
  have hB := BK8.out.drew
  obtain ⟨x0, x1, x2, x3, x4, x5, x6, x7, x8, x9⟩ := box10 (Since.at hB.since HX.out); obtain ⟨y0, y1, y2, y3, y4, y5, y6, y7, y8, y9⟩ := box10 (Since.at hB.since HY.out)
  go_region_held3 (fun w' => w'.cell? ⟨X3, 0, none⟩ = some (B8 l.kind) ∧ w'.cell? ⟨X3, 1, none⟩ = some (.int .i64 l.src) ∧ w'.cell? ⟨X3, 2, none⟩ = some (.int .i64 l.dst) ∧ w'.cell? ⟨X3, 3, none⟩ = some (.int .i64 l.term) ∧ w'.cell? ⟨X3, 4, none⟩ = some (.int .i64 l.index) ∧ w'.cell? ⟨X3, 5, none⟩ = some (.int .i64 l.was) ∧ w'.cell? ⟨X3, 6, none⟩ = some (.bool l.ok) ∧ w'.cell? ⟨X3, 7, none⟩ = some (.int .i64 l.commit) ∧ w'.cell? ⟨X3, 8, none⟩ = some (.int .i64 l.version) ∧ w'.cell? ⟨X3, 9, none⟩ = some (.slice (some ⟨g, 0, none⟩) n (n + 12)) ∧ w'.cell? ⟨w.heap.size, 0, none⟩ = some (B8 l.kind) ∧ w'.cell? ⟨w.heap.size, 1, none⟩ = some (.int .i64 l.src) ∧ w'.cell? ⟨w.heap.size, 2, none⟩ = some (.int .i64 l.dst) ∧ w'.cell? ⟨w.heap.size, 3, none⟩ = some (.int .i64 l.term) ∧ w'.cell? ⟨w.heap.size, 4, none⟩ = some (.int .i64 l.index) ∧ w'.cell? ⟨w.heap.size, 5, none⟩ = some (.int .i64 l.was) ∧ w'.cell? ⟨w.heap.size, 6, none⟩ = some (.bool l.ok) ∧ w'.cell? ⟨w.heap.size, 7, none⟩ = some (.int .i64 l.commit) ∧ w'.cell? ⟨w.heap.size, 8, none⟩ = some (.int .i64 l.version) ∧ w'.cell? ⟨w.heap.size, 9, none⟩ = some (.slice A n c))
    (first
      | with_reducible exact box20 (Since.at hB.since HX.out) (Since.at hB.since HY.out)
      | with_reducible exact box20 (heap_keepL _ (Since.at hB.since HX.out)) (heap_keepL _ (Since.at hB.since HY.out))
      | fail "keep")
    (first
    | (go_at_call 16; refine (lRight_any l (some ⟨g, 0, none⟩) n (n + 12) _ HL.out (by omega) (HR5.out.since hB.since)).mono ?_; rintro e w9 ⟨rfl, hs9⟩; rw [← HRR.out]; have hB := hB.call hs9; clear hs9)
    | (go_at_call 17; refine (rRight_any l A n c _ HL.out (HE5.out.since hB.since) (fun e he => Nat.le_trans (HDD.out e he) (by omega))).mono ?_; rintro e w10 ⟨rfl, hs10⟩; rw [← HRR.out]; have hB := hB.call hs10; clear hs10)
    | (go_at_call 15; refine (same_made (hB.row 2 rfl) (hB.row 0 rfl) (by have := HN6.out; omega) (Below.refl _ _)).mono ?_; rintro e w11 ⟨rfl, hs11⟩; have hB := hB.call hs11; clear hs11)
    | (go_at_call 43; refine (KeptLetter_any l g d A n c _ _ (LD.out.since hB.since) HL.out (HE5.out.since hB.since) (by omega) (fun e he => Nat.le_trans (HDD.out e he) (by omega))).mono ?_; rintro e w12 ⟨rfl, hs12⟩; have hB := hB.call hs12; clear hs12)
    | (go_at_call 44; refine (apart_lit [(⟨A6, N6, c6⟩, M.lput l), (⟨A7, N7, c7⟩, M.lput l)] _ 2 2 rfl rfl (hB.sub (.cons _ (.cons_cons _ (.cons_cons _ .slnil)))) (by simp) (by intro p hp; simp at hp; rcases hp with rfl | rfl <;> first | exact Nat.le_trans HN6.out (by omega) | exact Nat.le_trans HN7.out (by omega))).mono ?_; rintro e w13 ⟨rfl, hs13⟩; have hB := Bank.nil hs13; clear hs13)
    | (go_at_call 5; refine (awake24_any _).mono ?_; rintro e w14 ⟨rfl, hs14⟩; have hB := hB.call hs14; clear hs14)
    | fail "arm")
  all_goals
    have HFIN := Lib.hid (S5.out.add hB.since)
    clear hB
    go_wp2_with fail
    go_ret
    exact ⟨rfl, HFIN.out⟩
end Go.Proofs.YtdmpphioflcofaaGreat.K
