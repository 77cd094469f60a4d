/- The contract of barbicankit.ApartLetters at two lists of one letter each: rows in blocks of their own are told to lie apart. -/
import Derived.Test.YtdmpphioflcofaaGreatLzApartLet
namespace Go.Proofs.YtdmpphioflcofaaGreat.K
open Go Go.RowKit

theorem own_same {w w' : World} {base es n : Nat} {e : TypeId} {v : Value} {xs : List Value} (h : w.ownsRow base e es v n xs) (hb : ∀ b, v.ownBlock = some b → w'.heap[b]? = w.heap[b]?) : w'.ownsRow base e es v n xs :=
  ⟨h.1, h.2.imp id fun ⟨g, cap, cur, hv, hb', hg, r⟩ => ⟨g, cap, cur, hv, hb', (hb g (by rw [hv]; rfl)).trans hg, r⟩⟩
/-- a block of cells as a row of one element -/
theorem own_oneL {w : World} {base g es : Nat} {t : TypeId} {vs : List Value} (hg : w.heap[g]? = some (.cells vs.toArray t (0, 0))) (hb : base ≤ g) (hl : vs.length = es) : w.ownsRow base t es (.slice (some ⟨g, 0, none⟩) 1 1) 1 vs :=
  ⟨by omega, .inr ⟨g, 1, vs.toArray, rfl, hb, hg, Nat.le_refl _, by unfold maxLen; omega, by simp; omega, by rw [Nat.one_mul]; show vs.take es = vs; rw [List.take_of_length_le (by omega)]⟩⟩
/-- the blocks of some accounts -/
def ZB (Z : List Acc) (b : Nat) : Prop := ∃ p ∈ Z, p.v.ownBlock = some b
def rowsR (xs : List EV) (j : Nat) : Rw := match xs[j]? with | some x => ⟨x.A, x.n, x.c⟩ | none => ⟨none, 0, 0⟩
def rowsF (xs : List EV) (j : Nat) : List (BitVec 8) := match xs[j]? with | some x => x.e.data | none => []
theorem rowsR_at (xs : List EV) (j : Nat) (hj : j < xs.length) : rowsR xs j = ⟨xs[j].A, xs[j].n, xs[j].c⟩ := by simp [rowsR, List.getElem?_eq_getElem hj]
theorem rowsF_at (xs : List EV) (j : Nat) (hj : j < xs.length) : rowsF xs j = xs[j].e.data := by simp [rowsF, List.getElem?_eq_getElem hj]
theorem rows_sit {w0 w : World} {xs : List EV} {Z : List Acc} (h : Bank w0 w (Z ++ xs.map EV.acc)) : Sit w w0.heap.size 5 xs.length (ZB Z) (rowsR xs) (rowsF xs) 0 r0 F0 := by
  have hm : ∀ j (hj : j < xs.length), xs[j].acc ∈ Z ++ xs.map EV.acc := fun j hj => List.mem_append_right _ (List.mem_map_of_mem (List.getElem_mem hj))
  have hsep := List.pairwise_append.1 h.sep
  have hp := List.pairwise_map.1 hsep.2.1
  refine ⟨fun j hj => ?_, fun i j hi hj hij b h1 h2 => ?_, fun _ h => absurd h (Nat.not_lt_zero _), fun _ _ _ h => absurd h (Nat.not_lt_zero _), fun _ _ h => absurd h (Nat.not_lt_zero _), fun b hb => ?_⟩
  · rw [rowsR_at xs j hj, rowsF_at xs j hj]
    exact h.own _ (hm j hj)
  · rw [rowsR_at xs i hi] at h1
    rw [rowsR_at xs j hj] at h2
    rcases Nat.lt_or_gt_of_ne hij with h3 | h3
    · exact List.pairwise_iff_getElem.1 hp i j hi hj h3 b h1 h2
    · exact List.pairwise_iff_getElem.1 hp j i hj hi h3 b h2 h1
  · obtain ⟨p, hp, hpb⟩ := hb
    refine ⟨(h.lt (List.mem_append_left _ hp) hpb).2, fun j hj h1 => ?_, fun _ h => absurd h (Nat.not_lt_zero _)⟩
    rw [rowsR_at xs j hj] at h1
    exact hsep.2.2 p hp _ (List.mem_map_of_mem (List.getElem_mem hj)) b hpb h1
def twoGR (x y : G.Rw) : Nat → G.Rw
  | 0 => x | _ => y
def twoGF (x y : List Value) : Nat → List Value
  | 0 => x | _ => y
theorem two_sit {w : World} {base es : Nat} {e : TypeId} {x y : G.Rw} {vx vy : List Value} {K : Nat → Prop} (hx : x.own w base e es vx) (hy : y.own w base e es vy) (hxy : ∀ b, x.blk = some b → y.blk ≠ some b)
    (hz : ∀ b, K b → b < w.heap.size ∧ x.blk ≠ some b ∧ y.blk ≠ some b) : G.Sit w base e es 2 K (twoGR x y) (twoGF vx vy) 0 G.r0 G.F0 := by
  refine ⟨fun j hj => ?_, fun i j hi hj hij b h1 h2 => ?_, fun _ h => absurd h (Nat.not_lt_zero _), fun _ _ _ h => absurd h (Nat.not_lt_zero _), fun _ _ h => absurd h (Nat.not_lt_zero _), fun b hb => ⟨(hz b hb).1, fun j hj => ?_, fun _ h => absurd h (Nat.not_lt_zero _)⟩⟩
  · rcases j with _ | _ | j
    · exact hx
    · exact hy
    · omega
  · rcases i with _ | _ | i <;> rcases j with _ | _ | j
    all_goals first | (exact absurd rfl hij) | (exact hxy b h1 h2) | (exact hxy b h2 h1) | omega
  · rcases j with _ | _ | j
    · exact (hz b hb).2.1
    · exact (hz b hb).2.2
    · omega
def nil21L : List Value := bag3 (.slice none 0 0) (.slice none 0 0) (.slice none 0 0)
/-- what lies beside the bag -/
def BesL (S g0 g1 : Nat) (x0 x1 : M.Let) (A0 : Option Addr) (n0 c0 : Nat) (A1 : Option Addr) (n1 c1 : Nat) (e0 e1 : List EV) : List Acc :=
  boxAcc S 35 [.slice (some ⟨g0, 0, none⟩) 1 1, .slice (some ⟨g1, 0, none⟩) 1 1] :: boxAcc g0 28 (letL x0 A0 n0 c0) :: boxAcc g1 28 (letL x1 A1 n1 c1) :: evsAcc A0 n0 c0 e0 :: evsAcc A1 n1 c1 e1 :: (e0 ++ e1).map EV.acc
/-- apart, over such a bag -/
theorem apartL_any {w0 : World} (X S g0 g1 : Nat) (x0 x1 : M.Let) (A0 : Option Addr) (n0 c0 : Nat) (A1 : Option Addr) (n1 c1 : Nat) (e0 e1 : List EV) (b e l : Ls) (w : World)
    (hB : BagL w0 w X b e l (BesL S g0 g1 x0 x1 A0 n0 c0 A1 n1 c1 e0 e1)) (hb : b.n = (e0 ++ e1).length ∧ b.xs = (e0 ++ e1).map EV.v) (he : e.n = 2 ∧ e.xs = [.slice A0 n0 c0, .slice A1 n1 c1]) (hl : l.n = 2 ∧ l.xs = [.slice (some ⟨g0, 0, none⟩) 1 1, .slice (some ⟨g1, 0, none⟩) 1 1])
    (hn0 : n0 ≤ 1000) (hn1 : n1 ≤ 1000) (hnn : (e0 ++ e1).length ≤ 1000000) (hd : ∀ x ∈ e0 ++ e1, x.n ≤ 1000000000) :
    Calls Tryz.prog 33 #[.pointer (some ⟨X, 0, none⟩)] w fun r w' => r = .returned (.bool true) ∧ Since w0 w' := by
  obtain ⟨bA, bn, bc, bxs⟩ := b
  obtain ⟨eA, en, ec, exs⟩ := e
  obtain ⟨lA, ln, lc, lxs⟩ := l
  obtain ⟨rfl, rfl⟩ := hb
  obtain ⟨rfl, rfl⟩ := he
  obtain ⟨rfl, rfl⟩ := hl
  have hB' : Bank w0 w ([boxAcc X 79 (bag3 (.slice bA (e0 ++ e1).length bc) (.slice eA 2 ec) (.slice lA 2 lc)), lstAcc (.slice bA (e0 ++ e1).length bc) (e0 ++ e1).length 22 ((e0 ++ e1).map EV.v), lstAcc (.slice eA 2 ec) 2 26 [.slice A0 n0 c0, .slice A1 n1 c1], lstAcc (.slice lA 2 lc) 2 35 [.slice (some ⟨g0, 0, none⟩) 1 1, .slice (some ⟨g1, 0, none⟩) 1 1],
    boxAcc S 35 [.slice (some ⟨g0, 0, none⟩) 1 1, .slice (some ⟨g1, 0, none⟩) 1 1], boxAcc g0 28 (letL x0 A0 n0 c0), boxAcc g1 28 (letL x1 A1 n1 c1), evsAcc A0 n0 c0 e0, evsAcc A1 n1 c1 e1] ++ (e0 ++ e1).map EV.acc) := hB
  obtain ⟨L15, rfl⟩ := own_someB (hB'.at 2 rfl) (by show 0 < 2; omega)
  obtain ⟨L18, rfl⟩ := own_someB (hB'.at 3 rfl) (by show 0 < 2; omega)
  have hXb := hB'.boxAt 0 rfl
  have hG0 := hB'.boxAt 5 rfl
  have hG1 := hB'.boxAt 6 rfl
  have hsz : w0.heap.size ≤ w.heap.size := hB'.since.size
  have ltOf : ∀ (i : Nat) (p : Acc) (b : Nat), ([boxAcc X 79 (bag3 (.slice bA (e0 ++ e1).length bc) (.slice (some ⟨L15, 0, none⟩) 2 ec) (.slice (some ⟨L18, 0, none⟩) 2 lc)), lstAcc (.slice bA (e0 ++ e1).length bc) (e0 ++ e1).length 22 ((e0 ++ e1).map EV.v), lstAcc (.slice (some ⟨L15, 0, none⟩) 2 ec) 2 26 [.slice A0 n0 c0, .slice A1 n1 c1], lstAcc (.slice (some ⟨L18, 0, none⟩) 2 lc) 2 35 [.slice (some ⟨g0, 0, none⟩) 1 1, .slice (some ⟨g1, 0, none⟩) 1 1],
    boxAcc S 35 [.slice (some ⟨g0, 0, none⟩) 1 1, .slice (some ⟨g1, 0, none⟩) 1 1], boxAcc g0 28 (letL x0 A0 n0 c0), boxAcc g1 28 (letL x1 A1 n1 c1), evsAcc A0 n0 c0 e0, evsAcc A1 n1 c1 e1] ++ (e0 ++ e1).map EV.acc)[i]? = some p → p.v.ownBlock = some b → b < w.heap.size := fun i p b hi hb => (hB'.lt (List.mem_of_getElem? hi) hb).2
  have _h15X : L15 ≠ X := fun h => hB'.sepAt (i := 2) (j := 0) rfl rfl (by decide) L15 rfl (by rw [h]; rfl)
  refine (apart3_any X (.slice bA (e0 ++ e1).length bc) (.slice (some ⟨L15, 0, none⟩) 2 ec) (.slice (some ⟨L18, 0, none⟩) 2 lc) w0.heap.size
    (ZB [boxAcc X 79 (bag3 (.slice bA (e0 ++ e1).length bc) (.slice (some ⟨L15, 0, none⟩) 2 ec) (.slice (some ⟨L18, 0, none⟩) 2 lc)), lstAcc (.slice bA (e0 ++ e1).length bc) (e0 ++ e1).length 22 ((e0 ++ e1).map EV.v), lstAcc (.slice (some ⟨L15, 0, none⟩) 2 ec) 2 26 [.slice A0 n0 c0, .slice A1 n1 c1], lstAcc (.slice (some ⟨L18, 0, none⟩) 2 lc) 2 35 [.slice (some ⟨g0, 0, none⟩) 1 1, .slice (some ⟨g1, 0, none⟩) 1 1],
      boxAcc S 35 [.slice (some ⟨g0, 0, none⟩) 1 1, .slice (some ⟨g1, 0, none⟩) 1 1], boxAcc g0 28 (letL x0 A0 n0 c0), boxAcc g1 28 (letL x1 A1 n1 c1), evsAcc A0 n0 c0 e0, evsAcc A1 n1 c1 e1])
    (fun b => b = X ∨ b = L15 ∨ b = L18 ∨ b = g0 ∨ b = g1) w ⟨_, hXb.2⟩ hsz ?_ ?_ (.inl rfl) ?_ ?_ ?_).mono ?_
  · rintro b ⟨p, hp, hb⟩
    exact (hB'.lt (List.mem_append_left _ hp) hb).2
  · rintro b (rfl | rfl | rfl | rfl | rfl)
    · exact ⟨_, List.mem_of_getElem? (i := 0) rfl, rfl⟩
    · exact ⟨_, List.mem_of_getElem? (i := 2) rfl, rfl⟩
    · exact ⟨_, List.mem_of_getElem? (i := 3) rfl, rfl⟩
    · exact ⟨_, List.mem_of_getElem? (i := 5) rfl, rfl⟩
    · exact ⟨_, List.mem_of_getElem? (i := 6) rfl, rfl⟩
  · intro wa ha
    have BA := hB'.call ha
    have h5 : wa.ownsRow w0.heap.size 22 1 (.slice bA (e0 ++ e1).length bc) (e0 ++ e1).length ((e0 ++ e1).map EV.v) := BA.at 1 rfl
    rcases h5.2 with ⟨hn, _⟩ | ⟨L5, cp, cur, hv, _⟩
    · have hfl := flatBytes_nil wa
      rw [← hn] at hfl
      refine hfl.mono ?_
      rintro r w5 ⟨rfl, hb⟩
      exact ⟨rfl, hb.mono BA.since.size, fun b hK => hb.block b (by obtain ⟨p, hp, hpb⟩ := hK; exact (BA.lt (List.mem_append_left _ hp) hpb).2)⟩
    · simp only [Value.slice.injEq] at hv
      obtain ⟨rfl, _, _⟩ := hv
      refine flatBytes_any _ L5 (e0 ++ e1).length bc (rowsR (e0 ++ e1)) (rowsF (e0 ++ e1)) w0.heap.size wa (rows_sit BA) ?_ hnn ?_ BA.since.size ⟨_, List.mem_of_getElem? (i := 1) rfl, rfl⟩
      · intro j hj
        rw [h5.cellAt j (by omega), List.getElem?_map, List.getElem?_eq_getElem hj, rowsR_at _ j hj]
        rfl
      · intro j hj
        rw [rowsR_at _ j hj]
        exact Nat.le_trans (hd _ (List.getElem_mem hj)) (by omega)
  · intro wa ha hsame
    have own1 : ∀ (i : Nat) (p : Acc), ([boxAcc X 79 (bag3 (.slice bA (e0 ++ e1).length bc) (.slice (some ⟨L15, 0, none⟩) 2 ec) (.slice (some ⟨L18, 0, none⟩) 2 lc)), lstAcc (.slice bA (e0 ++ e1).length bc) (e0 ++ e1).length 22 ((e0 ++ e1).map EV.v), lstAcc (.slice (some ⟨L15, 0, none⟩) 2 ec) 2 26 [.slice A0 n0 c0, .slice A1 n1 c1], lstAcc (.slice (some ⟨L18, 0, none⟩) 2 lc) 2 35 [.slice (some ⟨g0, 0, none⟩) 1 1, .slice (some ⟨g1, 0, none⟩) 1 1], boxAcc S 35 [.slice (some ⟨g0, 0, none⟩) 1 1, .slice (some ⟨g1, 0, none⟩) 1 1], boxAcc g0 28 (letL x0 A0 n0 c0), boxAcc g1 28 (letL x1 A1 n1 c1), evsAcc A0 n0 c0 e0, evsAcc A1 n1 c1 e1])[i]? = some p → wa.ownsRow w0.heap.size p.e p.size p.v p.n p.xs := fun i p hi =>
      own_same (hB'.own p (List.mem_append_left _ (List.mem_of_getElem? hi))) (fun b hb => hsame b ⟨p, List.mem_of_getElem? hi, hb⟩)
    have hsa : w.heap.size ≤ wa.heap.size := by have := ha.size; exact this
    have sep : ∀ (i j : Nat) (p q : Acc), ([boxAcc X 79 (bag3 (.slice bA (e0 ++ e1).length bc) (.slice (some ⟨L15, 0, none⟩) 2 ec) (.slice (some ⟨L18, 0, none⟩) 2 lc)), lstAcc (.slice bA (e0 ++ e1).length bc) (e0 ++ e1).length 22 ((e0 ++ e1).map EV.v), lstAcc (.slice (some ⟨L15, 0, none⟩) 2 ec) 2 26 [.slice A0 n0 c0, .slice A1 n1 c1], lstAcc (.slice (some ⟨L18, 0, none⟩) 2 lc) 2 35 [.slice (some ⟨g0, 0, none⟩) 1 1, .slice (some ⟨g1, 0, none⟩) 1 1], boxAcc S 35 [.slice (some ⟨g0, 0, none⟩) 1 1, .slice (some ⟨g1, 0, none⟩) 1 1], boxAcc g0 28 (letL x0 A0 n0 c0), boxAcc g1 28 (letL x1 A1 n1 c1), evsAcc A0 n0 c0 e0, evsAcc A1 n1 c1 e1] ++ (e0 ++ e1).map EV.acc)[i]? = some p → ([boxAcc X 79 (bag3 (.slice bA (e0 ++ e1).length bc) (.slice (some ⟨L15, 0, none⟩) 2 ec) (.slice (some ⟨L18, 0, none⟩) 2 lc)), lstAcc (.slice bA (e0 ++ e1).length bc) (e0 ++ e1).length 22 ((e0 ++ e1).map EV.v), lstAcc (.slice (some ⟨L15, 0, none⟩) 2 ec) 2 26 [.slice A0 n0 c0, .slice A1 n1 c1], lstAcc (.slice (some ⟨L18, 0, none⟩) 2 lc) 2 35 [.slice (some ⟨g0, 0, none⟩) 1 1, .slice (some ⟨g1, 0, none⟩) 1 1], boxAcc S 35 [.slice (some ⟨g0, 0, none⟩) 1 1, .slice (some ⟨g1, 0, none⟩) 1 1], boxAcc g0 28 (letL x0 A0 n0 c0), boxAcc g1 28 (letL x1 A1 n1 c1), evsAcc A0 n0 c0 e0, evsAcc A1 n1 c1 e1] ++ (e0 ++ e1).map EV.acc)[j]? = some q → i ≠ j → ∀ b, p.v.ownBlock = some b → q.v.ownBlock ≠ some b := fun i j p q hi hj hij => hB'.sepAt hi hj hij
    refine G.flatEntries_any _ L15 2 ec (twoGR ⟨A0, n0, c0⟩ ⟨A1, n1, c1⟩) (twoGF (e0.flatMap EV.cells) (e1.flatMap EV.cells)) w0.heap.size wa (two_sit (own1 7 _ rfl) (own1 8 _ rfl) (sep 7 8 _ _ rfl rfl (by decide)) ?_) ?_ (by omega) ?_ (Nat.le_trans hsz hsa) (.inr (.inl rfl))
    · rintro b (rfl | rfl | rfl | rfl | rfl)
      · exact ⟨Nat.lt_of_lt_of_le (ltOf 0 _ _ rfl rfl) hsa, fun h => sep 7 0 _ _ rfl rfl (by decide) _ h rfl, fun h => sep 8 0 _ _ rfl rfl (by decide) _ h rfl⟩
      · exact ⟨Nat.lt_of_lt_of_le (ltOf 2 _ _ rfl rfl) hsa, fun h => sep 7 2 _ _ rfl rfl (by decide) _ h rfl, fun h => sep 8 2 _ _ rfl rfl (by decide) _ h rfl⟩
      · exact ⟨Nat.lt_of_lt_of_le (ltOf 3 _ _ rfl rfl) hsa, fun h => sep 7 3 _ _ rfl rfl (by decide) _ h rfl, fun h => sep 8 3 _ _ rfl rfl (by decide) _ h rfl⟩
      · exact ⟨Nat.lt_of_lt_of_le (ltOf 5 _ _ rfl rfl) hsa, fun h => sep 7 5 _ _ rfl rfl (by decide) _ h rfl, fun h => sep 8 5 _ _ rfl rfl (by decide) _ h rfl⟩
      · exact ⟨Nat.lt_of_lt_of_le (ltOf 6 _ _ rfl rfl) hsa, fun h => sep 7 6 _ _ rfl rfl (by decide) _ h rfl, fun h => sep 8 6 _ _ rfl rfl (by decide) _ h rfl⟩
    · intro j hj
      have h15 := own1 2 _ rfl
      have h := World.ownsRow.cellAt h15 j (by show j < 2 * 1; omega)
      refine h.trans ?_
      rcases j with _ | _ | j
      · rfl
      · rfl
      · omega
    · intro j hj
      rcases j with _ | _ | j
      · show n0 ≤ _; omega
      · show n1 ≤ _; omega
      · omega
  · intro wa ha hsame
    have sep : ∀ (i j : Nat) (p q : Acc), ([boxAcc X 79 (bag3 (.slice bA (e0 ++ e1).length bc) (.slice (some ⟨L15, 0, none⟩) 2 ec) (.slice (some ⟨L18, 0, none⟩) 2 lc)), lstAcc (.slice bA (e0 ++ e1).length bc) (e0 ++ e1).length 22 ((e0 ++ e1).map EV.v), lstAcc (.slice (some ⟨L15, 0, none⟩) 2 ec) 2 26 [.slice A0 n0 c0, .slice A1 n1 c1], lstAcc (.slice (some ⟨L18, 0, none⟩) 2 lc) 2 35 [.slice (some ⟨g0, 0, none⟩) 1 1, .slice (some ⟨g1, 0, none⟩) 1 1], boxAcc S 35 [.slice (some ⟨g0, 0, none⟩) 1 1, .slice (some ⟨g1, 0, none⟩) 1 1], boxAcc g0 28 (letL x0 A0 n0 c0), boxAcc g1 28 (letL x1 A1 n1 c1), evsAcc A0 n0 c0 e0, evsAcc A1 n1 c1 e1] ++ (e0 ++ e1).map EV.acc)[i]? = some p → ([boxAcc X 79 (bag3 (.slice bA (e0 ++ e1).length bc) (.slice (some ⟨L15, 0, none⟩) 2 ec) (.slice (some ⟨L18, 0, none⟩) 2 lc)), lstAcc (.slice bA (e0 ++ e1).length bc) (e0 ++ e1).length 22 ((e0 ++ e1).map EV.v), lstAcc (.slice (some ⟨L15, 0, none⟩) 2 ec) 2 26 [.slice A0 n0 c0, .slice A1 n1 c1], lstAcc (.slice (some ⟨L18, 0, none⟩) 2 lc) 2 35 [.slice (some ⟨g0, 0, none⟩) 1 1, .slice (some ⟨g1, 0, none⟩) 1 1], boxAcc S 35 [.slice (some ⟨g0, 0, none⟩) 1 1, .slice (some ⟨g1, 0, none⟩) 1 1], boxAcc g0 28 (letL x0 A0 n0 c0), boxAcc g1 28 (letL x1 A1 n1 c1), evsAcc A0 n0 c0 e0, evsAcc A1 n1 c1 e1] ++ (e0 ++ e1).map EV.acc)[j]? = some q → i ≠ j → ∀ b, p.v.ownBlock = some b → q.v.ownBlock ≠ some b := fun i j p q hi hj hij => hB'.sepAt hi hj hij
    have hsa : w.heap.size ≤ wa.heap.size := by have := ha.size; exact this
    have hO18 : wa.ownsRow w0.heap.size 35 1 (.slice (some ⟨L18, 0, none⟩) 2 lc) 2 [.slice (some ⟨g0, 0, none⟩) 1 1, .slice (some ⟨g1, 0, none⟩) 1 1] := own_same (hB'.at 3 rfl) (fun b hb => hsame b (.inr (.inr (.inl (by cases hb; rfl)))))
    refine (G.flatLetters_any (fun b => b = X ∨ b = L18) L18 2 lc (twoGR ⟨some ⟨g0, 0, none⟩, 1, 1⟩ ⟨some ⟨g1, 0, none⟩, 1, 1⟩) (twoGF (letL x0 A0 n0 c0) (letL x1 A1 n1 c1)) w0.heap.size wa (two_sit (own_oneL ((hsame g0 (.inr (.inr (.inr (.inl rfl))))).trans hG0.2) hG0.1 rfl) (own_oneL ((hsame g1 (.inr (.inr (.inr (.inr rfl))))).trans hG1.2) hG1.1 rfl) (sep 5 6 _ _ rfl rfl (by decide)) ?_) ?_ (by omega) ?_ (Nat.le_trans hsz hsa) (.inr rfl)).mono ?_
    · rintro b (rfl | rfl)
      · exact ⟨Nat.lt_of_lt_of_le (ltOf 0 _ _ rfl rfl) hsa, fun h => sep 5 0 _ _ rfl rfl (by decide) _ h rfl, fun h => sep 6 0 _ _ rfl rfl (by decide) _ h rfl⟩
      · exact ⟨Nat.lt_of_lt_of_le (ltOf 3 _ _ rfl rfl) hsa, fun h => sep 5 3 _ _ rfl rfl (by decide) _ h rfl, fun h => sep 6 3 _ _ rfl rfl (by decide) _ h rfl⟩
    · intro j hj
      refine (hO18.cellAt j (by omega)).trans ?_
      rcases j with _ | _ | j
      · rfl
      · rfl
      · omega
    · intro j hj
      rcases j with _ | _ | j
      · show 1 ≤ _; omega
      · show 1 ≤ _; omega
      · omega
    · rintro r w5 ⟨rfl, hb, hk⟩
      exact ⟨rfl, hb, hk X (.inl rfl)⟩
  · rintro r w4 ⟨rfl, hb⟩
    exact ⟨rfl, hB'.since.trans hb⟩
end Go.Proofs.YtdmpphioflcofaaGreat.K
