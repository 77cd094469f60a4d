/- Steps of the law LetterNumbers: an append of any element in a region that draws its order, a copy into a row of one's own. -/
import Derived.Test.YtdmpphioflcofaaGreatLzLetFull
import Derived.Laws.CopyOwn
namespace Go.Proofs.YtdmpphioflcofaaGreat.K
open Go Go.RowKit

theorem infoByteSz : (Tryz.prog.info? 5).map (·.size) = some 1 := by kernel_rfl
theorem cellS {w w' : World} {b o : Nat} {v : Value} (hc : w.cell? ⟨b, o, none⟩ = some v) (hs : Since w w') : w'.cell? ⟨b, o, none⟩ = some v := (hs.cell (block_lt_of_cell hc)).trans hc
theorem own_parts {w : World} {B : Nat} {e : TypeId} {g n c : Nat} {bs : List (BitVec 8)} (h : w.ownsRow B e 1 (.slice (some ⟨g, 0, none⟩) n c) n (bv bs)) : ∃ cur : List Value, w.heap[g]? = some (.cells cur.toArray e (0, 0)) ∧ B ≤ g ∧ n ≤ c ∧ c ≤ maxLen ∧ cur.length = c ∧ cur.take n = bv bs := by
  rcases h.2 with ⟨h0, _⟩ | ⟨g', c', cur, hv, hb, hg, h1, h2, h3, h4⟩
  · cases h0
  · simp only [Value.slice.injEq, Option.some.injEq, Addr.mk.injEq, and_true, true_and] at hv
    obtain ⟨rfl, rfl⟩ := hv
    exact ⟨cur.toList, by simpa using hg, hb, h1, h2, by simpa using h3, by simpa using h4⟩
theorem take_splice {L y : List Value} {n off : Nat} (h : off + y.length ≤ n) (hn : n ≤ L.length) : (splice L off y).take n = (L.take n).take off ++ (y ++ (L.take n).drop (off + y.length)) := by
  have m1 : min off L.length = off := Nat.min_eq_left (by omega)
  have m2 : min off n = off := Nat.min_eq_left (by omega)
  have m3 : min n L.length = n := Nat.min_eq_left hn
  unfold splice
  apply List.ext_getElem?
  intro j
  simp only [List.getElem?_take, List.getElem?_append, List.getElem?_drop, List.length_take, List.take_take, List.length_append, List.length_drop, m1, m2, m3]
  repeat' split
  all_goals first | (exfalso; omega) | rfl | (congr 1; omega) | (rw [List.getElem?_eq_none (by omega)])
theorem own_copied {w' : World} {B : Nat} {e : TypeId} {g n c off : Nat} {bs y : List (BitVec 8)} {cur : List Value} (hB : B ≤ g) (hnc : n ≤ c) (hcm : c ≤ maxLen) (hcl : cur.length = c) (ht : cur.take n = bv bs) (hg : w'.heap[g]? = some (.cells (splice cur off (bv y)).toArray e (0, 0))) (h : off + y.length ≤ n) (hbl : bs.length = n) :
    w'.ownsRow B e 1 (.slice (some ⟨g, 0, none⟩) n c) n (bv (bs.take off ++ (y ++ bs.drop (off + y.length)))) := by
  refine ⟨by rw [bv_length]; simp; omega, .inr ⟨g, c, _, rfl, hB, hg, hnc, hcm, ?_, ?_⟩⟩
  · rw [List.size_toArray, length_splice _ _ _ (by rw [bv_length]; omega), hcl, Nat.mul_one]
  · rw [List.toList_toArray, Nat.mul_one, take_splice (by rw [bv_length]; exact h) (by omega), ht, bv_length]
    simp [bv]
theorem step_append_bankG {P : Program} {w0 w : World} {L : List Acc} {ops : Array Oper} {o : Oper} {a : Act} {K : Act → World → Prop} {Q : Exit → Act → World → Prop} {E : Prop} (h : Bank w0 w L) (hgd : o.guard = none) (s y : Operand) (t : TypeId)
    (ho : o.op = .call { callee := .builtin .append, args := #[s, y], argTypes := #[t, t] })
    (e : TypeId) (z : Value) (size bytes : Nat) (hz : (P.info? e).map (fun i => (i.zero, i.size, i.bytes)) = some (some z, size, bytes)) (ht : P.underlying t = some (.slice e)) (hzs : z.cells.size = size) (hsz : 0 < size)
    (k : Nat) (A : Option Addr) (n cap : Nat) (xs : List Value) (hs : a.eval s = .slice A n cap) (hk : L[k]? = some ⟨.slice A n cap, n, e, size, xs⟩)
    (ad : Addr) (m c : Nat) (news : List Value) (hx : a.eval y = .slice (some ad) m c) (hl : news.length = m * size) (hnews : ∀ j u, news[j]? = some u → w.cell? (ad.add j) = some u) (h1 : ∀ u ∈ news, u.oneCell' = true)
    (h63 : n + m ≤ maxLen) (hbytes : (n + m) * bytes ≤ 140737488355328)
    (hK : ∀ A' n' c' w', n' = n + m → Bank w0 w' (L.set k ⟨.slice A' n' c', n', e, size, xs ++ news⟩) → K (a.put o.dst (.slice A' n' c')) w') :
    if Region.wanted o (yielded ops a.tmps) = true then Oper.wp P o a w K Q else E := by
  have hw : Region.wanted o (yielded ops a.tmps) = true := by simp [Region.wanted, hgd]
  rw [if_pos hw]
  obtain ⟨i0, hi, hz0, hz1, hz2⟩ := info_parts hz
  obtain ⟨A', c', w', hr, h2, h3, h4⟩ := run_append_bankG (P := P) h t o.type e i0 z size bytes ht hi hz0 hz1 hz2 hzs hsz k A n cap xs hk ad m c news hl hnews h1 h63 hbytes
  unfold Oper.wp execOp
  simp only [ho, resolve, invoke, builtin, Sem.run_bind, Sem.run_pure, Result.andThen_ok, List.map_toArray, List.map_cons, List.map_nil, hs, hx, hr]
  exact hK A' _ c' w' rfl h2
theorem keepL2 {w0 w : World} {L : List Acc} (h : Bank w0 w L) (i : Nat) {g : Nat} {l : M.Let} {A : Option Addr} {n c : Nat} {X k : Nat} {z : Int} (hi : L[i]? = some (boxAcc g 28 (letL l A n c))) (hz : w0.cell? ⟨X, k, none⟩ = some (.int .i64 z)) :
    w.cell? ⟨g, 9, none⟩ = some (.slice A n c) ∧ w.cell? ⟨X, k, none⟩ = some (.int .i64 z) := ⟨h.cell i hi 9 rfl, (h.since.cell (block_lt_of_cell hz)).trans hz⟩
/-- a letter in a box, with its entries -/
def LnB (w1 wx : World) (B5 : Nat) (l : M.Let) (A : Option Addr) (n c : Nat) (evs : List EV) : Prop :=
  Bank w1 wx (boxAcc B5 28 (letL l A n c) :: evsAcc A n c evs :: evRows evs) ∧ l.ents = evs.map EV.e ∧ evs.length = n ∧ n ≤ 6 ∧ ∀ x ∈ evs, x.e.data.length ≤ 2
def LnMid (w1 wx : World) (B5 : Nat) : Prop := ∃ (l : M.Let) (A : Option Addr) (n c : Nat) (evs : List EV), LnB w1 wx B5 l A n c evs
theorem LnB.out {w1 wx : World} {B5 : Nat} {l : M.Let} {A : Option Addr} {n c : Nat} {evs : List EV} (h : LnB w1 wx B5 l A n c evs) :
    wx.heap[B5]? = some (.cells #[B8 l.kind, .int .i64 l.src, .int .i64 l.dst, .int .i64 l.term, .int .i64 l.index, .int .i64 l.was, .bool l.ok, .int .i64 l.commit, .int .i64 l.version, .slice A n c] 28 (0, 0)) ∧ EntsRd wx A l.ents ∧ l.ents.length = n ∧ n ≤ 6 ∧ (∀ e ∈ l.ents, e.data.length ≤ 2) ∧ Since w1 wx := by
  obtain ⟨hB, he, hn, h6, hd⟩ := h
  refine ⟨(hB.boxAt 0 rfl).2, ?_, ?_, h6, ?_, hB.since⟩
  · rw [he]
    exact evs_rd hB (List.mem_cons_of_mem _ (List.mem_cons_self ..)) (fun x hx => List.mem_cons_of_mem _ (List.mem_cons_of_mem _ (List.mem_map.2 ⟨x, List.mem_reverse.2 hx, rfl⟩))) hn
  · rw [he, List.length_map, hn]
  · intro e hm
    rw [he] at hm
    obtain ⟨x, hx, rfl⟩ := List.mem_map.1 hm
    exact hd x hx
theorem LnB.set {w1 wx : World} {B5 : Nat} {l : M.Let} {A : Option Addr} {n c : Nat} {evs : List EV} (h : LnB w1 wx B5 l A n c evs) (l' : M.Let) (j : Nat) (v : Value) (hl : letL l' A n c = (letL l A n c).set j v) (he : l'.ents = l.ents) : LnMid w1 (wx.setCell ⟨B5, j, none⟩ v) B5 := by
  obtain ⟨hB, h1, h2, h3, h4⟩ := h
  refine ⟨l', A, n, c, evs, ?_, he.trans h1, h2, h3, h4⟩
  have := hB.boxSet 0 rfl j v
  rw [hl]
  exact this
def zeroEV : Value := .agg #[.int .i64 0, .int .u8 0, .int .i64 0, .int .i64 0, .bool false, .slice none 0 0]
theorem below_noneL {w w' : World} (h : w.grownBy w' none) : Below w.heap.size w w' := ⟨h.os, h.tape, h.output, h.size, fun k hk => h.block k hk (by simp)⟩
theorem LnMid.app {w1 w : World} {B5 : Nat} {l : M.Let} {A A' : Option Addr} {n c n' c' : Nat} {z : Int} {evs : List EV} {p : Acc} (hle : l.ents = evs.map EV.e) (hev : evs.length = n) (hn : n ≤ 3) (hd : ∀ x ∈ evs, x.e.data.length ≤ 2) (hn' : n' = n + 1)
    (hB : Bank w1 w (p :: boxAcc B5 28 ((letL l A n c).set 9 (.slice A' n' c')) :: (⟨.slice A' n' c', n', 42, 6, evs.flatMap EV.cells ++ [.int .i64 z, .int .u8 3, .int .i64 0, .int .i64 0, .bool false, .slice none 0 0]⟩ : Acc) :: evRows evs)) : LnMid w1 w B5 := by
  refine ⟨⟨l.kind, l.src, l.dst, l.term, l.index, l.was, l.ok, l.commit, l.version, (evs ++ [(⟨⟨z, 3#8, 0, 0, false, []⟩, none, 0, 0⟩ : EV)]).map EV.e⟩, A', n', c', evs ++ [⟨⟨z, 3#8, 0, 0, false, []⟩, none, 0, 0⟩], ?_, rfl, by simp; omega, by omega, ?_⟩
  · have h1 := (hB.drop.none 5 1).permA' ((List.Perm.swap _ _ _).trans (List.Perm.cons _ (List.Perm.swap _ _ _)))
    rw [evRows_snoc, evsAcc, List.flatMap_append]
    exact h1
  · intro x hx
    rcases List.mem_append.1 hx with h | h
    · exact hd x h
    · rw [List.mem_singleton.1 h]; simp
theorem Bank.madeE {w0 w w' : World} {L : List Acc} (h : Bank w0 w L) {q : Nat} (ho : w'.ownsRow w.heap.size 42 6 (.slice (some ⟨w.heap.size, 0, Option.none⟩) q q) q (madeCells zeroEV.cells (q * 6)).toList) (hg : w.grownBy w' Option.none) :
    Bank w0 w' (⟨.slice (some ⟨w.heap.size, 0, Option.none⟩) q q, q, 42, 6, (madeCells zeroEV.cells (q * 6)).toList⟩ :: L) := h.made (below_noneL hg) ho
theorem madeE_eq {q : Nat} (hq : q ≤ 6) : (madeCells zeroEV.cells (q * 6)).toList = (List.replicate q (⟨⟨0, 0#8, 0, 0, false, []⟩, none, 0, 0⟩ : EV)).flatMap EV.cells := by
  obtain rfl | rfl | rfl | rfl | rfl | rfl | rfl : q = 0 ∨ q = 1 ∨ q = 2 ∨ q = 3 ∨ q = 4 ∨ q = 5 ∨ q = 6 := by omega
  all_goals (simp [madeCells, zeroEV, Value.cells, EV.cells, entL, List.replicate]; try rfl)
theorem Bank.nones {w0 w : World} {L : List Acc} (h : Bank w0 w L) : ∀ q, Bank w0 w (List.replicate q (rowAcc Option.none 0 0 []) ++ L)
  | 0 => h
  | q + 1 => (Bank.nones h q).none 5 1
theorem evRows_rep (q : Nat) : evRows (List.replicate q ⟨⟨0, 0#8, 0, 0, false, []⟩, none, 0, 0⟩) = List.replicate q (rowAcc none 0 0 []) := by
  rw [evRows, List.reverse_replicate, List.map_replicate]
  rfl
theorem LnMid.mk {w1 w : World} {B5 : Nat} {l : M.Let} {A A' : Option Addr} {n c q : Nat} {T : List Acc} (hq : q ≤ 6)
    (hB : Bank w1 w (⟨.slice A' q q, q, 42, 6, (madeCells zeroEV.cells (q * 6)).toList⟩ :: boxAcc B5 28 ((letL l A n c).set 9 (.slice A' q q)) :: T)) : LnMid w1 w B5 := by
  refine ⟨⟨l.kind, l.src, l.dst, l.term, l.index, l.was, l.ok, l.commit, l.version, (List.replicate q (⟨⟨0, 0#8, 0, 0, false, []⟩, none, 0, 0⟩ : EV)).map EV.e⟩, A', q, q, List.replicate q ⟨⟨0, 0#8, 0, 0, false, []⟩, none, 0, 0⟩, ?_, rfl, List.length_replicate, hq, ?_⟩
  · rw [evRows_rep, evsAcc, ← madeE_eq hq]
    have h1 : Bank w1 w [⟨.slice A' q q, q, 42, 6, (madeCells zeroEV.cells (q * 6)).toList⟩, boxAcc B5 28 ((letL l A n c).set 9 (.slice A' q q))] := hB.sub (.cons_cons _ (.cons_cons _ (List.nil_sublist _)))
    have h2 := (Bank.nones h1 q).permA' (List.perm_append_comm)
    exact h2.permA' (List.Perm.swap _ _ _)
  · intro x hx
    rw [(List.mem_replicate.1 hx).2]
    simp
theorem LnB.drew {w1 wx : World} {B5 : Nat} {l : M.Let} {A : Option Addr} {n c : Nat} {evs : List EV} (h : LnB w1 wx B5 l A n c evs) : LnB w1 wx.drew B5 l A n c evs := ⟨h.1.drew, h.2⟩
/-- a byte of a row is written -/
theorem Bank.rowSetL {w0 w : World} {L : List Acc} (h : Bank w0 w L) (i : Nat) {g N c : Nat} {bs : List (BitVec 8)} (hi : L[i]? = some (rowAcc (some ⟨g, 0, Option.none⟩) N c bs)) (j : Nat) (y : BitVec 8) : Bank w0 (w.setCell ⟨g, j, Option.none⟩ (B8 y)) (L.set i (rowAcc (some ⟨g, 0, Option.none⟩) N c (bs.set j y))) := by
  obtain ⟨ho, hg⟩ := (h.at i hi).stored j (B8 y)
  refine h.put i hi ?_ hg (.inl rfl)
  have e2 : (bv bs).set j (B8 y) = bv (bs.set j y) := by simp [bv, List.map_set]
  show (w.setCell ⟨g, j, Option.none⟩ (B8 y)).ownsRow _ _ _ _ _ (bv (bs.set j y))
  rw [← e2]
  exact ho
theorem Bank.byteL {w0 w : World} {L : List Acc} (h : Bank w0 w L) (i : Nat) {g N c : Nat} {bs : List (BitVec 8)} (hi : L[i]? = some (rowAcc (some ⟨g, 0, Option.none⟩) N c bs)) (j : Nat) (hj : j < N) : w.cell? ⟨g, j, Option.none⟩ = some (B8 (bs.getD j 0)) ∧ w.frozen? ⟨g, j, Option.none⟩ = false := by
  have ho : w.ownsRow w0.heap.size 5 1 (.slice (some ⟨g, 0, Option.none⟩) N c) N (bv bs) := h.at i hi
  have hl : bs.length = N := (RowRd.of_row ho).len
  exact ⟨by rw [ho.cellAt j (by omega)]; simp [bv, show j < bs.length by omega], ho.frozenAt j⟩
theorem lput_zero (l : M.Let) : (M.lput l).length = 0 ∨ 80 ≤ (M.lput l).length := by
  unfold M.lput
  split
  · right
    rw [M.lbytes, List.length_append, M.nums_length]
    have h5 : (M.lnums l).length = 10 := rfl
    omega
  · exact .inl rfl
theorem full_rd {w w' : World} {l : M.Let} {A : Option Addr} {n c : Nat} {evs : List EV} (h1 : l.ents = evs.map EV.e) (h2 : evs.length = n) (h3 : ∀ x ∈ evs, x.e.data.length ≤ 2) (hB : Bank w w' (evsAcc A n c evs :: evRows evs)) :
    EntsRd w' A l.ents ∧ l.ents.length = n ∧ ∀ e ∈ l.ents, e.data.length ≤ 2 := by
  refine ⟨?_, ?_, ?_⟩
  · rw [h1]
    exact evs_rd hB (List.mem_cons_self ..) (fun x hx => List.mem_cons_of_mem _ (List.mem_map.2 ⟨x, List.mem_reverse.2 hx, rfl⟩)) h2
  · rw [h1, List.length_map, h2]
  · intro e hm
    rw [h1] at hm
    obtain ⟨x, hx, rfl⟩ := List.mem_map.1 hm
    exact h3 x hx
theorem rowRd_cutZ {w : World} {b o n c : Nat} {bs : List (BitVec 8)} (h : RowRd w ⟨some ⟨b, o, none⟩, n, c⟩ bs) (lo len c' : Nat) (hl : lo + len ≤ n) : RowRd w ⟨some ⟨b, o + lo, none⟩, len, c'⟩ ((bs.drop lo).take len) := by
  have hN : bs.length = n := h.len
  refine ⟨fun j hj => ?_, by show _ = len; rw [List.length_take, List.length_drop]; omega, fun h => by cases h⟩
  rw [List.length_take, List.length_drop] at hj
  obtain ⟨b', o', e, hc⟩ := h.rd (lo + j) (by omega)
  obtain ⟨rfl, rfl⟩ : b = b' ∧ o = o' := by simpa using e
  refine ⟨b, o + lo, rfl, ?_⟩
  rw [Nat.add_assoc, hc, List.getElem_take, List.getElem_drop]
end Go.Proofs.YtdmpphioflcofaaGreat.K
