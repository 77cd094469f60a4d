/- Entries that are got, as accounts of a bank beside a reader. -/
import Derived.Test.YtdmpphioflcofaaLq7
import Derived.Test.YtdmpphioflcofaaLqWireReadsF
import Derived.Test.YtdmpphioflcofaaLqWireNewB
namespace Go.Proofs.Ytdmpphioflcofaa.K
open Go Go.RowKit

/-- an entry and where its data lie -/
structure EV where
  e : M.Ent
  A : Option Addr
  n : Nat
  c : Nat
def EV.cells (x : EV) : List Value := entL x.e.term x.e.version x.e.server x.e.kind x.e.good x.A x.n x.c
def EV.acc (x : EV) : Acc := rowAcc x.A x.n x.c x.e.data
def evRows (xs : List EV) : List Acc := xs.reverse.map EV.acc
theorem evRows_snoc (xs : List EV) (x : EV) : evRows (xs ++ [x]) = x.acc :: evRows xs := by simp [evRows]
def evsAcc (A : Option Addr) (n c : Nat) (xs : List EV) : Acc := ⟨.slice A n c, n, 48, 6, xs.flatMap EV.cells⟩
theorem EV.cells_length (x : EV) : x.cells.length = 6 := rfl
/-- ten numbers in an array -/
def arrL (ns : List Int) : List Value := (List.range 10).map fun i => Value.int .i64 (ns.getD i 0)
theorem arrL_at (ns : List Int) (k : Nat) (hk : k < 10) : (arrL ns)[k]? = some (.int .i64 (ns.getD k 0)) := by
  rw [arrL, List.getElem?_map, List.getElem?_range hk]; rfl
theorem arrL_length (ns : List Int) : (arrL ns).length = 10 := by simp [arrL]
theorem arrL_set (ns : List Int) (k : Nat) (v : Int) (hl : ns.length = k) : (arrL ns).set k (.int .i64 v) = arrL (ns ++ [v]) := by
  apply List.ext_getElem?
  intro i
  rw [List.getElem?_set, arrL_length]
  by_cases h : k = i
  · subst h
    rw [if_pos rfl]
    by_cases h2 : k < 10
    · rw [if_pos h2, arrL_at _ _ h2]
      simp [hl.symm]
    · rw [if_neg h2, List.getElem?_eq_none (by rw [arrL_length]; omega)]
  · rw [if_neg h]
    by_cases h2 : i < 10
    · rw [arrL_at _ _ h2, arrL_at _ _ h2]
      by_cases h3 : i < k
      · simp [List.getD, List.getElem?_append_left (show i < ns.length by omega)]
      · simp [List.getD, List.getElem?_eq_none (show ns.length ≤ i by omega), List.getElem?_eq_none (show (ns ++ [v]).length ≤ i by simp; omega)]
    · rw [List.getElem?_eq_none (by rw [arrL_length]; omega), List.getElem?_eq_none (by rw [arrL_length]; omega)]
theorem ten_of {ns : List Int} (h : ns.length = 10) : ∃ n0 n1 n2 n3 n4 n5 n6 n7 n8 n9, ns = [n0, n1, n2, n3, n4, n5, n6, n7, n8, n9] := by
  match ns, h with
  | [n0, n1, n2, n3, n4, n5, n6, n7, n8, n9], _ => exact ⟨n0, n1, n2, n3, n4, n5, n6, n7, n8, n9, rfl⟩
section
variable {w0 w w' : World} {Q : World → M.Rdr → Prop} {s s' : M.Rdr} {R : Nat} {Bd : Option Addr} {L : List Acc}
theorem Held.perm (h : Held w0 w Q s R Bd L) {L' : List Acc} (hp : L.Perm L') : Held w0 w Q s R Bd L' :=
  ⟨⟨h.bank.since, fun p hm => h.bank.own p (hp.mem_iff.2 hm), (List.Perm.pairwise_iff (fun {_ _} h => Apartness.symm h) hp).1 h.bank.sep⟩, h.q, h.keep, h.lt, h.base, fun p hm => h.away p (hp.mem_iff.2 hm)⟩
theorem Held.nil6 (h : Held w0 w Q s R Bd L) (e : TypeId) (size : Nat) : Held w0 w Q s R Bd (⟨.slice none 0 0, 0, e, size, []⟩ :: L) :=
  ⟨h.bank.none e size, h.q, h.keep, h.lt, h.base, fun p hp b hb => by
    rcases List.mem_cons.1 hp with rfl | hp
    · cases hb
    · exact h.away p hp b hb⟩
theorem Held.put (h : Held w0 w Q s R Bd L) (i : Nat) {p p' : Acc} (hi : L[i]? = some p) (hB : Bank w0 w' (L.set i p')) (hg : w.grownBy w' p.v.ownBlock) (hb : p'.v.ownBlock = p.v.ownBlock ∨ p'.v.ownBlock = some w.heap.size) : Held w0 w' Q s R Bd (L.set i p') := by
  have hp : p ∈ L := List.mem_of_getElem? hi
  refine ⟨hB, h.keep _ _ _ _ h.q hg (fun e => (h.away p hp R e).1 rfl) (fun a ea e => (h.away p hp a.block e).2 a ea rfl), h.keep, ⟨Nat.lt_of_lt_of_le h.lt.1 hg.size, fun a e => Nat.lt_of_lt_of_le (h.lt.2 a e) hg.size⟩, h.base, fun q hq b hbq => ?_⟩
  rcases List.mem_or_eq_of_mem_set hq with hq | rfl
  · exact h.away q hq b hbq
  · rcases hb with hb | hb
    · exact h.away p hp b (hb.symm.trans hbq)
    · have e : w.heap.size = b := Option.some.inj (hb.symm.trans hbq)
      have h3 := h.lt.1
      exact ⟨by omega, fun a ea => by have := h.lt.2 a ea; omega⟩
theorem step_held {P : Program} {ops : Array Oper} {o : Oper} {a : Act} {K : Act → World → Prop} {Q1 : Exit → Act → World → Prop} {E : Prop} (h : Held w0 w Q s R Bd L) (hq : Held w0 w Q s R Bd L → if Region.wanted o (yielded ops a.tmps) = true then Oper.wp P o a w K Q1 else E) : if Region.wanted o (yielded ops a.tmps) = true then Oper.wp P o a w K Q1 else E := hq h
theorem step_append_held {P : Program} {ops : Array Oper} {o : Oper} {a : Act} {K : Act → World → Prop} {Q1 : Exit → Act → World → Prop} {E : Prop} (h : Held w0 w Q s R Bd L) (hgd : o.guard = Option.none) (s0 y : Operand) (t : TypeId)
    (ho : o.op = .call { callee := .builtin .append, args := #[s0, y], argTypes := #[t, t] })
    (e : TypeId) (z : Value) (size bytes : Nat) (hz : (P.info? e).map (fun i => (i.zero, i.size, i.bytes)) = some (some z, size, bytes)) (ht : P.underlying t = some (.slice e)) (hzs : z.cells.size = size) (hsz : 0 < size)
    (k : Nat) (A : Option Addr) (n cap : Nat) (xs : List Value) (hs : a.eval s0 = .slice A n cap) (hk : L[k]? = some ⟨.slice A n cap, n, e, size, xs⟩)
    (ad : Addr) (m c : Nat) (news : List Value) (hx : a.eval y = .slice (some ad) m c) (hl : news.length = m * size) (hnews : ∀ j u, news[j]? = some u → w.cell? (ad.add j) = some u) (h1 : ∀ u ∈ news, u.oneCell' = true)
    (h63 : n + m ≤ maxLen) (hbytes : (n + m) * bytes ≤ 140737488355328)
    (hK : ∀ A' n' c' w', n' = n + m → Held w0 w' Q s R Bd (L.set k ⟨.slice A' n' c', n', e, size, xs ++ news⟩) → K (a.put o.dst (.slice A' n' c')) w') :
    if Region.wanted o (yielded ops a.tmps) = true then Oper.wp P o a w K Q1 else E := by
  have hw : Region.wanted o (yielded ops a.tmps) = true := by simp [Region.wanted, hgd]
  rw [if_pos hw]
  obtain ⟨i0, hi, hz0, hz1, hz2⟩ := info_parts hz
  obtain ⟨A', c', w', hr, h2, h3, h4⟩ := run_append_bankG (P := P) h.bank t o.type e i0 z size bytes ht hi hz0 hz1 hz2 hzs hsz k A n cap xs hk ad m c news hl hnews h1 h63 hbytes
  unfold Oper.wp execOp
  simp only [ho, resolve, invoke, builtin, Sem.run_bind, Sem.run_pure, Result.andThen_ok, List.map_toArray, List.map_cons, List.map_nil, hs, hx, hr]
  exact hK A' _ c' w' rfl (h.put k hk h2 h3 h4)
theorem Held.drew (h : Held w0 w Q s R Bd L) : Held w0 w.drew Q s R Bd L := h.call (Below.refl _ _).drew
end
theorem kind_B8L (y : Int) : Value.int .u8 (IntKind.u8.wrap y) = B8 (BitVec.ofInt 8 y) := by
  have h : IntKind.u8.wrap y = ((BitVec.ofInt 8 y).toNat : Int) := by
    rw [IntKind.wrap_u8', BitVec.toNat_ofInt]; omega
  rw [B8, h]
theorem conv_kindL {P : Program} (w : World) (src dst : TypeId) (y : Int) (hs : P.underlying src = some (.int .i64)) (hd : P.underlying dst = some (.int .u8)) : (convert src dst (.int .i64 y)).run P w = .ok (B8 (BitVec.ofInt 8 y)) w := by
  rw [← kind_B8L]
  simp [convert, run_underlying hs, run_underlying hd, Conv.intToInt]
theorem flat6 : ∀ (xs : List EV) (i j : Nat) (hi : i < xs.length), j < 6 → (xs.flatMap EV.cells)[i * 6 + j]? = (xs[i]).cells[j]?
  | [], i, j, hi, hj => absurd hi (Nat.not_lt_zero _)
  | x :: xs, 0, j, hi, hj => by
    rw [List.flatMap_cons, Nat.zero_mul, Nat.zero_add, List.getElem?_append_left (by rw [x.cells_length]; exact hj)]; rfl
  | x :: xs, i + 1, j, hi, hj => by
    rw [List.flatMap_cons, List.getElem?_append_right (by rw [x.cells_length]; omega), x.cells_length, show (i + 1) * 6 + j - 6 = i * 6 + j by omega]
    exact flat6 xs i j (by simpa using hi) hj
/-- entries of a bank, read -/
theorem evs_rd {w0 w : World} {L : List Acc} {A : Option Addr} {n c : Nat} {xs : List EV} (h : Bank w0 w L) (ha : evsAcc A n c xs ∈ L) (hr : ∀ x ∈ xs, x.acc ∈ L) (hn : xs.length = n) : EntsRd w A (xs.map EV.e) := by
  intro i hi
  have hi' : i < xs.length := by simpa using hi
  have hx := h.own _ (hr _ (List.getElem_mem hi'))
  have ho := h.own _ ha
  have hA : ∃ g, A = some ⟨g, 0, none⟩ := by
    rcases ho.2 with ⟨h0, _⟩ | ⟨g, cap, cur, hv, _⟩
    · exfalso
      have h1 : n = 0 := by
        simp only [evsAcc, Value.slice.injEq] at h0
        exact h0.2.1
      omega
    · simp only [evsAcc, Value.slice.injEq] at hv
      exact ⟨g, hv.1⟩
  obtain ⟨g, rfl⟩ := hA
  have hc : ∀ j, j < 6 → w.cell? ⟨g, 0 + i * 6 + j, none⟩ = (xs[i]).cells[j]? := fun j hj => by
    rw [Nat.zero_add]
    exact (World.ownsRow.cellAt ho (i * 6 + j) (by show _ < n * 6; omega)).trans (flat6 xs i j hi' hj)
  refine ⟨g, 0, rfl, (xs[i]).A, (xs[i]).n, (xs[i]).c, ?_, ?_⟩
  · rw [List.getElem_map]
    exact ⟨hc 0 (by omega), hc 1 (by omega), hc 2 (by omega), hc 3 (by omega), hc 4 (by omega), hc 5 (by omega)⟩
  · rw [List.getElem_map]
    exact RowRd.of_row hx
theorem entry_held {w0 w : World} {s s' : M.Rdr} {x : M.Ent} {P : Nat} {A0 : Option Addr} {L : List Acc} (h : Held w0 w (fun w s => PrgN w P s A0) s P A0 L) (hx : M.rdEntry s = (x, s')) :
    Calls Try.prog 72 #[.pointer (some ⟨P, 0, none⟩)] w fun e w' => ∃ B m c, e = .returned (.agg #[.int .i64 x.term, B8 x.kind, .int .i64 x.version, .int .i64 x.server, .bool x.good, .slice B m c]) ∧ Held w0 w' (fun w s => PrgN w P s A0) s' P A0 (rowAcc B m c x.data :: L) := by
  refine (pEntry_any P s A0 w h.q h.lt.2).mono ?_
  rintro e w' ⟨B, m, c, rfl, ho, hq, hg⟩
  rw [hx] at ho hq
  rw [hx]
  exact ⟨B, m, c, rfl, h.row hq hg ho⟩
theorem Held.sub {w0 w : World} {Q : World → M.Rdr → Prop} {s : M.Rdr} {R : Nat} {Bd : Option Addr} {L L' : List Acc} (h : Held w0 w Q s R Bd L) (hs : L'.Sublist L) : Held w0 w Q s R Bd L' :=
  ⟨h.bank.sub hs, h.q, h.keep, h.lt, h.base, fun p hp => h.away p (hs.subset hp)⟩
end Go.Proofs.Ytdmpphioflcofaa.K
