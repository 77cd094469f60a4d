/- Rows whose elements are of es cells each, that lie apart: plain lemmas over any program, after RowSet. What a row reads is its cells, one behind the other. -/
import Derived.Test.YtdmpphioflcofaaGreatLz9
import Derived.Deep.MidRow
namespace Go.Proofs.YtdmpphioflcofaaGreat.K.G
open Go Go.RowKit

structure Rw where
  A : Option Addr
  n : Nat
  c : Nat
def Rw.v (x : Rw) : Value := .slice x.A x.n x.c
def Rw.blk (x : Rw) : Option Nat := x.v.ownBlock
def Rw.own (x : Rw) (w : World) (base : Nat) (e : TypeId) (es : Nat) (bs : List Value) : Prop := w.ownsRow base e es x.v x.n bs

theorem Rw.own.len {x : Rw} {w : World} {base es : Nat} {e : TypeId} {bs : List Value} (h : x.own w base e es bs) : bs.length = x.n * es := h.1
theorem Rw.own.addr {x : Rw} {w : World} {base es : Nat} {e : TypeId} {bs : List Value} (h : x.own w base e es bs) : (x.A = none ∧ x.n = 0 ∧ x.c = 0) ∨ ∃ g, x.A = some ⟨g, 0, none⟩ ∧ x.blk = some g ∧ base ≤ g ∧ g < w.heap.size := by
  rcases h.2 with ⟨h1, h2⟩ | ⟨g, cap, cur, hv, hb, hg, _⟩
  · left
    simp only [Rw.v, Value.slice.injEq] at h1
    exact h1
  · right
    simp only [Rw.v, Value.slice.injEq] at hv
    exact ⟨g, hv.1, by simp [Rw.blk, Rw.v, hv.1, Value.ownBlock], hb, (Array.getElem?_eq_some_iff.1 hg).1⟩
theorem Rw.own.kept {x : Rw} {w w' : World} {base es : Nat} {e : TypeId} {bs : List Value} {row : Option Nat} (h : x.own w base e es bs) (hg : w.grownBy w' row) (hne : ∀ b, x.blk = some b → row ≠ some b) : x.own w' base e es bs := by
  refine World.ownsRow.kept h hg ?_
  cases hv : x.v.ownBlock with
  | none => exact .inl rfl
  | some b => exact .inr (fun e => hne b hv e.symm)
/-- a row's beginning -/
theorem own_take {w : World} {base es : Nat} {e : TypeId} {g n c k : Nat} {bs : List Value} (h : w.ownsRow base e es (.slice (some ⟨g, 0, none⟩) n c) n bs) (hk : k ≤ n) : w.ownsRow base e es (.slice (some ⟨g, 0, none⟩) k c) k (bs.take (k * es)) := by
  have hl : bs.length = n * es := h.1
  have hke : k * es ≤ n * es := Nat.mul_le_mul_right _ hk
  refine ⟨by rw [List.length_take]; omega, ?_⟩
  rcases h.2 with ⟨h1, _⟩ | ⟨g', cap, cur, hv, hb, hg, hnc, hcm, hs, ht⟩
  · simp at h1
  · simp only [Value.slice.injEq, Option.some.injEq, Addr.mk.injEq, and_true, true_and] at hv
    obtain ⟨rfl, rfl⟩ := hv
    refine .inr ⟨g, c, cur, rfl, hb, hg, by omega, hcm, hs, ?_⟩
    rw [← ht, List.take_take]
    congr 1; omega

/-- what an append of m elements makes of a row -/
def Grew (w w' : World) (base : Nat) (e : TypeId) (es : Nat) (x x' : Rw) (m : Nat) (bs news : List Value) : Prop :=
  x'.own w' base e es (bs ++ news) ∧ x'.n = x.n + m ∧
  ((x'.A = x.A ∧ x'.c = x.c ∧ ∃ g, x.A = some ⟨g, 0, none⟩ ∧ w.grownBy w' (some g)) ∨ (∃ g, x'.A = some ⟨g, 0, none⟩ ∧ w.heap.size ≤ g ∧ w.grownBy w' none))
theorem Grew.size {w w' : World} {base es : Nat} {e : TypeId} {x x' : Rw} {m : Nat} {bs news : List Value} (h : Grew w w' base e es x x' m bs news) : w.heap.size ≤ w'.heap.size := by
  rcases h.2.2 with ⟨_, _, _, _, h⟩ | ⟨_, _, _, h⟩ <;> exact h.size
theorem Grew.below {W w w' : World} {base es : Nat} {e : TypeId} {x x' : Rw} {m : Nat} {bs news : List Value} (h : Grew w w' base e es x x' m bs news) (hx : x.own w base e es bs) {B : Nat} (hB : B ≤ base) (hs : B ≤ w.heap.size) (hb : Below B W w) : Below B W w' := by
  rcases h.2.2 with ⟨_, _, g, hg, h⟩ | ⟨_, _, _, h⟩
  · refine hb.grown h hs fun k hk => ?_
    cases hk
    rcases hx.addr with ⟨h0, _⟩ | ⟨g', h0, _, h1, _⟩
    · rw [h0] at hg; cases hg
    · rw [h0] at hg; cases hg; omega
  · exact hb.grown h hs fun k hk => by cases hk

section
variable {P : Program} (w : World)
theorem run_append_either (t ty : TypeId) (base : Nat) (e : TypeId) (i : TypeInfo) (z : Value) (es bytes : Nat) (ht : P.underlying t = some (.slice e)) (hi : P.info? e = some i) (hz : i.zero = some z)
    (hsize : i.size = es) (hby : i.bytes = bytes) (hzs : z.cells.size = es) (hes : 0 < es) (x : Rw) (bs : List Value) (hown : x.own w base e es bs)
    (ad : Addr) (m c : Nat) (news : List Value) (hl : news.length = m * es) (hnews : ∀ j u, news[j]? = some u → w.cell? (ad.add j) = some u) (h1c : ∀ u ∈ news, u.oneCell' = true)
    (hm : 0 < m) (h63 : x.n + m ≤ maxLen) (hbytes : (x.n + m) * bytes ≤ 140737488355328) (hbase : base ≤ w.heap.size) :
    ∃ A' c' w', (Builtin.append_ #[t, t] ty #[.slice x.A x.n x.c, .slice (some ad) m c]).run P w = .ok (.slice A' (x.n + m) c') w' ∧ Grew w w' base e es x ⟨A', x.n + m, c'⟩ m bs news := by
  obtain ⟨A, n, cap⟩ := x
  rcases hown.addr with ⟨h1, h2, h3⟩ | ⟨g, h1, _, h2, h3⟩
  · obtain rfl : A = none := h1
    obtain rfl : n = 0 := h2
    obtain rfl : cap = 0 := h3
    obtain ⟨v', w', hr, o2, o3, _, o5⟩ := run_append_own_at (P := P) w base t ty e i z es bytes ht hi hz hsize hby hzs hes _ 0 _ hown ad m c news hl hnews h1c h63 hbytes hbase
    obtain ⟨g', cap', rfl, hb', hlt⟩ := o2.form (by omega)
    refine ⟨_, _, w', hr, o2, rfl, .inr ⟨g', rfl, ?_, o3⟩⟩
    rcases o5 with o5 | o5
    · simp [Value.ownBlock, Rw.v] at o5
    · simp [Value.ownBlock] at o5; omega
  · obtain rfl : A = some ⟨g, 0, none⟩ := h1
    have hxl : bs.length = n * es := hown.len
    rcases Nat.lt_or_ge cap (n + m) with hr | hr
    · obtain ⟨v', w', hrun, o2, o3⟩ := run_append_arg_grows (P := P) w t ty e i z es bytes ht hi hz hsize hby hzs hes ⟨g, 0, none⟩ n cap bs hxl
        (fun j u hu => by
          have hj : j < bs.length := (List.getElem?_eq_some_iff.1 hu).1
          rw [Addr.add_lit, Nat.zero_add]
          have hc := World.ownsRow.cellAt hown j (by rw [hxl] at hj; exact hj)
          rw [hc, hu]) ad m c news hl hnews hr h63 hbytes
      obtain ⟨g', cap', rfl, hg', hlt⟩ := o2.form (by omega)
      refine ⟨_, _, w', hrun, ?_, rfl, .inr ⟨g', rfl, hg', o3⟩⟩
      exact ⟨o2.1, o2.2.elim .inl fun ⟨a, b, cur, hv, hb, r⟩ => .inr ⟨a, b, cur, hv, Nat.le_trans hbase hb, r⟩⟩
    · obtain ⟨w', hrun, o2, o3⟩ := run_append_fits (P := P) w base t ty e i es ht hi hsize g n cap bs hown ad m c news hl hnews h1c hr
      exact ⟨_, _, w', hrun, o2, rfl, .inl ⟨rfl, rfl, g, rfl, o3⟩⟩

theorem wpList_append_either {ops : Array Oper} {rest : List Oper} {o : Oper} {a : Act} {Q : Exit → Act → World → Prop} (hgd : o.guard = Option.none) (s y : Operand) (t : TypeId)
    (ho : o.op = .call { callee := .builtin .append, args := #[s, y], argTypes := #[t, t] })
    (base : Nat) (e : TypeId) (i : TypeInfo) (z : Value) (es bytes : Nat) (ht : P.underlying t = some (.slice e)) (hi : P.info? e = some i) (hz : i.zero = some z)
    (hsize : i.size = es) (hby : i.bytes = bytes) (hzs : z.cells.size = es) (hes : 0 < es) (x : Rw) (bs : List Value) (hs : a.eval s = .slice x.A x.n x.c) (hown : x.own w base e es bs)
    (ad : Addr) (m c : Nat) (news : List Value) (hx : a.eval y = .slice (some ad) m c) (hl : news.length = m * es) (hnews : ∀ j u, news[j]? = some u → w.cell? (ad.add j) = some u) (h1c : ∀ u ∈ news, u.oneCell' = true)
    (hm : 0 < m) (h63 : x.n + m ≤ maxLen) (hbytes : (x.n + m) * bytes ≤ 140737488355328) (hbase : base ≤ w.heap.size)
    (h : ∀ A' c' w', Grew w w' base e es x ⟨A', x.n + m, c'⟩ m bs news → wpList P ops Q rest (a.put o.dst (.slice A' (x.n + m) c')) w') : wpList P ops Q (o :: rest) a w := by
  refine wpList_plain hgd fun K hK => ?_
  obtain ⟨A', c', w', hr, h2⟩ := run_append_either (P := P) w t o.type base e i z es bytes ht hi hz hsize hby hzs hes x bs hown ad m c news hl hnews h1c hm h63 hbytes hbase
  unfold Oper.wp execOp
  simp only [ho, resolve, invoke, builtin, Sem.run_bind, Sem.run_pure, Result.andThen_ok, List.map_toArray, List.map_cons, List.map_nil, hs, hx, hr]
  exact hK _ _ (h A' c' w' h2)
end

/-- a list written from o on -/
def setL : List Value → Nat → List Value → List Value
  | xs, _, [] => xs
  | xs, o, v :: r => setL (xs.set o v) (o + 1) r
theorem setL_length : ∀ (xs : List Value) (o : Nat) (vs : List Value), (setL xs o vs).length = xs.length
  | _, _, [] => rfl
  | xs, o, v :: r => by rw [setL, setL_length, List.length_set]
theorem setL_get : ∀ (xs : List Value) (o : Nat) (vs : List Value) (j : Nat), (setL xs o vs)[j]? = if o ≤ j ∧ j < o + vs.length ∧ j < xs.length then vs[j - o]? else xs[j]?
  | xs, o, [], j => by
    rw [if_neg (by simp; omega)]; rfl
  | xs, o, v :: r, j => by
    rw [setL, setL_get]
    simp only [List.length_set, List.length_cons]
    by_cases h1 : j = o
    · subst h1
      rw [if_neg (by omega)]
      by_cases h2 : j < xs.length
      · rw [if_pos (by omega), List.getElem?_set_self h2]; simp
      · rw [if_neg (by omega), List.getElem?_eq_none (by rw [List.length_set]; omega), List.getElem?_eq_none (by omega)]
    · rw [List.getElem?_set_ne (Ne.symm h1)]
      by_cases h2 : o + 1 ≤ j ∧ j < o + 1 + r.length ∧ j < xs.length
      · rw [if_pos h2, if_pos (by omega), show j - o = (j - (o + 1)) + 1 by omega, List.getElem?_cons_succ]
      · rw [if_neg h2, if_neg (by omega)]
theorem setL_take_succ {xs vs : List Value} {es i : Nat} (hv : vs.length = es) (hl : (i + 1) * es ≤ xs.length) : (setL xs (i * es) vs).take ((i + 1) * es) = xs.take (i * es) ++ vs := by
  have hm : (i + 1) * es = i * es + es := by rw [Nat.add_mul, Nat.one_mul]
  apply List.ext_getElem?
  intro j
  rw [List.getElem?_take, setL_get, List.getElem?_append, List.length_take, List.getElem?_take]
  by_cases h1 : j < i * es
  · rw [if_pos (by omega), if_neg (by omega), if_pos (by omega), if_pos h1]
  · by_cases h2 : j < (i + 1) * es
    · rw [if_pos h2, if_pos (by omega), if_neg (by omega)]
      congr 1; omega
    · rw [if_neg h2, if_neg (by omega), List.getElem?_eq_none (by omega)]
theorem setL_take_le {xs vs : List Value} {o n : Nat} (h : n ≤ o) : (setL xs o vs).take n = xs.take n := by
  apply List.ext_getElem?
  intro j
  rw [List.getElem?_take, List.getElem?_take, setL_get]
  by_cases h1 : j < n
  · rw [if_pos h1, if_pos h1, if_neg (by omega)]
  · rw [if_neg h1, if_neg h1]
theorem grownBy_setCell (w : World) (g i : Nat) (v : Value) : w.grownBy (w.setCell ⟨g, i, none⟩ v) (some g) :=
  ⟨rfl, rfl, rfl, by simp, fun k' _ hk => heap_setCell_other w ⟨g, i, none⟩ k' v (fun e => hk (by simp [e]))⟩
theorem grownBy_trans {w w1 w2 : World} {g : Nat} (h : w.grownBy w1 (some g)) (h2 : w1.grownBy w2 (some g)) : w.grownBy w2 (some g) :=
  ⟨h2.os.trans h.os, h2.tape.trans h.tape, h2.output.trans h.output, Nat.le_trans h.size h2.size, fun k hk hne => (h2.block k (Nat.lt_of_lt_of_le hk h.size) hne).trans (h.block k hk hne)⟩
theorem own_setCells {base es g n c : Nat} {e : TypeId} : ∀ (vs : List Value) (o : Nat) (w : World) (xs : List Value), w.ownsRow base e es (.slice (some ⟨g, 0, none⟩) n c) n xs →
    (w.setCells g o vs).ownsRow base e es (.slice (some ⟨g, 0, none⟩) n c) n (setL xs o vs) ∧ w.grownBy (w.setCells g o vs) (some g)
  | [], _, w, _, h => ⟨h, World.grownBy.refl _ _⟩
  | v :: r, o, w, xs, h => by
    obtain ⟨h1, h2⟩ := h.stored o v
    obtain ⟨h3, h4⟩ := own_setCells r (o + 1) _ _ h1
    exact ⟨h3, grownBy_trans h2 h4⟩
theorem heap_setCells_other (g : Nat) : ∀ (vs : List Value) (o : Nat) (w : World) (b : Nat), b ≠ g → (w.setCells g o vs).heap[b]? = w.heap[b]?
  | [], _, _, _, _ => rfl
  | v :: r, o, w, b, h => (heap_setCells_other g r (o + 1) _ b h).trans (heap_setCell_other w ⟨g, o, none⟩ b v h)
theorem size_setCells (g : Nat) : ∀ (vs : List Value) (o : Nat) (w : World), (w.setCells g o vs).heap.size = w.heap.size
  | [], _, _ => rfl
  | v :: r, o, w => (size_setCells g r (o + 1) _).trans (by simp)
theorem below_setCells {B : Nat} {W w : World} (h : Below B W w) {g : Nat} (hg : B ≤ g) (hs : B ≤ w.heap.size) (vs : List Value) (o : Nat) {base es n c : Nat} {e : TypeId} {xs : List Value} (ho : w.ownsRow base e es (.slice (some ⟨g, 0, none⟩) n c) n xs) : Below B W (w.setCells g o vs) :=
  h.grown (own_setCells vs o w xs ho).2 hs (fun k hk => by cases hk; exact hg)
/-- an element of a row, as a range -/
theorem own_range {w : World} {base es g n c i : Nat} {e : TypeId} {xs vs : List Value} (h : w.ownsRow base e es (.slice (some ⟨g, 0, none⟩) n c) n xs) (hi : i < n) (hv : ∀ j u, vs[j]? = some u → xs[i * es + j]? = some u) (hl : vs.length = es) : w.rangeAt g (i * es) vs := fun j u hu => by
  have hj : j < vs.length := (List.getElem?_eq_some_iff.1 hu).1
  have h2 : (i + 1) * es ≤ n * es := Nat.mul_le_mul_right _ hi
  have hm : (i + 1) * es = i * es + es := by rw [Nat.add_mul, Nat.one_mul]
  rw [h.cellAt (i * es + j) (by omega)]
  exact hv j u hu
theorem own_there {w : World} {base es g n c i : Nat} {e : TypeId} {xs : List Value} (h : w.ownsRow base e es (.slice (some ⟨g, 0, none⟩) n c) n xs) (hi : i < n) : w.there g (i * es) es := fun j hj => by
  have h2 : (i + 1) * es ≤ n * es := Nat.mul_le_mul_right _ hi
  have hm : (i + 1) * es = i * es + es := by rw [Nat.add_mul, Nat.one_mul]
  have hl := h.1
  refine ⟨?_, h.frozenAt _⟩
  rw [h.cellAt (i * es + j) (by omega), List.getElem?_eq_getElem (by omega)]
  rfl
end Go.Proofs.YtdmpphioflcofaaGreat.K.G
