/- A bank: slices that the call owns, no two in one block, over a world of the past of which nothing has changed. Appends and calls turn one bank into the next, in whatever order they come. Plain lemmas over any program. -/
import Derived.Test.YtfpjmeknjhhakaaAppendAny
import Derived.Test.YtfpjmeknjhhakaaRowRead
namespace Go.Proofs.Ytfpjmeknjhhakaa.K
open Go Go.RowKit

/-- this world, seen from an elder one -/
abbrev Since (w0 w : World) : Prop := Below w0.heap.size w0 w
theorem Since.add {w0 w w' : World} (h : Since w0 w) (hb : Below w.heap.size w w') : Since w0 w' := h.trans (hb.mono h.size)
theorem Since.alloc {w0 w : World} (h : Since w0 w) (o : Obj) : Since w0 (w.alloc o) := Below.alloc h h.size o
theorem Since.drew {w0 w : World} (h : Since w0 w) : Since w0 w.drew := ⟨h.os, h.tape, h.output, h.size, h.block⟩
theorem Since.drewN {w0 w : World} (h : Since w0 w) (q : Nat) : Since w0 (w.drewN q) := ⟨h.os, h.tape, h.output, h.size, h.block⟩
theorem Since.row {w0 w : World} (h : Since w0 w) {x : Rw} {bs : List (BitVec 8)} (hr : RowRd w0 x bs) : RowRd w x bs := hr.below h
theorem Since.at {w0 w : World} (h : Since w0 w) {g : Nat} {o : Obj} (hg : w0.heap[g]? = some o) : w.heap[g]? = some o := (h.block g (Array.getElem?_eq_some_iff.1 hg).1).trans hg
theorem Since.set {w0 w : World} (h : Since w0 w) {X : Nat} (hX : w0.heap.size ≤ X) (i : Nat) (v : Value) : Since w0 (w.setCell ⟨X, i, none⟩ v) := Below.setCell (p := ⟨X, i, none⟩) h hX v

structure Acc where
  v : Value
  n : Nat
  e : TypeId
  size : Nat
  xs : List Value
/-- no two in one block -/
def Apartness (p q : Acc) : Prop := ∀ b, p.v.ownBlock = some b → q.v.ownBlock ≠ some b
theorem Apartness.symm {p q : Acc} (h : Apartness p q) : Apartness q p := fun b hq hp => h b hp hq
structure Bank (w0 w : World) (L : List Acc) : Prop where
  since : Since w0 w
  own : ∀ p ∈ L, w.ownsRow w0.heap.size p.e p.size p.v p.n p.xs
  sep : L.Pairwise Apartness
theorem Bank.nil {w0 w : World} (h : Since w0 w) : Bank w0 w [] := ⟨h, (fun _ h => by cases h), .nil⟩
theorem Bank.lt {w0 w : World} {L : List Acc} (h : Bank w0 w L) {p : Acc} (hp : p ∈ L) {b : Nat} (hb : p.v.ownBlock = some b) : w0.heap.size ≤ b ∧ b < w.heap.size := (h.own p hp).lt b hb
theorem Bank.call {w0 w w' : World} {L : List Acc} (h : Bank w0 w L) (hb : Below w.heap.size w w') : Bank w0 w' L :=
  ⟨h.since.add hb, fun p hp => (h.own p hp).kept (row := none) ⟨hb.os, hb.tape, hb.output, hb.size, fun k hk _ => hb.block k hk⟩ (by cases h : p.v.ownBlock <;> simp), h.sep⟩
theorem Bank.drew {w0 w : World} {L : List Acc} (h : Bank w0 w L) : Bank w0 w.drew L := ⟨h.since.drew, h.own, h.sep⟩
theorem Bank.drewN {w0 w : World} {L : List Acc} (h : Bank w0 w L) (q : Nat) : Bank w0 (w.drewN q) L := ⟨h.since.drewN q, h.own, h.sep⟩
theorem Bank.alloc {w0 w : World} {L : List Acc} (h : Bank w0 w L) (o : Obj) : Bank w0 (w.alloc o) L := h.call ((Below.refl _ _).alloc (Nat.le_refl _) o)
theorem row_base {w : World} {B B' : Nat} {e : TypeId} {size n : Nat} {v : Value} {xs : List Value} (h : w.ownsRow B e size v n xs) (hb : B' ≤ B) : w.ownsRow B' e size v n xs :=
  ⟨h.1, h.2.elim .inl fun ⟨a, b, cur, hv, hbb, r⟩ => .inr ⟨a, b, cur, hv, Nat.le_trans hb hbb, r⟩⟩
/-- a row that was just made -/
theorem Bank.made {w0 w w' : World} {L : List Acc} (h : Bank w0 w L) (hb : Below w.heap.size w w') {e : TypeId} {size n : Nat} {v : Value} {xs : List Value} (ho : w'.ownsRow w.heap.size e size v n xs) : Bank w0 w' (⟨v, n, e, size, xs⟩ :: L) := by
  have h' := h.call hb
  refine ⟨h'.since, fun p hp => ?_, .cons (fun q hq b hb1 hb2 => ?_) h'.sep⟩
  · rcases List.mem_cons.1 hp with rfl | hp
    · exact row_base ho h.since.size
    · exact h'.own p hp
  · have h1 := (ho.lt b hb1).1
    have h2 := (h.lt hq hb2).2
    omega
theorem Bank.madeB {w0 w w' : World} {L : List Acc} (h : Bank w0 w L) (hb : Below w.heap.size w w') {e : TypeId} {A : Option Addr} {n c : Nat} {bs : List (BitVec 8)} (ho : w'.ownsRow w.heap.size e 1 (.slice A n c) n (bv bs)) : Bank w0 w' (⟨.slice A n c, n, e, 1, bv bs⟩ :: L) := h.made hb ho
/-- a literal row -/
theorem Bank.lit0 {w0 w : World} {L : List Acc} (h : Bank w0 w L) (e : TypeId) : Bank w0 (w.alloc (.cells #[] e)) (⟨.slice (some ⟨w.heap.size, 0, none⟩) 0 0, 0, e, 1, bv []⟩ :: L) :=
  h.made ((Below.refl _ _).alloc (Nat.le_refl _) _) (own_lit0 (Nat.le_refl _))
/-- a literal row of whatever -/
theorem Bank.litV {w0 w : World} {L : List Acc} (h : Bank w0 w L) (cs : Array Value) (e : TypeId) (hs : cs.size ≤ 1000000) : Bank w0 (w.alloc (.cells cs e)) (⟨.slice (some ⟨w.heap.size, 0, Option.none⟩) cs.size cs.size, cs.size, e, 1, cs.toList⟩ :: L) :=
  h.made ((Below.refl _ _).alloc (Nat.le_refl _) _) (World.ownsRow_lit w cs cs.size (Nat.le_refl _) (by unfold maxLen; omega) (by omega))
/-- the nil slice -/
theorem Bank.none {w0 w : World} {L : List Acc} (h : Bank w0 w L) (e : TypeId) (size : Nat) : Bank w0 w (⟨.slice none 0 0, 0, e, size, []⟩ :: L) :=
  h.made (Below.refl _ _) (World.ownsRow_nil _ _ _ _)
theorem Bank.drop {w0 w : World} {L : List Acc} {p : Acc} (h : Bank w0 w (p :: L)) : Bank w0 w L := ⟨h.since, fun q hq => h.own q (List.mem_cons_of_mem _ hq), (List.pairwise_cons.1 h.sep).2⟩
theorem Bank.at {w0 w : World} {L : List Acc} (h : Bank w0 w L) (i : Nat) {p : Acc} (hi : L[i]? = some p) : w.ownsRow w0.heap.size p.e p.size p.v p.n p.xs := h.own p (List.mem_of_getElem? hi)
theorem Bank.row {w0 w : World} {L : List Acc} (h : Bank w0 w L) (i : Nat) {A : Option Addr} {n c : Nat} {e : TypeId} {bs : List (BitVec 8)} (hi : L[i]? = some ⟨.slice A n c, n, e, 1, bv bs⟩) : RowRd w ⟨A, n, c⟩ bs := RowRd.of_row (h.at i hi)
theorem Bank.sepAt {w0 w : World} {L : List Acc} (h : Bank w0 w L) {i j : Nat} {p q : Acc} (hi : L[i]? = some p) (hj : L[j]? = some q) (hij : i ≠ j) : Apartness p q := by
  obtain ⟨hi1, rfl⟩ := List.getElem?_eq_some_iff.1 hi
  obtain ⟨hj1, rfl⟩ := List.getElem?_eq_some_iff.1 hj
  rcases Nat.lt_or_gt_of_ne hij with h1 | h1
  · exact List.pairwise_iff_getElem.1 h.sep i j hi1 hj1 h1
  · exact (List.pairwise_iff_getElem.1 h.sep j i hj1 hi1 h1).symm
/-- one of them was written: its block alone has changed, or it lies in a new one -/
theorem Bank.putG {w0 w w' : World} {L : List Acc} (h : Bank w0 w L) (i : Nat) {p p' : Acc} (hi : L[i]? = some p) (ho : w'.ownsRow w0.heap.size p'.e p'.size p'.v p'.n p'.xs) (hg : w.grownBy w' p.v.ownBlock) (hb : p'.v.ownBlock = p.v.ownBlock ∨ ∃ b, p'.v.ownBlock = some b ∧ w.heap.size ≤ b) : Bank w0 w' (L.set i p') := by
  have hp : p ∈ L := List.mem_of_getElem? hi
  have hlen : i < L.length := (List.getElem?_eq_some_iff.1 hi).1
  have hother : ∀ j q, L[j]? = some q → i ≠ j → p.v.ownBlock = Option.none ∨ ∀ b, p.v.ownBlock = some b → q.v.ownBlock ≠ some b := fun j q hj hij => .inr (h.sepAt hi hj hij)
  have hsep' : ∀ j q, L[j]? = some q → i ≠ j → Apartness p' q := by
    intro j q hj hij b hb1 hb2
    have hlt := (h.lt (List.mem_of_getElem? hj) hb2).2
    rcases hb with e | ⟨b', e, hle⟩
    · exact h.sepAt hi hj hij b (e ▸ hb1) hb2
    · rw [e] at hb1; cases hb1; omega
  refine ⟨(h.since).grown hg h.since.size (fun k hk => (h.lt hp hk).1), fun q hq => ?_, List.pairwise_iff_getElem.2 fun j k hj hk hjk => ?_⟩
  · obtain ⟨j, hj, rfl⟩ := List.mem_iff_getElem.1 hq
    rw [List.length_set] at hj
    by_cases e : i = j
    · subst e; rw [List.getElem_set_self]; exact ho
    · rw [List.getElem_set_ne e]
      refine (h.own L[j] (List.getElem_mem hj)).kept hg ?_
      cases hq2 : (L[j]).v.ownBlock with
      | none => exact .inl rfl
      | some b => exact .inr fun e2 => h.sepAt hi (List.getElem?_eq_getElem hj) e b e2.symm hq2
  · rw [List.length_set] at hj hk
    by_cases e1 : i = j
    · subst e1
      rw [List.getElem_set_self, List.getElem_set_ne (by omega)]
      exact hsep' k _ (List.getElem?_eq_getElem hk) (by omega)
    · rw [List.getElem_set_ne e1]
      by_cases e2 : i = k
      · subst e2
        rw [List.getElem_set_self]
        exact (hsep' j _ (List.getElem?_eq_getElem hj) (by omega)).symm
      · rw [List.getElem_set_ne e2]
        exact List.pairwise_iff_getElem.1 h.sep j k hj hk hjk

theorem Bank.put {w0 w w' : World} {L : List Acc} (h : Bank w0 w L) (i : Nat) {p p' : Acc} (hi : L[i]? = some p) (ho : w'.ownsRow w0.heap.size p'.e p'.size p'.v p'.n p'.xs) (hg : w.grownBy w' p.v.ownBlock) (hb : p'.v.ownBlock = p.v.ownBlock ∨ p'.v.ownBlock = some w.heap.size) : Bank w0 w' (L.set i p') :=
  h.putG i hi ho hg (hb.imp (fun h => h) fun e => ⟨_, e, Nat.le_refl _⟩)

section
variable {P : Program} {w0 w : World} {L : List Acc}
theorem run_append_bank (h : Bank w0 w L) (t ty e : TypeId) (i : TypeInfo) (z : Value) (size bytes : Nat) (ht : P.underlying t = some (.slice e)) (hi : P.info? e = some i) (hz : i.zero = some z)
    (hsize : i.size = size) (hby : i.bytes = bytes) (hzs : z.cells.size = size) (hsz : 0 < size) (k : Nat) (A : Option Addr) (n cap : Nat) (xs : List Value) (hk : L[k]? = some ⟨.slice A n cap, n, e, size, xs⟩)
    (ao : Option Addr) (m c : Nat) (news : List Value) (hnone : ao = Option.none → m = 0 ∧ c = 0) (hl : news.length = m * size) (hnews : ∀ ad, ao = some ad → ∀ j u, news[j]? = some u → w.cell? (ad.add j) = some u) (h1 : ∀ u ∈ news, u.oneCell' = true)
    (h63 : n + m ≤ maxLen) (hbytes : (n + m) * bytes ≤ 140737488355328) :
    ∃ A' c' w', (Builtin.append_ #[t, t] ty #[.slice A n cap, .slice ao m c]).run P w = .ok (.slice A' (n + m) c') w' ∧ Bank w0 w' (L.set k ⟨.slice A' (n + m) c', n + m, e, size, xs ++ news⟩) := by
  have hown := h.at k hk
  cases ao with
  | none =>
    obtain ⟨rfl, rfl⟩ := hnone rfl
    have hn : news = [] := List.eq_nil_of_length_eq_zero (by simpa using hl)
    subst hn
    refine ⟨A, cap, w, run_append_owned_none (P := P) w w0.heap.size t ty e i size ht hi _ n xs hown, ?_⟩
    rw [List.append_nil]
    exact h.put k hk hown (World.grownBy.refl _ _) (.inl rfl)
  | some ad =>
    obtain ⟨v', w', hr, o2, o3, _, o5⟩ := run_append_own_at (P := P) w w0.heap.size t ty e i z size bytes ht hi hz hsize hby hzs hsz _ n xs hown ad m c news hl (hnews ad rfl) h1 h63 hbytes h.since.size
    have hv : ∃ A' c', v' = .slice A' (n + m) c' := by
      rcases o2.2 with ⟨h0, h2⟩ | ⟨g, cp, cur, h2, _⟩
      · have : n + m = 0 := by
          have := o2.1; rw [h2] at this; simp at this; rcases this with h3 | h3 <;> omega
        exact ⟨_, _, by rw [this]; exact h0⟩
      · exact ⟨_, _, h2⟩
    obtain ⟨A', c', rfl⟩ := hv
    exact ⟨A', c', w', hr, h.put k hk o2 o3 o5⟩

theorem wp_append_bank {o : Oper} {a : Act} {K : Act → World → Prop} {Q : Exit → Act → World → Prop} (h : Bank w0 w L) (s y : Operand) (t : TypeId)
    (ho : o.op = .call { callee := .builtin .append, args := #[s, y], argTypes := #[t, t] })
    (e : TypeId) (i : TypeInfo) (z : Value) (size bytes : Nat) (ht : P.underlying t = some (.slice e)) (hi : P.info? e = some i) (hz : i.zero = some z)
    (hsize : i.size = size) (hby : i.bytes = bytes) (hzs : z.cells.size = size) (hsz : 0 < size) (k : Nat) (A : Option Addr) (n cap : Nat) (xs : List Value) (hs : a.eval s = .slice A n cap) (hk : L[k]? = some ⟨.slice A n cap, n, e, size, xs⟩)
    (ao : Option Addr) (m c : Nat) (news : List Value) (hx : a.eval y = .slice ao m c) (hnone : ao = Option.none → m = 0 ∧ c = 0) (hl : news.length = m * size) (hnews : ∀ ad, ao = some ad → ∀ j u, news[j]? = some u → w.cell? (ad.add j) = some u) (h1 : ∀ u ∈ news, u.oneCell' = true)
    (h63 : n + m ≤ maxLen) (hbytes : (n + m) * bytes ≤ 140737488355328)
    (hK : ∀ A' c' w', Bank w0 w' (L.set k ⟨.slice A' (n + m) c', n + m, e, size, xs ++ news⟩) → K (a.put o.dst (.slice A' (n + m) c')) w') : o.wp P a w K Q := by
  obtain ⟨A', c', w', hr, h2⟩ := run_append_bank (P := P) h t o.type e i z size bytes ht hi hz hsize hby hzs hsz k A n cap xs hk ao m c news hnone hl hnews h1 h63 hbytes
  unfold Oper.wp execOp
  simp only [ho, resolve, invoke, builtin, Sem.run_bind, Sem.run_pure, Result.andThen_ok, List.map_toArray, List.map_cons, List.map_nil, hs, hx, hr]
  exact hK A' c' w' h2
/-- the same, with what the append changed -/
theorem run_append_bankG (h : Bank w0 w L) (t ty e : TypeId) (i : TypeInfo) (z : Value) (size bytes : Nat) (ht : P.underlying t = some (.slice e)) (hi : P.info? e = some i) (hz : i.zero = some z)
    (hsize : i.size = size) (hby : i.bytes = bytes) (hzs : z.cells.size = size) (hsz : 0 < size) (k : Nat) (A : Option Addr) (n cap : Nat) (xs : List Value) (hk : L[k]? = some ⟨.slice A n cap, n, e, size, xs⟩)
    (ad : Addr) (m c : Nat) (news : List Value) (hl : news.length = m * size) (hnews : ∀ j u, news[j]? = some u → w.cell? (ad.add j) = some u) (h1 : ∀ u ∈ news, u.oneCell' = true)
    (h63 : n + m ≤ maxLen) (hbytes : (n + m) * bytes ≤ 140737488355328) :
    ∃ A' c' w', (Builtin.append_ #[t, t] ty #[.slice A n cap, .slice (some ad) m c]).run P w = .ok (.slice A' (n + m) c') w' ∧ Bank w0 w' (L.set k ⟨.slice A' (n + m) c', n + m, e, size, xs ++ news⟩) ∧
      w.grownBy w' (Value.slice A n cap).ownBlock ∧ ((Value.slice A' (n + m) c').ownBlock = (Value.slice A n cap).ownBlock ∨ (Value.slice A' (n + m) c').ownBlock = some w.heap.size) := by
  have hown := h.at k hk
  obtain ⟨v', w', hr, o2, o3, _, o5⟩ := run_append_own_at (P := P) w w0.heap.size t ty e i z size bytes ht hi hz hsize hby hzs hsz _ n xs hown ad m c news hl hnews h1 h63 hbytes h.since.size
  have hv : ∃ A' c', v' = .slice A' (n + m) c' := by
    rcases o2.2 with ⟨h0, h2⟩ | ⟨g, cp, cur, h2, _⟩
    · have : n + m = 0 := by
        have := o2.1; rw [h2] at this; simp at this; rcases this with h3 | h3 <;> omega
      exact ⟨_, _, by rw [this]; exact h0⟩
    · exact ⟨_, _, h2⟩
  obtain ⟨A', c', rfl⟩ := hv
  exact ⟨A', c', w', hr, h.put k hk o2 o3 o5, o3, o5⟩
theorem wpList_append_bankG {ops : Array Oper} {rest : List Oper} {o : Oper} {a : Act} {Q : Exit → Act → World → Prop} (h : Bank w0 w L) (hgd : o.guard = Option.none) (s y : Operand) (t : TypeId)
    (ho : o.op = .call { callee := .builtin .append, args := #[s, y], argTypes := #[t, t] })
    (e : TypeId) (z : Value) (size bytes : Nat) (hz : (P.info? e).map (fun i => (i.zero, i.size, i.bytes)) = some (some z, size, bytes)) (ht : P.underlying t = some (.slice e)) (hzs : z.cells.size = size) (hsz : 0 < size)
    (k : Nat) (A : Option Addr) (n cap : Nat) (xs : List Value) (hs : a.eval s = .slice A n cap) (hk : L[k]? = some ⟨.slice A n cap, n, e, size, xs⟩)
    (ad : Addr) (m c : Nat) (news : List Value) (hx : a.eval y = .slice (some ad) m c) (hl : news.length = m * size) (hnews : ∀ j u, news[j]? = some u → w.cell? (ad.add j) = some u) (h1 : ∀ u ∈ news, u.oneCell' = true)
    (h63 : n + m ≤ maxLen) (hbytes : (n + m) * bytes ≤ 140737488355328)
    (hK : ∀ A' n' c' w', n' = n + m → Bank w0 w' (L.set k ⟨.slice A' n' c', n', e, size, xs ++ news⟩) → w.grownBy w' (Value.slice A n cap).ownBlock → ((Value.slice A' n' c').ownBlock = (Value.slice A n cap).ownBlock ∨ (Value.slice A' n' c').ownBlock = some w.heap.size) → wpList P ops Q rest (a.put o.dst (.slice A' n' c')) w') : wpList P ops Q (o :: rest) a w := by
  obtain ⟨i0, hi, hz0, hz1, hz2⟩ := info_parts hz
  refine wpList_plain hgd fun K hK' => ?_
  obtain ⟨A', c', w', hr, h2, h3, h4⟩ := run_append_bankG (P := P) h t o.type e i0 z size bytes ht hi hz0 hz1 hz2 hzs hsz k A n cap xs hk ad m c news hl hnews h1 h63 hbytes
  unfold Oper.wp execOp
  simp only [ho, resolve, invoke, builtin, Sem.run_bind, Sem.run_pure, Result.andThen_ok, List.map_toArray, List.map_cons, List.map_nil, hs, hx, hr]
  exact hK' _ _ (hK A' _ c' w' rfl h2 h3 h4)
theorem RowRd.src {x : Rw} {bs : List (BitVec 8)} (h : RowRd w x bs) : (x.A = Option.none → x.n = 0 ∧ x.c = 0) ∧ (bv bs).length = x.n * 1 ∧ ∀ ad, x.A = some ad → ∀ j u, (bv bs)[j]? = some u → w.cell? (ad.add j) = some u :=
  ⟨fun e => ⟨by
    have hrd := h.rd
    rw [e] at hrd
    have := h.len
    rw [hrd.empty] at this; exact this.symm, h.none e⟩, by rw [bv_length, h.len, Nat.mul_one], h.rd.cells⟩
/-- bytes put behind bytes, on the walk -/
theorem wpList_append_bytes {ops : Array Oper} {rest : List Oper} {o : Oper} {a : Act} {Q : Exit → Act → World → Prop} (h : Bank w0 w L) (hgd : o.guard = Option.none) (s y : Operand) (t : TypeId)
    (ho : o.op = .call { callee := .builtin .append, args := #[s, y], argTypes := #[t, t] })
    (e : TypeId) (hz : (P.info? e).map (fun i => (i.zero, i.size, i.bytes)) = some (some (.int .u8 0), 1, 1)) (ht : P.underlying t = some (.slice e)) (k : Nat) (A : Option Addr) (n cap : Nat) (bs : List (BitVec 8)) (hs : a.eval s = .slice A n cap) (hk : L[k]? = some ⟨.slice A n cap, n, e, 1, bv bs⟩)
    (ao : Option Addr) (m c : Nat) (news : List (BitVec 8)) (hx : a.eval y = .slice ao m c) (hr : RowRd w ⟨ao, m, c⟩ news) (hb : n + m ≤ 140737488355328)
    (hK : ∀ A' n' c' w', n' = n + m → Bank w0 w' (L.set k ⟨.slice A' n' c', n', e, 1, bv (bs ++ news)⟩) → wpList P ops Q rest (a.put o.dst (.slice A' n' c')) w') : wpList P ops Q (o :: rest) a w := by
  obtain ⟨i0, hi, hz0, hz1, hz2⟩ := info_parts hz
  obtain ⟨r1, r2, r3⟩ := hr.src
  refine wpList_plain hgd fun K hK' => ?_
  refine wp_append_bank h s y t ho e i0 _ 1 1 ht hi hz0 hz1 hz2 rfl (by decide) k A n cap (bv bs) hs hk ao m c (bv news) hx r1 r2 r3 (bv_one _) (by unfold maxLen; omega) (by omega) fun A' c' w' h2 => hK' _ _ ?_
  rw [← bv_append] at h2
  exact hK A' _ c' w' rfl h2
/-- the same, the append being guarded -/
theorem wpList_append_bytesW {ops : Array Oper} {rest : List Oper} {o : Oper} {a : Act} {Q : Exit → Act → World → Prop} (h : Bank w0 w L) (hgd : Region.wanted o (yielded ops a.tmps) = true) (s y : Operand) (t : TypeId)
    (ho : o.op = .call { callee := .builtin .append, args := #[s, y], argTypes := #[t, t] })
    (e : TypeId) (hz : (P.info? e).map (fun i => (i.zero, i.size, i.bytes)) = some (some (.int .u8 0), 1, 1)) (ht : P.underlying t = some (.slice e)) (k : Nat) (A : Option Addr) (n cap : Nat) (bs : List (BitVec 8)) (hs : a.eval s = .slice A n cap) (hk : L[k]? = some ⟨.slice A n cap, n, e, 1, bv bs⟩)
    (ao : Option Addr) (m c : Nat) (news : List (BitVec 8)) (hx : a.eval y = .slice ao m c) (hr : RowRd w ⟨ao, m, c⟩ news) (hb : n + m ≤ 140737488355328)
    (hK : ∀ A' n' c' w', n' = n + m → Bank w0 w' (L.set k ⟨.slice A' n' c', n', e, 1, bv (bs ++ news)⟩) → wpList P ops Q rest (a.put o.dst (.slice A' n' c')) w') : wpList P ops Q (o :: rest) a w := by
  obtain ⟨i0, hi, hz0, hz1, hz2⟩ := info_parts hz
  obtain ⟨r1, r2, r3⟩ := hr.src
  refine wpList_step fun K hK' => ?_
  rw [if_pos hgd]
  refine wp_append_bank h s y t ho e i0 _ 1 1 ht hi hz0 hz1 hz2 rfl (by decide) k A n cap (bv bs) hs hk ao m c (bv news) hx r1 r2 r3 (bv_one _) (by unfold maxLen; omega) (by omega) fun A' c' w' h2 => hK' _ _ ?_
  rw [← bv_append] at h2
  exact hK A' _ c' w' rfl h2
/-- bytes put behind bytes, in a region that draws its order -/
theorem step_append_bytes {ops : Array Oper} {o : Oper} {a : Act} {K : Act → World → Prop} {Q : Exit → Act → World → Prop} {E : Prop} (h : Bank w0 w L) (hgd : o.guard = Option.none) (s y : Operand) (t : TypeId)
    (ho : o.op = .call { callee := .builtin .append, args := #[s, y], argTypes := #[t, t] })
    (e : TypeId) (hz : (P.info? e).map (fun i => (i.zero, i.size, i.bytes)) = some (some (.int .u8 0), 1, 1)) (ht : P.underlying t = some (.slice e)) (k : Nat) (A : Option Addr) (n cap : Nat) (bs : List (BitVec 8)) (hs : a.eval s = .slice A n cap) (hk : L[k]? = some ⟨.slice A n cap, n, e, 1, bv bs⟩)
    (ao : Option Addr) (m c : Nat) (news : List (BitVec 8)) (hx : a.eval y = .slice ao m c) (hr : RowRd w ⟨ao, m, c⟩ news) (hb : n + m ≤ 140737488355328)
    (hK : ∀ A' n' c' w', n' = n + m → Bank w0 w' (L.set k ⟨.slice A' n' c', n', e, 1, bv (bs ++ news)⟩) → K (a.put o.dst (.slice A' n' c')) w') :
    if Region.wanted o (yielded ops a.tmps) = true then Oper.wp P o a w K Q else E := by
  have hw : Region.wanted o (yielded ops a.tmps) = true := by simp [Region.wanted, hgd]
  rw [if_pos hw]
  obtain ⟨i0, hi, hz0, hz1, hz2⟩ := info_parts hz
  obtain ⟨r1, r2, r3⟩ := hr.src
  refine wp_append_bank h s y t ho e i0 _ 1 1 ht hi hz0 hz1 hz2 rfl (by decide) k A n cap (bv bs) hs hk ao m c (bv news) hx r1 r2 r3 (bv_one _) (by unfold maxLen; omega) (by omega) fun A' c' w' h2 => ?_
  rw [← bv_append] at h2
  exact hK A' _ c' w' rfl h2
/-- the same in a region that draws its order, and what was put behind of reads as it did -/
theorem step_append_bytesK {ops : Array Oper} {o : Oper} {a : Act} {K : Act → World → Prop} {Q : Exit → Act → World → Prop} {E : Prop} (h : Bank w0 w L) (hgd : Region.wanted o (yielded ops a.tmps) = true) (s y : Operand) (t : TypeId)
    (ho : o.op = .call { callee := .builtin .append, args := #[s, y], argTypes := #[t, t] })
    (e : TypeId) (hz : (P.info? e).map (fun i => (i.zero, i.size, i.bytes)) = some (some (.int .u8 0), 1, 1)) (ht : P.underlying t = some (.slice e)) (k : Nat) (g n cap : Nat) (bs : List (BitVec 8)) (hs : a.eval s = .slice (some ⟨g, 0, Option.none⟩) n cap) (hk : L[k]? = some ⟨.slice (some ⟨g, 0, Option.none⟩) n cap, n, e, 1, bv bs⟩)
    (ao : Option Addr) (m c : Nat) (news : List (BitVec 8)) (hx : a.eval y = .slice ao m c) (hr : RowRd w ⟨ao, m, c⟩ news) (hm : 0 < m) (hb : n + m ≤ 140737488355328)
    (hK : ∀ A' n' c' w', n' = n + m → Bank w0 w' (L.set k ⟨.slice A' n' c', n', e, 1, bv (bs ++ news)⟩) → RowRd w' ⟨some ⟨g, 0, Option.none⟩, n, cap⟩ bs → K (a.put o.dst (.slice A' n' c')) w') :
    if Region.wanted o (yielded ops a.tmps) = true then Oper.wp P o a w K Q else E := by
  rw [if_pos hgd]
  obtain ⟨i0, hi, hz0, hz1, hz2⟩ := info_parts hz
  obtain ⟨r1, r2, r3⟩ := hr.src
  have hown := h.at k hk
  obtain ⟨ad, rfl⟩ : ∃ ad, ao = some ad := by
    cases ao with
    | none => have := (r1 rfl).1; have h' : m = 0 := this; omega
    | some ad => exact ⟨ad, rfl⟩
  obtain ⟨g', cap', w', hrun, o2, o3, o4, _, o6⟩ := run_append_keep (P := P) w t o.type w0.heap.size e i0 _ 1 1 ht hi hz0 hz1 hz2 rfl (by decide) g n cap (bv bs) hown ad m c (bv news) r2 (r3 ad rfl) (bv_one _) hm (by unfold maxLen; omega) (by omega) h.since.size _ rfl
  have hB := h.putG k hk (p' := ⟨.slice (some ⟨g', 0, Option.none⟩) (n + m) cap', n + m, e, 1, bv (bs ++ news)⟩) (by rw [bv_append]; exact o2) o3 (by
    rcases o4 with ⟨e1, _⟩ | ⟨e1, _⟩
    · exact .inl (by rw [e1]; rfl)
    · exact .inr ⟨g', rfl, e1⟩)
  have hR : RowRd w' ⟨some ⟨g, 0, Option.none⟩, n, cap⟩ bs := ⟨fun j hj => by
    have hrd := RowRd.of_row hown
    obtain ⟨b, o, e, hc⟩ := hrd.rd j hj
    have hjn : j < n := by have h' : bs.length = n := hrd.len; omega
    cases e
    exact ⟨g, 0, rfl, by rw [Nat.zero_add]; rw [Nat.zero_add] at hc; rw [o6 j (by omega), hc]⟩, (RowRd.of_row hown).len, fun h => by cases h⟩
  unfold Oper.wp execOp
  simp only [ho, resolve, invoke, builtin, Sem.run_bind, Sem.run_pure, Result.andThen_ok, List.map_toArray, List.map_cons, List.map_nil, hs, hx, hrun]
  exact hK _ _ _ w' rfl hB hR
/-- the bank of the world at hand, ahead of a call or an append -/
theorem calls_bank {f : FuncId} {args : Array Value} {Q : Ending → World → Prop} (h : Bank w0 w L) (hq : Bank w0 w L → Calls P f args w Q) : Calls P f args w Q := hq h
theorem step_bank {ops : Array Oper} {o : Oper} {a : Act} {K : Act → World → Prop} {Q : Exit → Act → World → Prop} {E : Prop} (h : Bank w0 w L) (hq : Bank w0 w L → if Region.wanted o (yielded ops a.tmps) = true then Oper.wp P o a w K Q else E) : if Region.wanted o (yielded ops a.tmps) = true then Oper.wp P o a w K Q else E := hq h
end
/-- something else was written, or made -/
theorem Bank.other {w0 w w' : World} {L : List Acc} (h : Bank w0 w L) {X : Nat} (hg : w.grownBy w' (some X)) (hX : w0.heap.size ≤ X) (hL : ∀ p ∈ L, p.v.ownBlock ≠ some X) : Bank w0 w' L := by
  refine ⟨h.since.grown hg h.since.size (by rintro k ⟨⟩; exact hX), fun p hp => (h.own p hp).kept hg ?_, h.sep⟩
  cases hq : p.v.ownBlock with
  | none => exact .inl rfl
  | some b => exact .inr fun e => hL p hp (hq.trans e)
theorem Bank.add {w0 w : World} {L : List Acc} (h : Bank w0 w L) {B : Nat} {e : TypeId} {size n : Nat} {v : Value} {xs : List Value} (ho : w.ownsRow B e size v n xs) (hB : w0.heap.size ≤ B) (hL : ∀ p ∈ L, ∀ b, p.v.ownBlock = some b → b < B) : Bank w0 w (⟨v, n, e, size, xs⟩ :: L) := by
  refine ⟨h.since, fun p hp => ?_, .cons (fun q hq b hb1 hb2 => ?_) h.sep⟩
  · rcases List.mem_cons.1 hp with rfl | hp
    · exact row_base ho hB
    · exact h.own p hp
  · have h1 := (ho.lt b hb1).1
    have h2 := hL q hq b hb2
    omega
theorem Bank.swap {w0 w : World} {L : List Acc} {p q : Acc} (h : Bank w0 w (p :: q :: L)) : Bank w0 w (q :: p :: L) := by
  obtain ⟨h1, h2⟩ := List.pairwise_cons.1 h.sep
  obtain ⟨h3, h4⟩ := List.pairwise_cons.1 h2
  refine ⟨h.since, fun x hx => h.own x ?_, .cons (fun x hx => ?_) (.cons (fun x hx => h1 x (List.mem_cons_of_mem _ hx)) h4)⟩
  · simp only [List.mem_cons] at hx ⊢
    rcases hx with rfl | rfl | hx
    · exact .inr (.inl rfl)
    · exact .inl rfl
    · exact .inr (.inr hx)
  · rcases List.mem_cons.1 hx with rfl | hx
    · exact (h1 _ (List.mem_cons_self ..)).symm
    · exact h3 x hx
/-- bytes made in memory of their own -/
def Made (w : World) (bs : List (BitVec 8)) (e : Ending) (w' : World) : Prop := ∃ g N c, e = .returned (.slice (some ⟨g, 0, none⟩) N c) ∧ N = bs.length ∧ w'.ownsRow w.heap.size 5 1 (.slice (some ⟨g, 0, none⟩) N c) N (bv bs) ∧ Below w.heap.size w w'
/-- likewise, or nil -/
def MadeO (w : World) (bs : List (BitVec 8)) (e : Ending) (w' : World) : Prop := ∃ A N c, e = .returned (.slice A N c) ∧ N = bs.length ∧ w'.ownsRow w.heap.size 5 1 (.slice A N c) N (bv bs) ∧ Below w.heap.size w w'
end Go.Proofs.Ytfpjmeknjhhakaa.K
