/- Merged: RowSet, RowMore, AppendAny, Basic, Lent, RowRead, Bank. -/
import Derived.Test.YtdmpphioflcofaaLq1
import Derived.Laws.OwnMore
import Derived.Test.YtdmpphioflcofaaRows
/- Rows of bytes that lie apart: plain lemmas over any program. A row is a slice value; a situation says which rows a world owns, that no two lie in one block, and that a second set of rows (grown out of the first) lies apart too. -/
namespace Go.Proofs.Ytdmpphioflcofaa.K
open Go Go.RowKit

structure Rw where
  A : Option Addr
  n : Nat
  c : Nat
def Rw.v (x : Rw) : Value := .slice x.A x.n x.c
def Rw.blk (x : Rw) : Option Nat := x.v.ownBlock
def Rw.own (x : Rw) (w : World) (base : Nat) (e : TypeId) (bs : List (BitVec 8)) : Prop := w.ownsRow base e 1 x.v x.n (bv bs)

theorem Rw.own.len {x : Rw} {w : World} {base : Nat} {e : TypeId} {bs : List (BitVec 8)} (h : x.own w base e bs) : bs.length = x.n := by
  have := h.1; rw [bv_length] at this; omega
theorem Rw.own.addr {x : Rw} {w : World} {base : Nat} {e : TypeId} {bs : List (BitVec 8)} (h : x.own w base e bs) : (x.A = none ∧ x.n = 0 ∧ x.c = 0) ∨ ∃ g, x.A = some ⟨g, 0, none⟩ ∧ x.blk = some g ∧ base ≤ g ∧ g < w.heap.size := by
  rcases h.2 with ⟨h1, h2⟩ | ⟨g, cap, cur, hv, hb, hg, _⟩
  · left
    simp only [Rw.v, Value.slice.injEq] at h1
    exact h1
  · right
    simp only [Rw.v, Value.slice.injEq] at hv
    exact ⟨g, hv.1, by simp [Rw.blk, Rw.v, hv.1, Value.ownBlock], hb, (Array.getElem?_eq_some_iff.1 hg).1⟩
theorem Rw.own.kept {x : Rw} {w w' : World} {base : Nat} {e : TypeId} {bs : List (BitVec 8)} {row : Option Nat} (h : x.own w base e bs) (hg : w.grownBy w' row) (hne : ∀ b, x.blk = some b → row ≠ some b) : x.own w' base e bs := by
  refine World.ownsRow.kept h hg ?_
  cases hv : x.v.ownBlock with
  | none => exact .inl rfl
  | some b => exact .inr (fun e => hne b hv e.symm)
/-- a row's beginning -/
theorem own_take {w : World} {base : Nat} {e : TypeId} {g n c k : Nat} {bs : List (BitVec 8)} (h : w.ownsRow base e 1 (.slice (some ⟨g, 0, none⟩) n c) n (bv bs)) (hk : k ≤ n) : w.ownsRow base e 1 (.slice (some ⟨g, 0, none⟩) k c) k (bv (bs.take k)) := by
  have hl : bs.length = n := by have := h.1; rw [bv_length] at this; omega
  refine ⟨by rw [bv_length, List.length_take]; omega, ?_⟩
  rcases h.2 with ⟨h1, _⟩ | ⟨g', cap, cur, hv, hb, hg, hnc, hcm, hs, ht⟩
  · simp at h1
  · simp only [Value.slice.injEq, Option.some.injEq, Addr.mk.injEq, and_true, true_and] at hv
    obtain ⟨rfl, rfl⟩ := hv
    refine .inr ⟨g, c, cur, rfl, hb, hg, by omega, hcm, hs, ?_⟩
    have e2 : bv (bs.take k) = (bv bs).take k := by simp [bv]
    rw [e2, ← ht, List.take_take]
    congr 1; omega

/-- what an append of m bytes makes of a row -/
def Grew (w w' : World) (base : Nat) (e : TypeId) (x x' : Rw) (m : Nat) (bs news : List (BitVec 8)) : Prop :=
  x'.own w' base e (bs ++ news) ∧ x'.n = x.n + m ∧
  ((x'.A = x.A ∧ x'.c = x.c ∧ ∃ g, x.A = some ⟨g, 0, none⟩ ∧ w.grownBy w' (some g)) ∨ (∃ g, x'.A = some ⟨g, 0, none⟩ ∧ w.heap.size ≤ g ∧ w.grownBy w' none))
theorem Grew.size {w w' : World} {base : Nat} {e : TypeId} {x x' : Rw} {m : Nat} {bs news : List (BitVec 8)} (h : Grew w w' base e x x' m bs news) : w.heap.size ≤ w'.heap.size := by
  rcases h.2.2 with ⟨_, _, _, _, h⟩ | ⟨_, _, _, h⟩ <;> exact h.size
theorem Grew.below {W w w' : World} {base : Nat} {e : TypeId} {x x' : Rw} {m : Nat} {bs news : List (BitVec 8)} (h : Grew w w' base e x x' m bs news) (hx : x.own w base e bs) {B : Nat} (hB : B ≤ base) (hs : B ≤ w.heap.size) (hb : Below B W w) : Below B W w' := by
  rcases h.2.2 with ⟨_, _, g, hg, h⟩ | ⟨_, _, _, h⟩
  · refine hb.grown h hs fun k hk => ?_
    cases hk
    rcases hx.addr with ⟨h0, _⟩ | ⟨g', h0, _, h1, _⟩
    · rw [h0] at hg; cases hg
    · rw [h0] at hg; cases hg; omega
  · exact hb.grown h hs fun k hk => by cases hk

section
variable {P : Program} (w : World)
theorem run_append_either (t ty : TypeId) (base : Nat) (e : TypeId) (i : TypeInfo) (z : Value) (bytes : Nat) (ht : P.underlying t = some (.slice e)) (hi : P.info? e = some i) (hz : i.zero = some z)
    (hsize : i.size = 1) (hby : i.bytes = bytes) (hzs : z.cells.size = 1) (x : Rw) (bs : List (BitVec 8)) (hown : x.own w base e bs)
    (ad : Addr) (m c : Nat) (news : List (BitVec 8)) (hl : news.length = m) (hnews : ∀ j u, (bv news)[j]? = some u → w.cell? (ad.add j) = some u)
    (hm : 0 < m) (h63 : x.n + m ≤ maxLen) (hbytes : (x.n + m) * bytes ≤ 140737488355328) (hbase : base ≤ w.heap.size) :
    ∃ A' c' w', (Builtin.append_ #[t, t] ty #[.slice x.A x.n x.c, .slice (some ad) m c]).run P w = .ok (.slice A' (x.n + m) c') w' ∧ Grew w w' base e x ⟨A', x.n + m, c'⟩ m bs news := by
  have hl' : (bv news).length = m * 1 := by rw [bv_length]; omega
  obtain ⟨A, n, cap⟩ := x
  rcases hown.addr with ⟨h1, h2, h3⟩ | ⟨g, h1, _, h2, h3⟩
  · obtain rfl : A = none := h1
    obtain rfl : n = 0 := h2
    obtain rfl : cap = 0 := h3
    obtain ⟨v', w', hr, o2, o3, _, o5⟩ := run_append_own_at (P := P) w base t ty e i z 1 bytes ht hi hz hsize hby hzs (by omega) _ 0 _ hown ad m c (bv news) hl' hnews (bv_one _) h63 hbytes hbase
    obtain ⟨g', cap', rfl, hb', hlt⟩ := o2.form (by omega)
    refine ⟨_, _, w', hr, by rw [← bv_append] at o2; exact o2, rfl, .inr ⟨g', rfl, ?_, o3⟩⟩
    rcases o5 with o5 | o5
    · simp [Value.ownBlock, Rw.v] at o5
    · simp [Value.ownBlock] at o5; omega
  · obtain rfl : A = some ⟨g, 0, none⟩ := h1
    have hxl : (bv bs).length = n * 1 := by rw [bv_length, hown.len]; simp
    rcases Nat.lt_or_ge cap (n + m) with hr | hr
    · obtain ⟨v', w', hrun, o2, o3⟩ := run_append_arg_grows (P := P) w t ty e i z 1 bytes ht hi hz hsize hby hzs (by omega) ⟨g, 0, none⟩ n cap (bv bs) hxl
        (fun j u hu => by
          have hj : j < (bv bs).length := (List.getElem?_eq_some_iff.1 hu).1
          rw [Addr.add_lit, Nat.zero_add]
          have hc := World.ownsRow.cellAt hown j (by rw [hxl] at hj; exact hj)
          rw [hc, hu]) ad m c (bv news) hl' hnews hr h63 hbytes
      obtain ⟨g', cap', rfl, hg', hlt⟩ := o2.form (by omega)
      refine ⟨_, _, w', hrun, ?_, rfl, .inr ⟨g', rfl, hg', o3⟩⟩
      rw [← bv_append] at o2
      exact ⟨o2.1, o2.2.elim .inl fun ⟨a, b, cur, hv, hb, r⟩ => .inr ⟨a, b, cur, hv, Nat.le_trans hbase hb, r⟩⟩
    · obtain ⟨w', hrun, o2, o3⟩ := run_append_fits (P := P) w base t ty e i 1 ht hi hsize g n cap (bv bs) hown ad m c (bv news) hl' hnews (bv_one _) hr
      rw [← bv_append] at o2
      exact ⟨_, _, w', hrun, o2, rfl, .inl ⟨rfl, rfl, g, rfl, o3⟩⟩

theorem wpList_append_either {ops : Array Oper} {rest : List Oper} {o : Oper} {a : Act} {Q : Exit → Act → World → Prop} (hgd : o.guard = Option.none) (s y : Operand) (t : TypeId)
    (ho : o.op = .call { callee := .builtin .append, args := #[s, y], argTypes := #[t, t] })
    (base : Nat) (e : TypeId) (i : TypeInfo) (z : Value) (bytes : Nat) (ht : P.underlying t = some (.slice e)) (hi : P.info? e = some i) (hz : i.zero = some z)
    (hsize : i.size = 1) (hby : i.bytes = bytes) (hzs : z.cells.size = 1) (x : Rw) (bs : List (BitVec 8)) (hs : a.eval s = .slice x.A x.n x.c) (hown : x.own w base e bs)
    (ad : Addr) (m c : Nat) (news : List (BitVec 8)) (hx : a.eval y = .slice (some ad) m c) (hl : news.length = m) (hnews : ∀ j u, (bv news)[j]? = some u → w.cell? (ad.add j) = some u)
    (hm : 0 < m) (h63 : x.n + m ≤ maxLen) (hbytes : (x.n + m) * bytes ≤ 140737488355328) (hbase : base ≤ w.heap.size)
    (h : ∀ A' c' w', Grew w w' base e x ⟨A', x.n + m, c'⟩ m bs news → wpList P ops Q rest (a.put o.dst (.slice A' (x.n + m) c')) w') : wpList P ops Q (o :: rest) a w := by
  refine wpList_plain hgd fun K hK => ?_
  obtain ⟨A', c', w', hr, h2⟩ := run_append_either (P := P) w t o.type base e i z bytes ht hi hz hsize hby hzs x bs hown ad m c news hl hnews hm h63 hbytes hbase
  unfold Oper.wp execOp
  simp only [ho, resolve, invoke, builtin, Sem.run_bind, Sem.run_pure, Result.andThen_ok, List.map_toArray, List.map_cons, List.map_nil, hs, hx, hr]
  exact hK _ _ (h A' c' w' h2)
end

def upd {α : Type} (f : Nat → α) (k : Nat) (x : α) : Nat → α := fun j => if j = k then x else f j
theorem upd_same {α : Type} (f : Nat → α) (k : Nat) (x : α) : upd f k x k = x := by simp [upd]
theorem upd_other {α : Type} (f : Nat → α) (k : Nat) (x : α) {j : Nat} (h : j ≠ k) : upd f k x j = f j := by simp [upd, h]

/-- m rows r that read f, and k rows r' that read F; no two of one set lie in one block, nor one of r and another one's of r'; none lies in a block of Z -/
structure Sit (w : World) (base : Nat) (e : TypeId) (m : Nat) (Z : Nat → Prop) (r : Nat → Rw) (f : Nat → List (BitVec 8)) (k : Nat) (r' : Nat → Rw) (F : Nat → List (BitVec 8)) : Prop where
  own : ∀ j, j < m → (r j).own w base e (f j)
  sep : ∀ i j, i < m → j < m → i ≠ j → ∀ b, (r i).blk = some b → (r j).blk ≠ some b
  own' : ∀ j, j < k → (r' j).own w base e (F j)
  sep' : ∀ i j, i < m → j < k → i ≠ j → ∀ b, (r' j).blk = some b → (r i).blk ≠ some b
  sep2 : ∀ i j, i < k → j < k → i ≠ j → ∀ b, (r' i).blk = some b → (r' j).blk ≠ some b
  z : ∀ b, Z b → b < w.heap.size ∧ (∀ j, j < m → (r j).blk ≠ some b) ∧ (∀ j, j < k → (r' j).blk ≠ some b)
/-- a row x that stands for the k-th one of r' -/
structure Cur (w : World) (base : Nat) (e : TypeId) (m : Nat) (Z : Nat → Prop) (r : Nat → Rw) (f : Nat → List (BitVec 8)) (k : Nat) (r' : Nat → Rw) (x : Rw) (bs : List (BitVec 8)) : Prop where
  own : x.own w base e bs
  sep : ∀ j, j < m → j ≠ k → ∀ b, x.blk = some b → (r j).blk ≠ some b
  sep' : ∀ j, j < k → ∀ b, x.blk = some b → (r' j).blk ≠ some b
  z : ∀ b, Z b → x.blk ≠ some b
  same : ∀ b, x.blk = some b → (r k).blk = some b → x.A = (r k).A ∧ x.c = (r k).c ∧ (r k).n ≤ x.n ∧ bs.take (r k).n = f k

section
variable {w w' : World} {base : Nat} {e : TypeId} {m : Nat} {Z : Nat → Prop} {r r' : Nat → Rw} {f F : Nat → List (BitVec 8)} {k : Nat} {x : Rw} {bs : List (BitVec 8)}

theorem Sit.kept (S : Sit w base e m Z r f k r' F) {row : Option Nat} (hg : w.grownBy w' row) (h1 : ∀ j, j < m → ∀ b, (r j).blk = some b → row ≠ some b) (h2 : ∀ j, j < k → ∀ b, (r' j).blk = some b → row ≠ some b) : Sit w' base e m Z r f k r' F :=
  ⟨fun j hj => (S.own j hj).kept hg (h1 j hj), S.sep, fun j hj => (S.own' j hj).kept hg (h2 j hj), S.sep', S.sep2, fun b hb => ⟨Nat.lt_of_lt_of_le (S.z b hb).1 hg.size, (S.z b hb).2⟩⟩
theorem Sit.alloc (S : Sit w base e m Z r f k r' F) (o : Obj) : Sit (w.alloc o) base e m Z r f k r' F :=
  S.kept (World.grownBy_alloc w o none) (fun _ _ _ _ h => by cases h) (fun _ _ _ _ h => by cases h)
theorem Sit.grown (S : Sit w base e m Z r f k r' F) (hg : w.grownBy w' none) : Sit w' base e m Z r f k r' F :=
  S.kept hg (fun _ _ _ _ h => by cases h) (fun _ _ _ _ h => by cases h)
theorem grownBy_setCell (w : World) (g i : Nat) (v : Value) : w.grownBy (w.setCell ⟨g, i, none⟩ v) (some g) :=
  ⟨rfl, rfl, rfl, by simp, fun k' _ hk => heap_setCell_other w ⟨g, i, none⟩ k' v (fun e => hk (by simp [e]))⟩
theorem cell_setCell_ne {w : World} {g b i j : Nat} (v : Value) (hb : g ≠ b) : (w.setCell ⟨b, i, none⟩ v).cell? ⟨g, j, none⟩ = w.cell? ⟨g, j, none⟩ := by
  refine World.cell?_setCell_other _ _ _ _ (fun e => hb ?_)
  injection e with e1 _
  exact e1.symm
theorem Grew.block {w w' : World} {base : Nat} {e : TypeId} {x x' : Rw} {m : Nat} {bs news : List (BitVec 8)} (h : Grew w w' base e x x' m bs news) {b : Nat} (hb : b < w.heap.size) (hx : x.blk ≠ some b) : w'.heap[b]? = w.heap[b]? := by
  rcases h.2.2 with ⟨_, _, g, hg, h⟩ | ⟨_, _, _, h⟩
  · refine h.block b hb fun e => hx ?_
    cases e
    simp [Rw.blk, Rw.v, hg, Value.ownBlock]
  · exact h.block b hb (by simp)
theorem Sit.less (S : Sit w base e m Z r f k r' F) {Z' : Nat → Prop} (h : ∀ b, Z' b → Z b) : Sit w base e m Z' r f k r' F := ⟨S.own, S.sep, S.own', S.sep', S.sep2, fun b hb => S.z b (h b hb)⟩
theorem Sit.congr (S : Sit w base e m Z r f k r' F) {f' : Nat → List (BitVec 8)} (h : ∀ j, j < m → f j = f' j) : Sit w base e m Z r f' k r' F := ⟨fun j hj => by rw [← h j hj]; exact S.own j hj, S.sep, S.own', S.sep', S.sep2, S.z⟩
theorem Sit.congr' (S : Sit w base e m Z r f k r' F) {F' : Nat → List (BitVec 8)} (h : ∀ j, j < k → F j = F' j) : Sit w base e m Z r f k r' F' := ⟨S.own, S.sep, fun j hj => by rw [← h j hj]; exact S.own' j hj, S.sep', S.sep2, S.z⟩
/-- a store into a block of Z -/
theorem Sit.storeZ (S : Sit w base e m Z r f k r' F) {g : Nat} (hz : Z g) (i : Nat) (v : Value) : Sit (w.setCell ⟨g, i, none⟩ v) base e m Z r f k r' F :=
  S.kept (grownBy_setCell w g i v) (fun j hj b hb h => (S.z g hz).2.1 j hj (by cases h; exact hb)) (fun j hj b hb h => (S.z g hz).2.2 j hj (by cases h; exact hb))
theorem Sit.drewN (S : Sit w base e m Z r f k r' F) (q : Nat) : Sit (w.drewN q) base e m Z r f k r' F := ⟨S.own, S.sep, S.own', S.sep', S.sep2, S.z⟩
theorem Sit.drew (S : Sit w base e m Z r f k r' F) : Sit w.drew base e m Z r f k r' F := ⟨S.own, S.sep, S.own', S.sep', S.sep2, S.z⟩
/-- one block more that no row lies in -/
theorem Sit.addZ (S : Sit w base e m Z r f k r' F) (g : Nat) (h0 : g < w.heap.size) (h1 : ∀ j, j < m → (r j).blk ≠ some g) (h2 : ∀ j, j < k → (r' j).blk ≠ some g) : Sit w base e m (fun b => Z b ∨ b = g) r f k r' F :=
  ⟨S.own, S.sep, S.own', S.sep', S.sep2, fun b hb => hb.elim (S.z b) (fun h => by subst h; exact ⟨h0, h1, h2⟩)⟩
theorem Sit.lt (S : Sit w base e m Z r f k r' F) {j : Nat} (hj : j < m) {b : Nat} (hb : (r j).blk = some b) : b < w.heap.size := ((S.own j hj).lt b hb).2
theorem Sit.lt' (S : Sit w base e m Z r f k r' F) {j : Nat} (hj : j < k) {b : Nat} (hb : (r' j).blk = some b) : b < w.heap.size := ((S.own' j hj).lt b hb).2
/-- a store into a row (none of r' is there yet) -/
theorem Sit.store (S : Sit w base e m Z r f 0 r' F) {j i : Nat} (hj : j < m) (hi : i < (r j).n) (y : BitVec 8) :
    ∃ g, (r j).A = some ⟨g, 0, none⟩ ∧ base ≤ g ∧ w.cell? ⟨g, i, none⟩ = some (B8 ((f j).getD i 0)) ∧ w.frozen? ⟨g, i, none⟩ = false ∧ (∀ b, Z b → b ≠ g) ∧ Sit (w.setCell ⟨g, i, none⟩ (B8 y)) base e m Z r (upd f j ((f j).set i y)) 0 r' F := by
  have ho := S.own j hj
  rcases ho.addr with ⟨_, h0, _⟩ | ⟨g, hA, hb, hbase, hlt⟩
  · omega
  have ho2 : w.ownsRow base e 1 (.slice (some ⟨g, 0, none⟩) (r j).n (r j).c) (r j).n (bv (f j)) := by
    have := ho; unfold Rw.own Rw.v at this; rw [hA] at this; exact this
  have hl := ho.len
  refine ⟨g, hA, hbase, ?_, ho2.frozenAt i, fun b hz e => (S.z b hz).2.1 j hj (by rw [e]; exact hb), ?_⟩
  · rw [ho2.cellAt i (by omega)]
    simp [bv, show i < (f j).length by omega]
  · have hs := (ho2.stored i (B8 y)).1
    refine ⟨fun j' hj' => ?_, S.sep, fun j' hj' => absurd hj' (Nat.not_lt_zero _), S.sep', S.sep2, fun b hz => ?_⟩
    · by_cases e : j' = j
      · subst e
        rw [upd_same]
        unfold Rw.own Rw.v
        rw [hA]
        have e2 : bv ((f j').set i y) = (bv (f j')).set i (B8 y) := by simp [bv]
        rw [e2]; exact hs
      · rw [upd_other _ _ _ e]
        exact (S.own j' hj').kept (grownBy_setCell w g i (B8 y)) (fun b hb' h => S.sep j j' hj hj' (Ne.symm e) g hb (by cases h; exact hb'))
    · have := S.z b hz
      exact ⟨by simpa using this.1, this.2⟩

theorem Cur.start (S : Sit w base e m Z r f k r' F) (hk : k < m) : Cur w base e m Z r f k r' (r k) (f k) :=
  ⟨S.own k hk, fun j hj hjk b hb => S.sep k j hk hj (Ne.symm hjk) b hb, fun j hj b hb h => S.sep' k j hk hj (by omega) b h hb, fun b hz => (S.z b hz).2.1 k hk,
    fun b _ _ => ⟨rfl, rfl, Nat.le_refl _, by rw [List.take_of_length_le (by rw [(S.own k hk).len]; exact Nat.le_refl _)]⟩⟩
theorem Cur.alloc (C : Cur w base e m Z r f k r' x bs) (o : Obj) : Cur (w.alloc o) base e m Z r f k r' x bs :=
  ⟨C.own.kept (World.grownBy_alloc w o none) (fun _ _ h => by cases h), C.sep, C.sep', C.z, C.same⟩
theorem Cur.grown (C : Cur w base e m Z r f k r' x bs) (hg : w.grownBy w' none) : Cur w' base e m Z r f k r' x bs :=
  ⟨C.own.kept hg (fun _ _ h => by cases h), C.sep, C.sep', C.z, C.same⟩
theorem Cur.drew (C : Cur w base e m Z r f k r' x bs) : Cur w.drew base e m Z r f k r' x bs := ⟨C.own, C.sep, C.sep', C.z, C.same⟩
theorem Cur.grew (S : Sit w base e m Z r f k r' F) (C : Cur w base e m Z r f k r' x bs) (hk : k < m) {x' : Rw} {mm : Nat} {news : List (BitVec 8)} (G : Grew w w' base e x x' mm bs news) :
    Sit w' base e m Z r f k r' F ∧ Cur w' base e m Z r f k r' x' (bs ++ news) := by
  obtain ⟨ho, hn, h⟩ := G
  rcases h with ⟨hA, hc, g, hg, hgr⟩ | ⟨g, hg, hge, hgr⟩
  · have hxb : x.blk = some g := by simp [Rw.blk, Rw.v, hg, Value.ownBlock]
    have hxb' : x'.blk = some g := by simp [Rw.blk, Rw.v, hA, hg, Value.ownBlock]
    have hbl := C.own.len
    refine ⟨⟨fun j hj => ?_, S.sep, fun j hj => (S.own' j hj).kept hgr (fun b hb h => by cases h; exact C.sep' j hj g hxb hb), S.sep', S.sep2, fun b hz => ⟨Nat.lt_of_lt_of_le (S.z b hz).1 hgr.size, (S.z b hz).2⟩⟩,
      ⟨ho, fun j hj hjk b hb => C.sep j hj hjk b (by rw [hxb'] at hb; rw [hxb]; exact hb), fun j hj b hb => C.sep' j hj b (by rw [hxb'] at hb; rw [hxb]; exact hb), fun b hz => by rw [hxb', ← hxb]; exact C.z b hz, fun b hb hb' => ?_⟩⟩
    · by_cases hjk : j = k
      · subst hjk
        by_cases hs : (r j).blk = some g
        · obtain ⟨h1, h2, h3, h4⟩ := C.same g hxb hs
          have ho2 : w'.ownsRow base e 1 (.slice (some ⟨g, 0, none⟩) x'.n x'.c) x'.n (bv (bs ++ news)) := by
            have := ho; unfold Rw.own Rw.v at this; rw [hA, hg] at this; exact this
          have ht := own_take ho2 (k := (r j).n) (by omega)
          rw [List.take_append_of_le_length (by omega), h4, hc, h2] at ht
          unfold Rw.own Rw.v
          rw [← h1, hg]; exact ht
        · exact (S.own j hj).kept hgr (fun b hb h => by cases h; exact hs hb)
      · exact (S.own j hj).kept hgr (fun b hb h => by cases h; exact C.sep j hj hjk g hxb hb)
    · obtain ⟨h1, h2, h3, h4⟩ := C.same b (by rw [hxb'] at hb; rw [hxb]; exact hb) hb'
      exact ⟨hA.trans h1, hc.trans h2, by omega, by rw [List.take_append_of_le_length (by omega)]; exact h4⟩
  · have hxb' : x'.blk = some g := by simp [Rw.blk, Rw.v, hg, Value.ownBlock]
    refine ⟨S.grown hgr, ⟨ho, fun j hj _ b hb h => ?_, fun j hj b hb h => ?_, fun b hz h => ?_, fun b hb h => ?_⟩⟩
    · have := S.lt hj h; rw [hxb'] at hb; cases hb; omega
    · have := S.lt' hj h; rw [hxb'] at hb; cases hb; omega
    · have := (S.z b hz).1; rw [hxb'] at h; cases h; omega
    · have := S.lt hk h; rw [hxb'] at hb; cases hb; omega
theorem Sit.push (S : Sit w base e m Z r f k r' F) (C : Cur w base e m Z r f k r' x bs) : Sit w base e m Z r f (k + 1) (upd r' k x) (upd F k bs) where
  own := S.own
  sep := S.sep
  own' := fun j hj => by
    by_cases h : j = k
    · subst h; rw [upd_same, upd_same]; exact C.own
    · rw [upd_other _ _ _ h, upd_other _ _ _ h]; exact S.own' j (by omega)
  sep' := fun i j hi hj hij b hb => by
    by_cases h : j = k
    · subst h; rw [upd_same] at hb; exact C.sep i hi hij b hb
    · rw [upd_other _ _ _ h] at hb; exact S.sep' i j hi (by omega) hij b hb
  sep2 := fun i j hi hj hij b hb => by
    by_cases h : j = k
    · subst h
      rw [upd_other _ _ _ hij] at hb
      rw [upd_same]
      exact fun h' => C.sep' i (by omega) b h' hb
    · rw [upd_other _ _ _ h]
      by_cases h' : i = k
      · subst h'; rw [upd_same] at hb; exact C.sep' j (by omega) b hb
      · rw [upd_other _ _ _ h'] at hb; exact S.sep2 i j (by omega) (by omega) hij b hb
  z := fun b hz => ⟨(S.z b hz).1, (S.z b hz).2.1, fun j hj => by
    by_cases h : j = k
    · subst h; rw [upd_same]; exact C.z b hz
    · rw [upd_other _ _ _ h]; exact (S.z b hz).2.2 j (by omega)⟩
/-- the second set forgotten -/
theorem Sit.zero (S : Sit w base e m Z r f k r' F) : Sit w base e m Z r f 0 r' F :=
  ⟨S.own, S.sep, fun _ h => absurd h (Nat.not_lt_zero _), fun _ _ _ h => absurd h (Nat.not_lt_zero _), fun _ _ h => absurd h (Nat.not_lt_zero _), fun b hz => ⟨(S.z b hz).1, (S.z b hz).2.1, fun _ h => absurd h (Nat.not_lt_zero _)⟩⟩
/-- a place of a row -/
theorem Sit.at (S : Sit w base e m Z r f k r' F) {j i : Nat} (hj : j < m) (hi : i < (r j).n) : ∃ g, (r j).A = some ⟨g, 0, none⟩ ∧ w.cell? ⟨g, i, none⟩ = some (B8 ((f j).getD i 0)) := by
  have ho := S.own j hj
  rcases ho.addr with ⟨_, h0, _⟩ | ⟨g, hA, hb, hbase, hlt⟩
  · omega
  have ho2 : w.ownsRow base e 1 (.slice (some ⟨g, 0, none⟩) (r j).n (r j).c) (r j).n (bv (f j)) := by
    have := ho; unfold Rw.own Rw.v at this; rw [hA] at this; exact this
  have hl := ho.len
  exact ⟨g, hA, by rw [ho2.cellAt i (by omega)]; simp [bv, show i < (f j).length by omega]⟩
theorem Sit.at' (S : Sit w base e m Z r f k r' F) {j i : Nat} (hj : j < k) (hi : i < (r' j).n) : ∃ g, (r' j).A = some ⟨g, 0, none⟩ ∧ w.cell? ⟨g, i, none⟩ = some (B8 ((F j).getD i 0)) := by
  have ho := S.own' j hj
  rcases ho.addr with ⟨_, h0, _⟩ | ⟨g, hA, hb, hbase, hlt⟩
  · omega
  have ho2 : w.ownsRow base e 1 (.slice (some ⟨g, 0, none⟩) (r' j).n (r' j).c) (r' j).n (bv (F j)) := by
    have := ho; unfold Rw.own Rw.v at this; rw [hA] at this; exact this
  have hl := ho.len
  exact ⟨g, hA, by rw [ho2.cellAt i (by omega)]; simp [bv, show i < (F j).length by omega]⟩
end
end Go.Proofs.Ytdmpphioflcofaa.K

/- More plain laws on rows that a world owns. -/
namespace Go.Proofs.Ytdmpphioflcofaa.K
open Go Go.RowKit
theorem row_kept {w w' : World} {base : Nat} {e : TypeId} {v : Value} {n : Nat} {xs : List Value} (h : w.ownsRow base e 1 v n xs) (hb : Below w.heap.size w w') : w'.ownsRow base e 1 v n xs := by
  refine h.kept (row := none) ⟨hb.os, hb.tape, hb.output, hb.size, fun k hk _ => hb.block k hk⟩ ?_
  cases hv : v.ownBlock with
  | none => exact .inl rfl
  | some x => exact .inr (by simp)
theorem row_lt {w : World} {base : Nat} {e : TypeId} {g n c : Nat} {xs : List Value} (h : w.ownsRow base e 1 (.slice (some ⟨g, 0, none⟩) n c) n xs) : base ≤ g ∧ g < w.heap.size := h.lt g rfl
theorem row_weaken {w : World} {base base' : Nat} {e : TypeId} {v : Value} {n : Nat} {xs : List Value} (h : w.ownsRow base e 1 v n xs) (hb : base' ≤ base) : w.ownsRow base' e 1 v n xs :=
  ⟨h.1, h.2.elim .inl fun ⟨a, b, cur, hv, hbb, r⟩ => .inr ⟨a, b, cur, hv, Nat.le_trans hb hbb, r⟩⟩
theorem row_room {w : World} {base : Nat} {e : TypeId} {A : Option Addr} {n c : Nat} {xs : List Value} (h : w.ownsRow base e 1 (.slice A n c) n xs) : n ≤ c ∧ c ≤ 9223372036854775807 ∧ (A = none → n = 0 ∧ c = 0) ∧ ∀ a, A = some a → ∃ g, a = ⟨g, 0, none⟩ ∧ base ≤ g ∧ g < w.heap.size := by
  rcases h.2 with ⟨h1, h2⟩ | ⟨g', cap', cur, h', hb, hg, hnc, hcm, _⟩
  · simp only [Value.slice.injEq] at h1
    obtain ⟨rfl, rfl, rfl⟩ := h1
    exact ⟨by omega, by omega, fun _ => ⟨rfl, rfl⟩, (fun a h => by cases h)⟩
  · simp only [Value.slice.injEq, true_and] at h'
    obtain ⟨rfl, rfl⟩ := h'
    exact ⟨hnc, by unfold maxLen at hcm; omega, (fun h => by cases h), fun a h => by cases h; exact ⟨_, rfl, hb, (Array.getElem?_eq_some_iff.1 hg).1⟩⟩
theorem Rd.pre {w : World} {A : Option Addr} {bs ms : List (BitVec 8)} (h : Rd w A (bs ++ ms)) : Rd w A bs := fun k hk => by
  obtain ⟨b, o, e, hc⟩ := h k (by rw [List.length_append]; omega)
  exact ⟨b, o, e, by rw [hc, List.getElem_append_left hk]⟩
theorem below_of_drew {w w' : World} (h : Below w.drew.heap.size w.drew w') : Below w.heap.size w w' := ⟨h.os, h.tape, h.output, h.size, h.block⟩
theorem cells3 (w : World) (a b c : Value) (t : TypeId) : ∀ j u, [a, b, c][j]? = some u → (w.alloc (.cells #[a, b, c] t)).cell? ⟨w.heap.size, j, none⟩ = some u := by
  intro j u hu
  rw [World.cell?_alloc_new, ← hu]
  simp
/-- three rows -/
def three (x y z : Rw) : Nat → Rw
  | 0 => x
  | 1 => y
  | _ => z
def threeB (x y z : List (BitVec 8)) : Nat → List (BitVec 8)
  | 0 => x
  | 1 => y
  | _ => z
theorem three_le {P : Nat → Prop} (h0 : P 0) (h1 : P 1) (h2 : P 2) : ∀ j, j < 3 → P j := fun j hj => by
  match j, hj with
  | 0, _ => exact h0
  | 1, _ => exact h1
  | 2, _ => exact h2
theorem three_sep {P : Nat → Nat → Prop} (h01 : P 0 1) (h02 : P 0 2) (h10 : P 1 0) (h12 : P 1 2) (h20 : P 2 0) (h21 : P 2 1) : ∀ i j, i < 3 → j < 3 → i ≠ j → P i j := fun i j hi hj hij => by
  match i, j, hi, hj, hij with
  | 0, 0, _, _, h => exact absurd rfl h
  | 1, 1, _, _, h => exact absurd rfl h
  | 2, 2, _, _, h => exact absurd rfl h
  | 0, 1, _, _, _ => exact h01
  | 0, 2, _, _, _ => exact h02
  | 1, 0, _, _, _ => exact h10
  | 1, 2, _, _, _ => exact h12
  | 2, 0, _, _, _ => exact h20
  | 2, 1, _, _, _ => exact h21
end Go.Proofs.Ytdmpphioflcofaa.K

/- An append of what may be nil, onto a row that the call owns. -/
namespace Go.Proofs.Ytdmpphioflcofaa.K
open Go Go.RowKit
/-- append of what may be nil -/
theorem wpList_append_any {P : Program} (w : World) {ops : Array Oper} {rest : List Oper} {o : Oper} {a : Act} {Q : Exit → Act → World → Prop} (hgd : o.guard = Option.none) (s x : Operand) (t : TypeId)
    (ho : o.op = .call { callee := .builtin .append, args := #[s, x], argTypes := #[t, t] })
    (base : Nat) (e : TypeId) (i : TypeInfo) (z : Value) (size bytes : Nat) (ht : P.underlying t = some (.slice e)) (hi : P.info? e = some i) (hz : i.zero = some z)
    (hsize : i.size = size) (hby : i.bytes = bytes) (hzs : z.cells.size = size) (hsz : 0 < size)
    (v : Value) (n : Nat) (xs : List Value) (hs : a.eval s = v) (hown : w.ownsRow base e size v n xs)
    (ao : Option Addr) (m c : Nat) (news : List Value) (hx : a.eval x = .slice ao m c) (hnone : ao = Option.none → m = 0 ∧ c = 0) (hl : news.length = m * size) (hnews : ∀ ad, ao = some ad → ∀ j u, news[j]? = some u → w.cell? (ad.add j) = some u) (h1 : ∀ u ∈ news, u.oneCell' = true)
    (h63 : n + m ≤ maxLen) (hbytes : (n + m) * bytes ≤ 140737488355328) (hbase : base ≤ w.heap.size)
    (h : ∀ v' w', w'.ownsRow base e size v' (n + m) (xs ++ news) → w.grownBy w' v.ownBlock → wpList P ops Q rest (a.put o.dst v') w') :
    wpList P ops Q (o :: rest) a w := by
  cases ao with
  | some ad => exact wpList_append_own w hgd s x t ho base e i z size bytes ht hi hz hsize hby hzs hsz v n xs hs hown ad m c news hx hl (hnews ad rfl) h1 h63 hbytes hbase fun v' w' h2 h3 _ => h v' w' h2 h3
  | none =>
    obtain ⟨rfl, rfl⟩ := hnone rfl
    have hn : news = [] := List.eq_nil_of_length_eq_zero (by simpa using hl)
    subst hn
    refine wpList_plain hgd fun K hK' => ?_
    have hrun := run_append_owned_none (P := P) w base t o.type e i size ht hi _ n xs hown
    unfold Oper.wp
    simp [execOp, ho, resolve, invoke, builtin, hs, hx, hrun, Result.andThen]
    exact hK' _ _ (h v w (by simpa using hown) (World.grownBy.refl _ _))

theorem wp_append_any {P : Program} (w : World) {o : Oper} {a : Act} {K : Act → World → Prop} {Q : Exit → Act → World → Prop} (s x : Operand) (t : TypeId)
    (ho : o.op = .call { callee := .builtin .append, args := #[s, x], argTypes := #[t, t] })
    (base : Nat) (e : TypeId) (i : TypeInfo) (z : Value) (size bytes : Nat) (ht : P.underlying t = some (.slice e)) (hi : P.info? e = some i) (hz : i.zero = some z)
    (hsize : i.size = size) (hby : i.bytes = bytes) (hzs : z.cells.size = size) (hsz : 0 < size)
    (v : Value) (n : Nat) (xs : List Value) (hs : a.eval s = v) (hown : w.ownsRow base e size v n xs)
    (ao : Option Addr) (m c : Nat) (news : List Value) (hx : a.eval x = .slice ao m c) (hnone : ao = Option.none → m = 0 ∧ c = 0) (hl : news.length = m * size) (hnews : ∀ ad, ao = some ad → ∀ j u, news[j]? = some u → w.cell? (ad.add j) = some u) (h1 : ∀ u ∈ news, u.oneCell' = true)
    (h63 : n + m ≤ maxLen) (hbytes : (n + m) * bytes ≤ 140737488355328) (hbase : base ≤ w.heap.size)
    (h : ∀ v' w', w'.ownsRow base e size v' (n + m) (xs ++ news) → w.grownBy w' v.ownBlock → K (a.put o.dst v') w') : o.wp P a w K Q := by
  cases ao with
  | some ad => exact wp_append_own w s x t ho base e i z size bytes ht hi hz hsize hby hzs hsz v n xs hs hown ad m c news hx hl (hnews ad rfl) h1 h63 hbytes hbase fun v' w' h2 h3 _ => h v' w' h2 h3
  | none =>
    obtain ⟨rfl, rfl⟩ := hnone rfl
    have hn : news = [] := List.eq_nil_of_length_eq_zero (by simpa using hl)
    subst hn
    have hrun := run_append_owned_none (P := P) w base t o.type e i size ht hi _ n xs hown
    unfold Oper.wp
    simp [execOp, ho, resolve, invoke, builtin, hs, hx, hrun, Result.andThen]
    exact h v w (by simpa using hown) (World.grownBy.refl _ _)
theorem step_append_any {P : Program} (w : World) {ops : Array Oper} {o : Oper} {a : Act} {K : Act → World → Prop} {Q : Exit → Act → World → Prop} {E : Prop} (hgd : o.guard = Option.none) (s x : Operand) (t : TypeId)
    (ho : o.op = .call { callee := .builtin .append, args := #[s, x], argTypes := #[t, t] })
    (base : Nat) (e : TypeId) (i : TypeInfo) (z : Value) (size bytes : Nat) (ht : P.underlying t = some (.slice e)) (hi : P.info? e = some i) (hz : i.zero = some z)
    (hsize : i.size = size) (hby : i.bytes = bytes) (hzs : z.cells.size = size) (hsz : 0 < size)
    (v : Value) (n : Nat) (xs : List Value) (hs : a.eval s = v) (hown : w.ownsRow base e size v n xs)
    (ao : Option Addr) (m c : Nat) (news : List Value) (hx : a.eval x = .slice ao m c) (hnone : ao = Option.none → m = 0 ∧ c = 0) (hl : news.length = m * size) (hnews : ∀ ad, ao = some ad → ∀ j u, news[j]? = some u → w.cell? (ad.add j) = some u) (h1 : ∀ u ∈ news, u.oneCell' = true)
    (h63 : n + m ≤ maxLen) (hbytes : (n + m) * bytes ≤ 140737488355328) (hbase : base ≤ w.heap.size)
    (h : ∀ v' w', w'.ownsRow base e size v' (n + m) (xs ++ news) → w.grownBy w' v.ownBlock → K (a.put o.dst v') w') :
    if Region.wanted o (yielded ops a.tmps) = true then Oper.wp P o a w K Q else E := by
  have hw : Region.wanted o (yielded ops a.tmps) = true := by simp [Region.wanted, hgd]
  rw [if_pos hw]
  exact wp_append_any w s x t ho base e i z size bytes ht hi hz hsize hby hzs hsz v n xs hs hown ao m c news hx hnone hl hnews h1 h63 hbytes hbase h
theorem own_lit0 {w : World} {base : Nat} {e : TypeId} (hb : base ≤ w.heap.size) : (w.alloc (.cells #[] e)).ownsRow base e 1 (.slice (some ⟨w.heap.size, 0, none⟩) 0 0) 0 (bv []) :=
  World.ownsRow_lit w #[] 0 hb (by unfold maxLen; omega) rfl
theorem row_slice {w : World} {base size n : Nat} {e : TypeId} {v : Value} {xs : List Value} (h : w.ownsRow base e size v n xs) : ∃ A c, v = .slice A n c := by
  rcases h.2 with ⟨h0, rfl⟩ | ⟨g, cap, _, hv, _⟩
  · exact ⟨_, _, h0⟩
  · exact ⟨_, _, hv⟩
theorem cell_old {w : World} {a : Addr} {v : Value} (o : Obj) (h : w.cell? a = some v) : (w.alloc o).cell? a = some v :=
  (((Below.refl w.heap.size w).alloc (Nat.le_refl _) o).cell (block_lt_of_cell h)).trans h
end Go.Proofs.Ytdmpphioflcofaa.K

/- Contracts of the small functions that only reckon. -/
namespace Go.Proofs.Ytdmpphioflcofaa.K
open Go Go.RowKit

/-- barbicankit.mark, as the walk has it. -/
def markI (k i : Int) : Int := wrap64 (wrap64 (1000003 * wrap64 (k + 7)) + i)
def markB (k i : Int) : BitVec 8 := BitVec.ofInt 8 (IntKind.u64.wrap (IntKind.u64.wrap (wrap64 (wrap64 (1000003 * wrap64 (k + 7)) + i)) * 11400714819323198485) / 72057594037927936)
theorem markB_eq (k i : Int) : Value.int .u8 (IntKind.u64.wrap (IntKind.u64.wrap (wrap64 (wrap64 (1000003 * wrap64 (k + 7)) + i)) * 11400714819323198485) / 72057594037927936 % 256) = B8 (markB k i) := by
  simp only [B8, markB, BitVec.toNat_ofInt, Value.int.injEq, true_and]
  omega

theorem mark_any (k i : Int) (w : World) :
    Calls Try.prog 75 #[.int .i64 k, .int .i64 i] w fun e w' => e = .returned (.int .i64 (markI k i)) ∧ w = w' := by
  go_enter Try.func75, Try.ntmps75
  go_wp2
  go_ret
  exact ⟨rfl, rfl⟩
theorem markByte_any (k i : Int) (w : World) :
    Calls Try.prog 83 #[.int .i64 k, .int .i64 i] w fun e w' => e = .returned (B8 (markB k i)) ∧ w = w' := by
  go_enter Try.func83, Try.ntmps83
  go_wp2
  go_ret
  exact ⟨by rw [← markB_eq]; rfl, rfl⟩

/-- barbicankit.Pick: any number brought into 0 to n - 1 (n from 1 on). -/
def pick (x n : Int) : Int := x % n
theorem pick_lo (x n : Int) (h : 1 ≤ n) : 0 ≤ pick x n := Int.emod_nonneg _ (by omega)
theorem pick_hi (x n : Int) (h : 1 ≤ n) : pick x n < n := Int.emod_lt_of_pos _ (by omega)
theorem Pick_any (x n : Int) (w : World) (hn : 1 ≤ n) (hn2 : n ≤ 4611686018427387904) :
    Calls Try.prog 17 #[.int .i64 x, .int .i64 n] w fun e w' => e = .returned (.int .i64 (pick x n)) ∧ w = w' := by
  have h1 : -n < x.tmod n := by have := Int.lt_tmod_of_pos x (show (0:Int) < n by omega); omega
  have h2 : x.tmod n < n := Int.tmod_lt_of_pos x (by omega)
  go_enter Try.func17, Try.ntmps17
  go_wp2
  · go_ret
    rename_i h
    refine ⟨?_, rfl⟩
    have e : x.tmod n + n = pick x n := by
      unfold pick
      have := Int.emod_nonneg x (show n ≠ 0 by omega)
      have h5 := Int.tmod_eq_emod (a := x) (b := n)
      split at h5 <;> omega
    show Ending.returned (Value.int .i64 (x.tmod n + n)) = _
    rw [e]
  · go_ret
    rename_i h
    refine ⟨?_, rfl⟩
    have e : x.tmod n = pick x n := by
      unfold pick
      have h5 := Int.tmod_eq_emod (a := x) (b := n)
      have h6 := Int.emod_lt_of_pos x (show (0 : Int) < n by omega)
      split at h5 <;> omega
    show Ending.returned (Value.int .i64 (x.tmod n)) = _
    rw [e]


set_option maxHeartbeats 400000 in
theorem SameBytes_any (A B : Option Addr) (n m c d : Nat) (xs ys : List (BitVec 8)) (w : World) (hx : Rd w A xs) (hy : Rd w B ys) (hn : xs.length = n) (hm : ys.length = m) (hn2 : n ≤ 4611686018427387904) (hm2 : m ≤ 4611686018427387904) :
    Calls Try.prog 12 #[.slice A n c, .slice B m d] w fun e w' => e = .returned (.bool (decide (xs = ys))) ∧ ∃ k, w' = w.drewN k := by
  subst hn hm
  by_cases hl : xs.length = ys.length
  · have hne : ((xs.length : Int) != (ys.length : Int)) = false := by simp; omega
    have HL := Lib.hid hl; clear hl
    go_enter Try.func12, Try.ntmps12
    go_wp2
    go_loopw [5] (fun i wr => ∃ k : Nat, k ≤ xs.length ∧ i = .int .i64 k ∧ (∀ j, j < k → xs[j]? = ys[j]?) ∧ ∃ q, wr = w.drewN q) (fun i _ => xs.length - (intOf i).toNat)
    case atStart => exact ⟨0, Nat.zero_le _, rfl, fun j hj => absurd hj (Nat.not_lt_zero _), 0, rfl⟩
    case round =>
      obtain ⟨k, hk, rfl, hpre, q, rfl⟩ := hrel
      by_cases hlt : k < xs.length
      · obtain ⟨b, o, rfl, hcx⟩ := hx k hlt
        obtain ⟨b', o', rfl, hcy⟩ := hy k (by have := HL.out; omega)
        have i1 : (0 : Int) ≤ (k : Int) := by omega
        have i2 : (k : Int) < (xs.length : Int) := by omega
        have i3 : (k : Int) < (ys.length : Int) := by have := HL.out; omega
        have HP := Lib.hid hpre
        clear hx hy hpre
        go_wp2
        go_quiet (fail)
        go_wp2
        · go_ret
          have hne : (xs[k] != ys[k]) = true := by assumption
          refine ⟨?_, _, World.drewN_drewN _ _ _⟩
          rw [decide_eq_false (fun e => by subst e; simp at hne)]; rfl
        · have heq : (xs[k] != ys[k]) = false := by assumption
          go_roundw
          case rel =>
            refine ⟨k + 1, by omega, by go_num, fun j hj => ?_, _, rfl⟩
            by_cases e : j = k
            · subst e
              rw [List.getElem?_eq_getElem hlt, List.getElem?_eq_getElem (by have := HL.out; omega)]
              simpa using heq
            · exact HP.out j (by omega)
          case measure => simp [intOf]; omega
      · have hge : ¬ ((k : Int) < (xs.length : Int)) := by omega
        obtain rfl : k = xs.length := by omega
        have HP := Lib.hid hpre; clear hpre
        go_wp2
        go_ret
        refine ⟨?_, _, rfl⟩
        rw [decide_eq_true]; · rfl
        apply List.ext_getElem? 
        intro j
        by_cases hj : j < xs.length
        · exact HP.out j hj
        · rw [List.getElem?_eq_none (by omega), List.getElem?_eq_none (by have := HL.out; omega)]
  · have hne : ((xs.length : Int) != (ys.length : Int)) = true := by simp; omega
    go_enter Try.func12, Try.ntmps12
    go_wp2
    go_ret
    exact ⟨by rw [decide_eq_false (fun e => hl (by rw [e]))]; rfl, 0, rfl⟩
end Go.Proofs.Ytdmpphioflcofaa.K

/- Contracts of barbicankit.LentBytes and KeptBytes. -/
namespace Go.Proofs.Ytdmpphioflcofaa.K
open Go Go.RowKit

theorem infoByte : (Try.prog.info? 5).map (fun i => (i.zero, i.size, i.bytes)) = some (some (.int .u8 0), 1, 1) := by kernel_rfl
/-- the marks of number k from place i on -/
def marks (k i n : Nat) : List (BitVec 8) := (List.range n).map fun j => markB k (i + j : Nat)
theorem marks_length (k i n : Nat) : (marks k i n).length = n := by simp [marks]
theorem marks_succ (k i n : Nat) : marks k i (n + 1) = marks k i n ++ [markB k (i + n : Nat)] := by simp [marks, List.range_succ]

theorem cell_last (w : World) (v : Value) (t : TypeId) : ∀ j u, [v][j]? = some u → (w.alloc (.cells #[v] t)).cell? ((⟨w.heap.size, 0, none⟩ : Addr).add j) = some u := by
  intro j u hu
  match j, hu with
  | 0, hu => simp at hu; subst hu; simp [Addr.add]

set_option maxHeartbeats 400000 in
theorem LentBytes_any (A : Option Addr) (n c : Nat) (bs : List (BitVec 8)) (w : World) (hr : Rd w A bs) (hn : bs.length = n) (hn2 : n ≤ 140737488000000) (hnone : A = none → c = 0) :
    Calls Try.prog 74 #[.slice A n c] w fun e w' => ∃ g, e = .returned (.slice (some ⟨g, 0, none⟩) n (n + 12)) ∧ w.heap.size ≤ g ∧
      w'.heap[g]? = some (.cells (bv (bs ++ marks 1 0 12)).toArray 5 (0, 0)) ∧ Below w.heap.size w w' := by
  obtain ⟨i0, hi, hz0, hz1, hz2⟩ := info_parts infoByte
  have hL : Hid ((bv bs).length = n * 1) := by show _ = _; rw [bv_length]; omega
  have hnone' : A = none → n = 0 ∧ c = 0 := fun h => ⟨by subst h; rw [hr.empty] at hn; simpa using hn.symm, hnone h⟩
  have HN := Lib.hid hnone'
  have hcells := hr.cells
  have HC := Lib.hid hcells
  clear hcells hnone hnone'
  have HR := Lib.hid hr
  have HLEN := Lib.hid hn
  clear hr hn
  go_enter Try.func74, Try.ntmps74
  go_wp2_with (first
    | (at_make; refine wpList_make_own _ rfl _ _ 29 rfl w.heap.size 5 i0 (.int .u8 0) 1 Try.underlying29 hi hz0 hz1 _ _ _ (n + 12) rfl rfl (by omega) (by rw [hz2]; omega) (by unfold maxLen; omega) (Nat.le_refl _) ?_; intro w1 hown1 hgrow1)
    | (at_builtin; refine wpList_append_fits_any _ rfl _ _ 29 rfl w.heap.size 5 i0 1 Try.underlying29 hi hz1 w.heap.size 0 (n + 12) [] rfl hown1 A n c (bv bs) rfl hL.out HN.out (fun ad had j u hu => hgrow1.cell (HC.out ad had j u hu) (by simp)) (bv_one bs) (by omega) ?_; intro w2 hown2 hgrow2))
  have hb2 : Below w.heap.size w w2 := ((Below.refl _ _).grown hgrow1 (Nat.le_refl _) (by simp)).grown hgrow2 hgrow1.size (by simp)
  clear hgrow1 hown1 hgrow2
  go_loopw [3, 4] (fun v i wr => ∃ k : Nat, k ≤ 12 ∧ i = .int .i64 k ∧ v = .slice (some ⟨w.heap.size, 0, none⟩) (n + k) (n + 12) ∧
      wr.ownsRow w.heap.size 5 1 (.slice (some ⟨w.heap.size, 0, none⟩) (n + k) (n + 12)) (n + k) (bv (bs ++ marks 1 0 k)) ∧ Below w.heap.size w wr) (fun _ i _ => 12 - (intOf i).toNat)
  case atStart => exact ⟨0, by omega, rfl, rfl, by simpa [marks] using hown2, hb2⟩
  case round =>
    clear hown2 hb2
    obtain ⟨k, hk, rfl, rfl, hown, hb⟩ := hrel
    by_cases hlt : k < 12
    · have i1 : (k : Int) < 12 := by omega
      go_wp2_with (first
        | (go_at_call 83; refine (markByte_any _ _ _).mono ?_; rintro e w' ⟨rfl, rfl⟩)
        | (at_builtin; refine wpList_append_fits _ rfl _ _ 29 rfl w.heap.size 5 i0 1 Try.underlying29 hi hz1 w.heap.size (n + k) (n + 12) (bv (bs ++ marks 1 0 k)) rfl (hown.alloc _) ⟨wr.heap.size, 0, none⟩ 1 1 [B8 (markB 1 k)] rfl rfl (cell_last _ _ _) (by intro u hu; simp at hu; subst hu; rfl) (by omega) ?_; intro w3 hown3 hgrow3))
      have hb3 : Below w.heap.size w w3 := (hb.alloc hb.size _).grown hgrow3 (by have := hb.size; simp; omega) (by simp)
      clear hgrow3 hb hown
      go_roundw
      case rel => exact ⟨k + 1, by omega, by go_num, by rw [Nat.add_assoc], by rw [marks_succ, ← List.append_assoc, bv_append, ← Nat.add_assoc]; simpa [bv] using hown3, hb3⟩
      case measure => simp [intOf]; omega
    · obtain rfl : k = 12 := by omega
      go_wp2
      go_ret
      have ⟨h1, h2⟩ := own_full hown
      exact ⟨_, rfl, h1, h2, hb⟩

/-- what KeptBytes looks at, place by place -/
theorem kept_at {bs : List (BitVec 8)} {k i n j : Nat} (hj : j < n) : (bs ++ marks k i n)[bs.length + j]? = some (markB k (i + j : Nat)) := by
  rw [List.getElem?_append_right (by omega)]
  simp [marks, hj]

set_option maxHeartbeats 400000 in
theorem KeptBytes_any (g : Nat) (A : Option Addr) (n c : Nat) (bs : List (BitVec 8)) (w : World) (hg : w.heap[g]? = some (.cells (bv (bs ++ marks 1 0 12)).toArray 5 (0, 0))) (hr : Rd w A bs) (hn : bs.length = n) (hn2 : n ≤ 140737488000000) :
    Calls Try.prog 81 #[.slice (some ⟨g, 0, none⟩) n (n + 12), .slice A n c] w fun e w' => e = .returned (.bool true) ∧ ∃ k, w' = w.drewN k := by
  subst hn
  have hR2 : Rd w (some ⟨g, 0, none⟩) (bs ++ marks 1 0 12) := Rd.of_block hg (by rw [← bv_length, List.take_length])
  have HG := Lib.hid hR2
  clear hR2 hg
  go_enter Try.func81, Try.ntmps81
  go_wp2
  go_loopw [6] (fun i wr => ∃ k : Nat, k ≤ bs.length + 12 ∧ i = .int .i64 k ∧ ∃ q, wr = w.drewN q) (fun i _ => bs.length + 12 - (intOf i).toNat)
  case atStart => exact ⟨0, Nat.zero_le _, rfl, 0, rfl⟩
  case round =>
    obtain ⟨k, hk, rfl, q, rfl⟩ := hrel
    have i0 : (0 : Int) ≤ (k : Int) := by omega
    rcases Nat.lt_or_ge k bs.length with h1 | h1
    · obtain ⟨b, o, rfl, hcx⟩ := hr k (by omega)
      obtain ⟨b', o', ea, hcy⟩ := HG.out k (by simp; omega)
      obtain ⟨rfl, rfl⟩ : g = b' ∧ 0 = o' := by simpa using ea
      rw [List.getElem_append_left (by omega)] at hcy
      have hcy' : w.cell? ⟨g, k, none⟩ = some (B8 (bs[k]'(by omega))) := by simpa using hcy
      have i1 : (k : Int) < (bs.length : Int) := by omega
      have d1 : decide ((k : Int) < (bs.length : Int)) = true := by simpa using i1
      have d2 : decide (bs.length ≤ k) = false := by simp; omega
      have d3 : decide (k < bs.length) = true := by simp; omega
      have i2 : (k : Int) < (bs.length : Int) + 12 := by omega
      clear hcy ea hr
      go_wp2
      go_quiet (fail)
      go_wp2
      go_roundw
      case rel => exact ⟨k + 1, by omega, by go_num, _, rfl⟩
      case measure => simp [intOf]; omega
    · rcases Nat.lt_or_ge k (bs.length + 12) with h2 | h2
      · obtain ⟨b', o', ea, hcy⟩ := HG.out k (by simp [marks_length]; omega)
        obtain ⟨rfl, rfl⟩ : g = b' ∧ 0 = o' := by simpa using ea
        have e1 := kept_at (bs := bs) (k := 1) (i := 0) (n := 12) (j := k - bs.length) (by omega)
        rw [show bs.length + (k - bs.length) = k by omega, List.getElem?_eq_getElem (by simp [marks_length]; omega)] at e1
        rw [Option.some.inj e1] at hcy
        have hcy' : w.cell? ⟨g, k, none⟩ = some (B8 (markB 1 ((k : Int) - (bs.length : Int)))) := by
          rw [show ((0 + (k - bs.length) : Nat) : Int) = (k : Int) - (bs.length : Int) by omega] at hcy
          simpa using hcy
        have i1 : (bs.length : Int) ≤ (k : Int) := by omega
        have d1 : decide (k < bs.length) = false := by simp; omega
        have d2 : decide (bs.length ≤ k) = true := by simp; omega
        have i2 : (k : Int) < (bs.length : Int) + 12 := by omega
        clear hcy ea hr e1
        go_wp2
        go_quiet ((go_at_call 83; exact q_add (markByte_any _ _ _)))
        go_wp2
        go_roundw
        case rel => exact ⟨k + 1, by omega, by go_num, _, rfl⟩
        case measure => simp [intOf]; omega
      · obtain rfl : k = bs.length + 12 := by omega
        have i2 : ¬ (((bs.length + 12 : Nat) : Int) < (bs.length : Int) + 12) := by omega
        go_wp2
        go_ret
        exact ⟨rfl, _, rfl⟩
end Go.Proofs.Ytdmpphioflcofaa.K

/- A row that reads a list of bytes. -/
namespace Go.Proofs.Ytdmpphioflcofaa.K
open Go Go.RowKit

/-- a row that reads bs -/
structure RowRd (w : World) (x : Rw) (bs : List (BitVec 8)) : Prop where
  rd : Rd w x.A bs
  len : bs.length = x.n
  none : x.A = Option.none → x.c = 0
theorem RowRd.below {w w' : World} {x : Rw} {bs : List (BitVec 8)} (h : RowRd w x bs) (hb : Below w.heap.size w w') : RowRd w' x bs := ⟨h.rd.below hb, h.len, h.none⟩
theorem RowRd.of_row {w : World} {base : Nat} {e : TypeId} {A : Option Addr} {n c : Nat} {bs : List (BitVec 8)} (h : w.ownsRow base e 1 (.slice A n c) n (bv bs)) : RowRd w ⟨A, n, c⟩ bs :=
  ⟨Rd.of_own h, by have := h.1; rw [bv_length] at this; show _ = n; omega, fun e => ((row_room h).2.2.1 e).2⟩
end Go.Proofs.Ytdmpphioflcofaa.K

/- A bank: slices that the call owns, no two in one block, over a world of the past of which nothing has changed. Appends and calls turn one bank into the next, in whatever order they come. Plain lemmas over any program. -/
namespace Go.Proofs.Ytdmpphioflcofaa.K
open Go Go.RowKit

/-- this world, seen from an elder one -/
abbrev Since (w0 w : World) : Prop := Below w0.heap.size w0 w
theorem Since.add {w0 w w' : World} (h : Since w0 w) (hb : Below w.heap.size w w') : Since w0 w' := h.trans (hb.mono h.size)
theorem Since.alloc {w0 w : World} (h : Since w0 w) (o : Obj) : Since w0 (w.alloc o) := Below.alloc h h.size o
theorem Since.drew {w0 w : World} (h : Since w0 w) : Since w0 w.drew := ⟨h.os, h.tape, h.output, h.size, h.block⟩
theorem Since.drewN {w0 w : World} (h : Since w0 w) (q : Nat) : Since w0 (w.drewN q) := ⟨h.os, h.tape, h.output, h.size, h.block⟩
theorem Since.row {w0 w : World} (h : Since w0 w) {x : Rw} {bs : List (BitVec 8)} (hr : RowRd w0 x bs) : RowRd w x bs := hr.below h
theorem Since.at {w0 w : World} (h : Since w0 w) {g : Nat} {o : Obj} (hg : w0.heap[g]? = some o) : w.heap[g]? = some o := (h.block g (Array.getElem?_eq_some_iff.1 hg).1).trans hg
theorem Since.set {w0 w : World} (h : Since w0 w) {X : Nat} (hX : w0.heap.size ≤ X) (i : Nat) (v : Value) : Since w0 (w.setCell ⟨X, i, none⟩ v) := Below.setCell (p := ⟨X, i, none⟩) h hX v

structure Acc where
  v : Value
  n : Nat
  e : TypeId
  size : Nat
  xs : List Value
/-- no two in one block -/
def Apartness (p q : Acc) : Prop := ∀ b, p.v.ownBlock = some b → q.v.ownBlock ≠ some b
theorem Apartness.symm {p q : Acc} (h : Apartness p q) : Apartness q p := fun b hq hp => h b hp hq
structure Bank (w0 w : World) (L : List Acc) : Prop where
  since : Since w0 w
  own : ∀ p ∈ L, w.ownsRow w0.heap.size p.e p.size p.v p.n p.xs
  sep : L.Pairwise Apartness
theorem Bank.nil {w0 w : World} (h : Since w0 w) : Bank w0 w [] := ⟨h, (fun _ h => by cases h), .nil⟩
theorem Bank.lt {w0 w : World} {L : List Acc} (h : Bank w0 w L) {p : Acc} (hp : p ∈ L) {b : Nat} (hb : p.v.ownBlock = some b) : w0.heap.size ≤ b ∧ b < w.heap.size := (h.own p hp).lt b hb
theorem Bank.call {w0 w w' : World} {L : List Acc} (h : Bank w0 w L) (hb : Below w.heap.size w w') : Bank w0 w' L :=
  ⟨h.since.add hb, fun p hp => (h.own p hp).kept (row := none) ⟨hb.os, hb.tape, hb.output, hb.size, fun k hk _ => hb.block k hk⟩ (by cases h : p.v.ownBlock <;> simp), h.sep⟩
theorem Bank.drew {w0 w : World} {L : List Acc} (h : Bank w0 w L) : Bank w0 w.drew L := ⟨h.since.drew, h.own, h.sep⟩
theorem Bank.drewN {w0 w : World} {L : List Acc} (h : Bank w0 w L) (q : Nat) : Bank w0 (w.drewN q) L := ⟨h.since.drewN q, h.own, h.sep⟩
theorem Bank.alloc {w0 w : World} {L : List Acc} (h : Bank w0 w L) (o : Obj) : Bank w0 (w.alloc o) L := h.call ((Below.refl _ _).alloc (Nat.le_refl _) o)
theorem row_base {w : World} {B B' : Nat} {e : TypeId} {size n : Nat} {v : Value} {xs : List Value} (h : w.ownsRow B e size v n xs) (hb : B' ≤ B) : w.ownsRow B' e size v n xs :=
  ⟨h.1, h.2.elim .inl fun ⟨a, b, cur, hv, hbb, r⟩ => .inr ⟨a, b, cur, hv, Nat.le_trans hb hbb, r⟩⟩
/-- a row that was just made -/
theorem Bank.made {w0 w w' : World} {L : List Acc} (h : Bank w0 w L) (hb : Below w.heap.size w w') {e : TypeId} {size n : Nat} {v : Value} {xs : List Value} (ho : w'.ownsRow w.heap.size e size v n xs) : Bank w0 w' (⟨v, n, e, size, xs⟩ :: L) := by
  have h' := h.call hb
  refine ⟨h'.since, fun p hp => ?_, .cons (fun q hq b hb1 hb2 => ?_) h'.sep⟩
  · rcases List.mem_cons.1 hp with rfl | hp
    · exact row_base ho h.since.size
    · exact h'.own p hp
  · have h1 := (ho.lt b hb1).1
    have h2 := (h.lt hq hb2).2
    omega
theorem Bank.madeB {w0 w w' : World} {L : List Acc} (h : Bank w0 w L) (hb : Below w.heap.size w w') {e : TypeId} {A : Option Addr} {n c : Nat} {bs : List (BitVec 8)} (ho : w'.ownsRow w.heap.size e 1 (.slice A n c) n (bv bs)) : Bank w0 w' (⟨.slice A n c, n, e, 1, bv bs⟩ :: L) := h.made hb ho
/-- a literal row -/
theorem Bank.lit0 {w0 w : World} {L : List Acc} (h : Bank w0 w L) (e : TypeId) : Bank w0 (w.alloc (.cells #[] e)) (⟨.slice (some ⟨w.heap.size, 0, none⟩) 0 0, 0, e, 1, bv []⟩ :: L) :=
  h.made ((Below.refl _ _).alloc (Nat.le_refl _) _) (own_lit0 (Nat.le_refl _))
/-- a literal row of whatever -/
theorem Bank.litV {w0 w : World} {L : List Acc} (h : Bank w0 w L) (cs : Array Value) (e : TypeId) (hs : cs.size ≤ 1000000) : Bank w0 (w.alloc (.cells cs e)) (⟨.slice (some ⟨w.heap.size, 0, Option.none⟩) cs.size cs.size, cs.size, e, 1, cs.toList⟩ :: L) :=
  h.made ((Below.refl _ _).alloc (Nat.le_refl _) _) (World.ownsRow_lit w cs cs.size (Nat.le_refl _) (by unfold maxLen; omega) (by omega))
/-- the nil slice -/
theorem Bank.none {w0 w : World} {L : List Acc} (h : Bank w0 w L) (e : TypeId) (size : Nat) : Bank w0 w (⟨.slice none 0 0, 0, e, size, []⟩ :: L) :=
  h.made (Below.refl _ _) (World.ownsRow_nil _ _ _ _)
theorem Bank.drop {w0 w : World} {L : List Acc} {p : Acc} (h : Bank w0 w (p :: L)) : Bank w0 w L := ⟨h.since, fun q hq => h.own q (List.mem_cons_of_mem _ hq), (List.pairwise_cons.1 h.sep).2⟩
theorem Bank.at {w0 w : World} {L : List Acc} (h : Bank w0 w L) (i : Nat) {p : Acc} (hi : L[i]? = some p) : w.ownsRow w0.heap.size p.e p.size p.v p.n p.xs := h.own p (List.mem_of_getElem? hi)
theorem Bank.row {w0 w : World} {L : List Acc} (h : Bank w0 w L) (i : Nat) {A : Option Addr} {n c : Nat} {e : TypeId} {bs : List (BitVec 8)} (hi : L[i]? = some ⟨.slice A n c, n, e, 1, bv bs⟩) : RowRd w ⟨A, n, c⟩ bs := RowRd.of_row (h.at i hi)
theorem Bank.sepAt {w0 w : World} {L : List Acc} (h : Bank w0 w L) {i j : Nat} {p q : Acc} (hi : L[i]? = some p) (hj : L[j]? = some q) (hij : i ≠ j) : Apartness p q := by
  obtain ⟨hi1, rfl⟩ := List.getElem?_eq_some_iff.1 hi
  obtain ⟨hj1, rfl⟩ := List.getElem?_eq_some_iff.1 hj
  rcases Nat.lt_or_gt_of_ne hij with h1 | h1
  · exact List.pairwise_iff_getElem.1 h.sep i j hi1 hj1 h1
  · exact (List.pairwise_iff_getElem.1 h.sep j i hj1 hi1 h1).symm
/-- one of them was written: its block alone has changed, or it lies in a new one -/
theorem Bank.putG {w0 w w' : World} {L : List Acc} (h : Bank w0 w L) (i : Nat) {p p' : Acc} (hi : L[i]? = some p) (ho : w'.ownsRow w0.heap.size p'.e p'.size p'.v p'.n p'.xs) (hg : w.grownBy w' p.v.ownBlock) (hb : p'.v.ownBlock = p.v.ownBlock ∨ ∃ b, p'.v.ownBlock = some b ∧ w.heap.size ≤ b) : Bank w0 w' (L.set i p') := by
  have hp : p ∈ L := List.mem_of_getElem? hi
  have hlen : i < L.length := (List.getElem?_eq_some_iff.1 hi).1
  have hother : ∀ j q, L[j]? = some q → i ≠ j → p.v.ownBlock = Option.none ∨ ∀ b, p.v.ownBlock = some b → q.v.ownBlock ≠ some b := fun j q hj hij => .inr (h.sepAt hi hj hij)
  have hsep' : ∀ j q, L[j]? = some q → i ≠ j → Apartness p' q := by
    intro j q hj hij b hb1 hb2
    have hlt := (h.lt (List.mem_of_getElem? hj) hb2).2
    rcases hb with e | ⟨b', e, hle⟩
    · exact h.sepAt hi hj hij b (e ▸ hb1) hb2
    · rw [e] at hb1; cases hb1; omega
  refine ⟨(h.since).grown hg h.since.size (fun k hk => (h.lt hp hk).1), fun q hq => ?_, List.pairwise_iff_getElem.2 fun j k hj hk hjk => ?_⟩
  · obtain ⟨j, hj, rfl⟩ := List.mem_iff_getElem.1 hq
    rw [List.length_set] at hj
    by_cases e : i = j
    · subst e; rw [List.getElem_set_self]; exact ho
    · rw [List.getElem_set_ne e]
      refine (h.own L[j] (List.getElem_mem hj)).kept hg ?_
      cases hq2 : (L[j]).v.ownBlock with
      | none => exact .inl rfl
      | some b => exact .inr fun e2 => h.sepAt hi (List.getElem?_eq_getElem hj) e b e2.symm hq2
  · rw [List.length_set] at hj hk
    by_cases e1 : i = j
    · subst e1
      rw [List.getElem_set_self, List.getElem_set_ne (by omega)]
      exact hsep' k _ (List.getElem?_eq_getElem hk) (by omega)
    · rw [List.getElem_set_ne e1]
      by_cases e2 : i = k
      · subst e2
        rw [List.getElem_set_self]
        exact (hsep' j _ (List.getElem?_eq_getElem hj) (by omega)).symm
      · rw [List.getElem_set_ne e2]
        exact List.pairwise_iff_getElem.1 h.sep j k hj hk hjk

theorem Bank.put {w0 w w' : World} {L : List Acc} (h : Bank w0 w L) (i : Nat) {p p' : Acc} (hi : L[i]? = some p) (ho : w'.ownsRow w0.heap.size p'.e p'.size p'.v p'.n p'.xs) (hg : w.grownBy w' p.v.ownBlock) (hb : p'.v.ownBlock = p.v.ownBlock ∨ p'.v.ownBlock = some w.heap.size) : Bank w0 w' (L.set i p') :=
  h.putG i hi ho hg (hb.imp (fun h => h) fun e => ⟨_, e, Nat.le_refl _⟩)

section
variable {P : Program} {w0 w : World} {L : List Acc}
theorem run_append_bank (h : Bank w0 w L) (t ty e : TypeId) (i : TypeInfo) (z : Value) (size bytes : Nat) (ht : P.underlying t = some (.slice e)) (hi : P.info? e = some i) (hz : i.zero = some z)
    (hsize : i.size = size) (hby : i.bytes = bytes) (hzs : z.cells.size = size) (hsz : 0 < size) (k : Nat) (A : Option Addr) (n cap : Nat) (xs : List Value) (hk : L[k]? = some ⟨.slice A n cap, n, e, size, xs⟩)
    (ao : Option Addr) (m c : Nat) (news : List Value) (hnone : ao = Option.none → m = 0 ∧ c = 0) (hl : news.length = m * size) (hnews : ∀ ad, ao = some ad → ∀ j u, news[j]? = some u → w.cell? (ad.add j) = some u) (h1 : ∀ u ∈ news, u.oneCell' = true)
    (h63 : n + m ≤ maxLen) (hbytes : (n + m) * bytes ≤ 140737488355328) :
    ∃ A' c' w', (Builtin.append_ #[t, t] ty #[.slice A n cap, .slice ao m c]).run P w = .ok (.slice A' (n + m) c') w' ∧ Bank w0 w' (L.set k ⟨.slice A' (n + m) c', n + m, e, size, xs ++ news⟩) := by
  have hown := h.at k hk
  cases ao with
  | none =>
    obtain ⟨rfl, rfl⟩ := hnone rfl
    have hn : news = [] := List.eq_nil_of_length_eq_zero (by simpa using hl)
    subst hn
    refine ⟨A, cap, w, run_append_owned_none (P := P) w w0.heap.size t ty e i size ht hi _ n xs hown, ?_⟩
    rw [List.append_nil]
    exact h.put k hk hown (World.grownBy.refl _ _) (.inl rfl)
  | some ad =>
    obtain ⟨v', w', hr, o2, o3, _, o5⟩ := run_append_own_at (P := P) w w0.heap.size t ty e i z size bytes ht hi hz hsize hby hzs hsz _ n xs hown ad m c news hl (hnews ad rfl) h1 h63 hbytes h.since.size
    have hv : ∃ A' c', v' = .slice A' (n + m) c' := by
      rcases o2.2 with ⟨h0, h2⟩ | ⟨g, cp, cur, h2, _⟩
      · have : n + m = 0 := by
          have := o2.1; rw [h2] at this; simp at this; rcases this with h3 | h3 <;> omega
        exact ⟨_, _, by rw [this]; exact h0⟩
      · exact ⟨_, _, h2⟩
    obtain ⟨A', c', rfl⟩ := hv
    exact ⟨A', c', w', hr, h.put k hk o2 o3 o5⟩

theorem wp_append_bank {o : Oper} {a : Act} {K : Act → World → Prop} {Q : Exit → Act → World → Prop} (h : Bank w0 w L) (s y : Operand) (t : TypeId)
    (ho : o.op = .call { callee := .builtin .append, args := #[s, y], argTypes := #[t, t] })
    (e : TypeId) (i : TypeInfo) (z : Value) (size bytes : Nat) (ht : P.underlying t = some (.slice e)) (hi : P.info? e = some i) (hz : i.zero = some z)
    (hsize : i.size = size) (hby : i.bytes = bytes) (hzs : z.cells.size = size) (hsz : 0 < size) (k : Nat) (A : Option Addr) (n cap : Nat) (xs : List Value) (hs : a.eval s = .slice A n cap) (hk : L[k]? = some ⟨.slice A n cap, n, e, size, xs⟩)
    (ao : Option Addr) (m c : Nat) (news : List Value) (hx : a.eval y = .slice ao m c) (hnone : ao = Option.none → m = 0 ∧ c = 0) (hl : news.length = m * size) (hnews : ∀ ad, ao = some ad → ∀ j u, news[j]? = some u → w.cell? (ad.add j) = some u) (h1 : ∀ u ∈ news, u.oneCell' = true)
    (h63 : n + m ≤ maxLen) (hbytes : (n + m) * bytes ≤ 140737488355328)
    (hK : ∀ A' c' w', Bank w0 w' (L.set k ⟨.slice A' (n + m) c', n + m, e, size, xs ++ news⟩) → K (a.put o.dst (.slice A' (n + m) c')) w') : o.wp P a w K Q := by
  obtain ⟨A', c', w', hr, h2⟩ := run_append_bank (P := P) h t o.type e i z size bytes ht hi hz hsize hby hzs hsz k A n cap xs hk ao m c news hnone hl hnews h1 h63 hbytes
  unfold Oper.wp execOp
  simp only [ho, resolve, invoke, builtin, Sem.run_bind, Sem.run_pure, Result.andThen_ok, List.map_toArray, List.map_cons, List.map_nil, hs, hx, hr]
  exact hK A' c' w' h2
/-- the same, with what the append changed -/
theorem run_append_bankG (h : Bank w0 w L) (t ty e : TypeId) (i : TypeInfo) (z : Value) (size bytes : Nat) (ht : P.underlying t = some (.slice e)) (hi : P.info? e = some i) (hz : i.zero = some z)
    (hsize : i.size = size) (hby : i.bytes = bytes) (hzs : z.cells.size = size) (hsz : 0 < size) (k : Nat) (A : Option Addr) (n cap : Nat) (xs : List Value) (hk : L[k]? = some ⟨.slice A n cap, n, e, size, xs⟩)
    (ad : Addr) (m c : Nat) (news : List Value) (hl : news.length = m * size) (hnews : ∀ j u, news[j]? = some u → w.cell? (ad.add j) = some u) (h1 : ∀ u ∈ news, u.oneCell' = true)
    (h63 : n + m ≤ maxLen) (hbytes : (n + m) * bytes ≤ 140737488355328) :
    ∃ A' c' w', (Builtin.append_ #[t, t] ty #[.slice A n cap, .slice (some ad) m c]).run P w = .ok (.slice A' (n + m) c') w' ∧ Bank w0 w' (L.set k ⟨.slice A' (n + m) c', n + m, e, size, xs ++ news⟩) ∧
      w.grownBy w' (Value.slice A n cap).ownBlock ∧ ((Value.slice A' (n + m) c').ownBlock = (Value.slice A n cap).ownBlock ∨ (Value.slice A' (n + m) c').ownBlock = some w.heap.size) := by
  have hown := h.at k hk
  obtain ⟨v', w', hr, o2, o3, _, o5⟩ := run_append_own_at (P := P) w w0.heap.size t ty e i z size bytes ht hi hz hsize hby hzs hsz _ n xs hown ad m c news hl hnews h1 h63 hbytes h.since.size
  have hv : ∃ A' c', v' = .slice A' (n + m) c' := by
    rcases o2.2 with ⟨h0, h2⟩ | ⟨g, cp, cur, h2, _⟩
    · have : n + m = 0 := by
        have := o2.1; rw [h2] at this; simp at this; rcases this with h3 | h3 <;> omega
      exact ⟨_, _, by rw [this]; exact h0⟩
    · exact ⟨_, _, h2⟩
  obtain ⟨A', c', rfl⟩ := hv
  exact ⟨A', c', w', hr, h.put k hk o2 o3 o5, o3, o5⟩
theorem wpList_append_bankG {ops : Array Oper} {rest : List Oper} {o : Oper} {a : Act} {Q : Exit → Act → World → Prop} (h : Bank w0 w L) (hgd : o.guard = Option.none) (s y : Operand) (t : TypeId)
    (ho : o.op = .call { callee := .builtin .append, args := #[s, y], argTypes := #[t, t] })
    (e : TypeId) (z : Value) (size bytes : Nat) (hz : (P.info? e).map (fun i => (i.zero, i.size, i.bytes)) = some (some z, size, bytes)) (ht : P.underlying t = some (.slice e)) (hzs : z.cells.size = size) (hsz : 0 < size)
    (k : Nat) (A : Option Addr) (n cap : Nat) (xs : List Value) (hs : a.eval s = .slice A n cap) (hk : L[k]? = some ⟨.slice A n cap, n, e, size, xs⟩)
    (ad : Addr) (m c : Nat) (news : List Value) (hx : a.eval y = .slice (some ad) m c) (hl : news.length = m * size) (hnews : ∀ j u, news[j]? = some u → w.cell? (ad.add j) = some u) (h1 : ∀ u ∈ news, u.oneCell' = true)
    (h63 : n + m ≤ maxLen) (hbytes : (n + m) * bytes ≤ 140737488355328)
    (hK : ∀ A' n' c' w', n' = n + m → Bank w0 w' (L.set k ⟨.slice A' n' c', n', e, size, xs ++ news⟩) → w.grownBy w' (Value.slice A n cap).ownBlock → ((Value.slice A' n' c').ownBlock = (Value.slice A n cap).ownBlock ∨ (Value.slice A' n' c').ownBlock = some w.heap.size) → wpList P ops Q rest (a.put o.dst (.slice A' n' c')) w') : wpList P ops Q (o :: rest) a w := by
  obtain ⟨i0, hi, hz0, hz1, hz2⟩ := info_parts hz
  refine wpList_plain hgd fun K hK' => ?_
  obtain ⟨A', c', w', hr, h2, h3, h4⟩ := run_append_bankG (P := P) h t o.type e i0 z size bytes ht hi hz0 hz1 hz2 hzs hsz k A n cap xs hk ad m c news hl hnews h1 h63 hbytes
  unfold Oper.wp execOp
  simp only [ho, resolve, invoke, builtin, Sem.run_bind, Sem.run_pure, Result.andThen_ok, List.map_toArray, List.map_cons, List.map_nil, hs, hx, hr]
  exact hK' _ _ (hK A' _ c' w' rfl h2 h3 h4)
theorem RowRd.src {x : Rw} {bs : List (BitVec 8)} (h : RowRd w x bs) : (x.A = Option.none → x.n = 0 ∧ x.c = 0) ∧ (bv bs).length = x.n * 1 ∧ ∀ ad, x.A = some ad → ∀ j u, (bv bs)[j]? = some u → w.cell? (ad.add j) = some u :=
  ⟨fun e => ⟨by
    have hrd := h.rd
    rw [e] at hrd
    have := h.len
    rw [hrd.empty] at this; exact this.symm, h.none e⟩, by rw [bv_length, h.len, Nat.mul_one], h.rd.cells⟩
/-- bytes put behind bytes, on the walk -/
theorem wpList_append_bytes {ops : Array Oper} {rest : List Oper} {o : Oper} {a : Act} {Q : Exit → Act → World → Prop} (h : Bank w0 w L) (hgd : o.guard = Option.none) (s y : Operand) (t : TypeId)
    (ho : o.op = .call { callee := .builtin .append, args := #[s, y], argTypes := #[t, t] })
    (e : TypeId) (hz : (P.info? e).map (fun i => (i.zero, i.size, i.bytes)) = some (some (.int .u8 0), 1, 1)) (ht : P.underlying t = some (.slice e)) (k : Nat) (A : Option Addr) (n cap : Nat) (bs : List (BitVec 8)) (hs : a.eval s = .slice A n cap) (hk : L[k]? = some ⟨.slice A n cap, n, e, 1, bv bs⟩)
    (ao : Option Addr) (m c : Nat) (news : List (BitVec 8)) (hx : a.eval y = .slice ao m c) (hr : RowRd w ⟨ao, m, c⟩ news) (hb : n + m ≤ 140737488355328)
    (hK : ∀ A' n' c' w', n' = n + m → Bank w0 w' (L.set k ⟨.slice A' n' c', n', e, 1, bv (bs ++ news)⟩) → wpList P ops Q rest (a.put o.dst (.slice A' n' c')) w') : wpList P ops Q (o :: rest) a w := by
  obtain ⟨i0, hi, hz0, hz1, hz2⟩ := info_parts hz
  obtain ⟨r1, r2, r3⟩ := hr.src
  refine wpList_plain hgd fun K hK' => ?_
  refine wp_append_bank h s y t ho e i0 _ 1 1 ht hi hz0 hz1 hz2 rfl (by decide) k A n cap (bv bs) hs hk ao m c (bv news) hx r1 r2 r3 (bv_one _) (by unfold maxLen; omega) (by omega) fun A' c' w' h2 => hK' _ _ ?_
  rw [← bv_append] at h2
  exact hK A' _ c' w' rfl h2
/-- the same, the append being guarded -/
theorem wpList_append_bytesW {ops : Array Oper} {rest : List Oper} {o : Oper} {a : Act} {Q : Exit → Act → World → Prop} (h : Bank w0 w L) (hgd : Region.wanted o (yielded ops a.tmps) = true) (s y : Operand) (t : TypeId)
    (ho : o.op = .call { callee := .builtin .append, args := #[s, y], argTypes := #[t, t] })
    (e : TypeId) (hz : (P.info? e).map (fun i => (i.zero, i.size, i.bytes)) = some (some (.int .u8 0), 1, 1)) (ht : P.underlying t = some (.slice e)) (k : Nat) (A : Option Addr) (n cap : Nat) (bs : List (BitVec 8)) (hs : a.eval s = .slice A n cap) (hk : L[k]? = some ⟨.slice A n cap, n, e, 1, bv bs⟩)
    (ao : Option Addr) (m c : Nat) (news : List (BitVec 8)) (hx : a.eval y = .slice ao m c) (hr : RowRd w ⟨ao, m, c⟩ news) (hb : n + m ≤ 140737488355328)
    (hK : ∀ A' n' c' w', n' = n + m → Bank w0 w' (L.set k ⟨.slice A' n' c', n', e, 1, bv (bs ++ news)⟩) → wpList P ops Q rest (a.put o.dst (.slice A' n' c')) w') : wpList P ops Q (o :: rest) a w := by
  obtain ⟨i0, hi, hz0, hz1, hz2⟩ := info_parts hz
  obtain ⟨r1, r2, r3⟩ := hr.src
  refine wpList_step fun K hK' => ?_
  rw [if_pos hgd]
  refine wp_append_bank h s y t ho e i0 _ 1 1 ht hi hz0 hz1 hz2 rfl (by decide) k A n cap (bv bs) hs hk ao m c (bv news) hx r1 r2 r3 (bv_one _) (by unfold maxLen; omega) (by omega) fun A' c' w' h2 => hK' _ _ ?_
  rw [← bv_append] at h2
  exact hK A' _ c' w' rfl h2
/-- bytes put behind bytes, in a region that draws its order -/
theorem step_append_bytes {ops : Array Oper} {o : Oper} {a : Act} {K : Act → World → Prop} {Q : Exit → Act → World → Prop} {E : Prop} (h : Bank w0 w L) (hgd : o.guard = Option.none) (s y : Operand) (t : TypeId)
    (ho : o.op = .call { callee := .builtin .append, args := #[s, y], argTypes := #[t, t] })
    (e : TypeId) (hz : (P.info? e).map (fun i => (i.zero, i.size, i.bytes)) = some (some (.int .u8 0), 1, 1)) (ht : P.underlying t = some (.slice e)) (k : Nat) (A : Option Addr) (n cap : Nat) (bs : List (BitVec 8)) (hs : a.eval s = .slice A n cap) (hk : L[k]? = some ⟨.slice A n cap, n, e, 1, bv bs⟩)
    (ao : Option Addr) (m c : Nat) (news : List (BitVec 8)) (hx : a.eval y = .slice ao m c) (hr : RowRd w ⟨ao, m, c⟩ news) (hb : n + m ≤ 140737488355328)
    (hK : ∀ A' n' c' w', n' = n + m → Bank w0 w' (L.set k ⟨.slice A' n' c', n', e, 1, bv (bs ++ news)⟩) → K (a.put o.dst (.slice A' n' c')) w') :
    if Region.wanted o (yielded ops a.tmps) = true then Oper.wp P o a w K Q else E := by
  have hw : Region.wanted o (yielded ops a.tmps) = true := by simp [Region.wanted, hgd]
  rw [if_pos hw]
  obtain ⟨i0, hi, hz0, hz1, hz2⟩ := info_parts hz
  obtain ⟨r1, r2, r3⟩ := hr.src
  refine wp_append_bank h s y t ho e i0 _ 1 1 ht hi hz0 hz1 hz2 rfl (by decide) k A n cap (bv bs) hs hk ao m c (bv news) hx r1 r2 r3 (bv_one _) (by unfold maxLen; omega) (by omega) fun A' c' w' h2 => ?_
  rw [← bv_append] at h2
  exact hK A' _ c' w' rfl h2
/-- the same in a region that draws its order, and what was put behind of reads as it did -/
theorem step_append_bytesK {ops : Array Oper} {o : Oper} {a : Act} {K : Act → World → Prop} {Q : Exit → Act → World → Prop} {E : Prop} (h : Bank w0 w L) (hgd : Region.wanted o (yielded ops a.tmps) = true) (s y : Operand) (t : TypeId)
    (ho : o.op = .call { callee := .builtin .append, args := #[s, y], argTypes := #[t, t] })
    (e : TypeId) (hz : (P.info? e).map (fun i => (i.zero, i.size, i.bytes)) = some (some (.int .u8 0), 1, 1)) (ht : P.underlying t = some (.slice e)) (k : Nat) (g n cap : Nat) (bs : List (BitVec 8)) (hs : a.eval s = .slice (some ⟨g, 0, Option.none⟩) n cap) (hk : L[k]? = some ⟨.slice (some ⟨g, 0, Option.none⟩) n cap, n, e, 1, bv bs⟩)
    (ao : Option Addr) (m c : Nat) (news : List (BitVec 8)) (hx : a.eval y = .slice ao m c) (hr : RowRd w ⟨ao, m, c⟩ news) (hm : 0 < m) (hb : n + m ≤ 140737488355328)
    (hK : ∀ A' n' c' w', n' = n + m → Bank w0 w' (L.set k ⟨.slice A' n' c', n', e, 1, bv (bs ++ news)⟩) → RowRd w' ⟨some ⟨g, 0, Option.none⟩, n, cap⟩ bs → K (a.put o.dst (.slice A' n' c')) w') :
    if Region.wanted o (yielded ops a.tmps) = true then Oper.wp P o a w K Q else E := by
  rw [if_pos hgd]
  obtain ⟨i0, hi, hz0, hz1, hz2⟩ := info_parts hz
  obtain ⟨r1, r2, r3⟩ := hr.src
  have hown := h.at k hk
  obtain ⟨ad, rfl⟩ : ∃ ad, ao = some ad := by
    cases ao with
    | none => have := (r1 rfl).1; have h' : m = 0 := this; omega
    | some ad => exact ⟨ad, rfl⟩
  obtain ⟨g', cap', w', hrun, o2, o3, o4, _, o6⟩ := run_append_keep (P := P) w t o.type w0.heap.size e i0 _ 1 1 ht hi hz0 hz1 hz2 rfl (by decide) g n cap (bv bs) hown ad m c (bv news) r2 (r3 ad rfl) (bv_one _) hm (by unfold maxLen; omega) (by omega) h.since.size _ rfl
  have hB := h.putG k hk (p' := ⟨.slice (some ⟨g', 0, Option.none⟩) (n + m) cap', n + m, e, 1, bv (bs ++ news)⟩) (by rw [bv_append]; exact o2) o3 (by
    rcases o4 with ⟨e1, _⟩ | ⟨e1, _⟩
    · exact .inl (by rw [e1]; rfl)
    · exact .inr ⟨g', rfl, e1⟩)
  have hR : RowRd w' ⟨some ⟨g, 0, Option.none⟩, n, cap⟩ bs := ⟨fun j hj => by
    have hrd := RowRd.of_row hown
    obtain ⟨b, o, e, hc⟩ := hrd.rd j hj
    have hjn : j < n := by have h' : bs.length = n := hrd.len; omega
    cases e
    exact ⟨g, 0, rfl, by rw [Nat.zero_add]; rw [Nat.zero_add] at hc; rw [o6 j (by omega), hc]⟩, (RowRd.of_row hown).len, fun h => by cases h⟩
  unfold Oper.wp execOp
  simp only [ho, resolve, invoke, builtin, Sem.run_bind, Sem.run_pure, Result.andThen_ok, List.map_toArray, List.map_cons, List.map_nil, hs, hx, hrun]
  exact hK _ _ _ w' rfl hB hR
/-- the bank of the world at hand, ahead of a call or an append -/
theorem calls_bank {f : FuncId} {args : Array Value} {Q : Ending → World → Prop} (h : Bank w0 w L) (hq : Bank w0 w L → Calls P f args w Q) : Calls P f args w Q := hq h
theorem step_bank {ops : Array Oper} {o : Oper} {a : Act} {K : Act → World → Prop} {Q : Exit → Act → World → Prop} {E : Prop} (h : Bank w0 w L) (hq : Bank w0 w L → if Region.wanted o (yielded ops a.tmps) = true then Oper.wp P o a w K Q else E) : if Region.wanted o (yielded ops a.tmps) = true then Oper.wp P o a w K Q else E := hq h
end
/-- something else was written, or made -/
theorem Bank.other {w0 w w' : World} {L : List Acc} (h : Bank w0 w L) {X : Nat} (hg : w.grownBy w' (some X)) (hX : w0.heap.size ≤ X) (hL : ∀ p ∈ L, p.v.ownBlock ≠ some X) : Bank w0 w' L := by
  refine ⟨h.since.grown hg h.since.size (by rintro k ⟨⟩; exact hX), fun p hp => (h.own p hp).kept hg ?_, h.sep⟩
  cases hq : p.v.ownBlock with
  | none => exact .inl rfl
  | some b => exact .inr fun e => hL p hp (hq.trans e)
theorem Bank.add {w0 w : World} {L : List Acc} (h : Bank w0 w L) {B : Nat} {e : TypeId} {size n : Nat} {v : Value} {xs : List Value} (ho : w.ownsRow B e size v n xs) (hB : w0.heap.size ≤ B) (hL : ∀ p ∈ L, ∀ b, p.v.ownBlock = some b → b < B) : Bank w0 w (⟨v, n, e, size, xs⟩ :: L) := by
  refine ⟨h.since, fun p hp => ?_, .cons (fun q hq b hb1 hb2 => ?_) h.sep⟩
  · rcases List.mem_cons.1 hp with rfl | hp
    · exact row_base ho hB
    · exact h.own p hp
  · have h1 := (ho.lt b hb1).1
    have h2 := hL q hq b hb2
    omega
theorem Bank.swap {w0 w : World} {L : List Acc} {p q : Acc} (h : Bank w0 w (p :: q :: L)) : Bank w0 w (q :: p :: L) := by
  obtain ⟨h1, h2⟩ := List.pairwise_cons.1 h.sep
  obtain ⟨h3, h4⟩ := List.pairwise_cons.1 h2
  refine ⟨h.since, fun x hx => h.own x ?_, .cons (fun x hx => ?_) (.cons (fun x hx => h1 x (List.mem_cons_of_mem _ hx)) h4)⟩
  · simp only [List.mem_cons] at hx ⊢
    rcases hx with rfl | rfl | hx
    · exact .inr (.inl rfl)
    · exact .inl rfl
    · exact .inr (.inr hx)
  · rcases List.mem_cons.1 hx with rfl | hx
    · exact (h1 _ (List.mem_cons_self ..)).symm
    · exact h3 x hx
/-- bytes made in memory of their own -/
def Made (w : World) (bs : List (BitVec 8)) (e : Ending) (w' : World) : Prop := ∃ g N c, e = .returned (.slice (some ⟨g, 0, none⟩) N c) ∧ N = bs.length ∧ w'.ownsRow w.heap.size 5 1 (.slice (some ⟨g, 0, none⟩) N c) N (bv bs) ∧ Below w.heap.size w w'
/-- likewise, or nil -/
def MadeO (w : World) (bs : List (BitVec 8)) (e : Ending) (w' : World) : Prop := ∃ A N c, e = .returned (.slice A N c) ∧ N = bs.length ∧ w'.ownsRow w.heap.size 5 1 (.slice A N c) N (bv bs) ∧ Below w.heap.size w w'
end Go.Proofs.Ytdmpphioflcofaa.K
