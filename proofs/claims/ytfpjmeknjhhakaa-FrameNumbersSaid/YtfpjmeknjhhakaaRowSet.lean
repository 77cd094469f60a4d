/- Rows of bytes that lie apart: plain lemmas over any program. A row is a slice value; a situation says which rows a world owns, that no two lie in one block, and that a second set of rows (grown out of the first) lies apart too. -/
import Derived.Test.YtfpjmeknjhhakaaAppend
namespace Go.Proofs.Ytfpjmeknjhhakaa.K
open Go Go.RowKit

structure Rw where
  A : Option Addr
  n : Nat
  c : Nat
def Rw.v (x : Rw) : Value := .slice x.A x.n x.c
def Rw.blk (x : Rw) : Option Nat := x.v.ownBlock
def Rw.own (x : Rw) (w : World) (base : Nat) (e : TypeId) (bs : List (BitVec 8)) : Prop := w.ownsRow base e 1 x.v x.n (bv bs)

theorem Rw.own.len {x : Rw} {w : World} {base : Nat} {e : TypeId} {bs : List (BitVec 8)} (h : x.own w base e bs) : bs.length = x.n := by
  have := h.1; rw [bv_length] at this; omega
theorem Rw.own.addr {x : Rw} {w : World} {base : Nat} {e : TypeId} {bs : List (BitVec 8)} (h : x.own w base e bs) : (x.A = none ∧ x.n = 0 ∧ x.c = 0) ∨ ∃ g, x.A = some ⟨g, 0, none⟩ ∧ x.blk = some g ∧ base ≤ g ∧ g < w.heap.size := by
  rcases h.2 with ⟨h1, h2⟩ | ⟨g, cap, cur, hv, hb, hg, _⟩
  · left
    simp only [Rw.v, Value.slice.injEq] at h1
    exact h1
  · right
    simp only [Rw.v, Value.slice.injEq] at hv
    exact ⟨g, hv.1, by simp [Rw.blk, Rw.v, hv.1, Value.ownBlock], hb, (Array.getElem?_eq_some_iff.1 hg).1⟩
theorem Rw.own.kept {x : Rw} {w w' : World} {base : Nat} {e : TypeId} {bs : List (BitVec 8)} {row : Option Nat} (h : x.own w base e bs) (hg : w.grownBy w' row) (hne : ∀ b, x.blk = some b → row ≠ some b) : x.own w' base e bs := by
  refine World.ownsRow.kept h hg ?_
  cases hv : x.v.ownBlock with
  | none => exact .inl rfl
  | some b => exact .inr (fun e => hne b hv e.symm)
/-- a row's beginning -/
theorem own_take {w : World} {base : Nat} {e : TypeId} {g n c k : Nat} {bs : List (BitVec 8)} (h : w.ownsRow base e 1 (.slice (some ⟨g, 0, none⟩) n c) n (bv bs)) (hk : k ≤ n) : w.ownsRow base e 1 (.slice (some ⟨g, 0, none⟩) k c) k (bv (bs.take k)) := by
  have hl : bs.length = n := by have := h.1; rw [bv_length] at this; omega
  refine ⟨by rw [bv_length, List.length_take]; omega, ?_⟩
  rcases h.2 with ⟨h1, _⟩ | ⟨g', cap, cur, hv, hb, hg, hnc, hcm, hs, ht⟩
  · simp at h1
  · simp only [Value.slice.injEq, Option.some.injEq, Addr.mk.injEq, and_true, true_and] at hv
    obtain ⟨rfl, rfl⟩ := hv
    refine .inr ⟨g, c, cur, rfl, hb, hg, by omega, hcm, hs, ?_⟩
    have e2 : bv (bs.take k) = (bv bs).take k := by simp [bv]
    rw [e2, ← ht, List.take_take]
    congr 1; omega

/-- what an append of m bytes makes of a row -/
def Grew (w w' : World) (base : Nat) (e : TypeId) (x x' : Rw) (m : Nat) (bs news : List (BitVec 8)) : Prop :=
  x'.own w' base e (bs ++ news) ∧ x'.n = x.n + m ∧
  ((x'.A = x.A ∧ x'.c = x.c ∧ ∃ g, x.A = some ⟨g, 0, none⟩ ∧ w.grownBy w' (some g)) ∨ (∃ g, x'.A = some ⟨g, 0, none⟩ ∧ w.heap.size ≤ g ∧ w.grownBy w' none))
theorem Grew.size {w w' : World} {base : Nat} {e : TypeId} {x x' : Rw} {m : Nat} {bs news : List (BitVec 8)} (h : Grew w w' base e x x' m bs news) : w.heap.size ≤ w'.heap.size := by
  rcases h.2.2 with ⟨_, _, _, _, h⟩ | ⟨_, _, _, h⟩ <;> exact h.size
theorem Grew.below {W w w' : World} {base : Nat} {e : TypeId} {x x' : Rw} {m : Nat} {bs news : List (BitVec 8)} (h : Grew w w' base e x x' m bs news) (hx : x.own w base e bs) {B : Nat} (hB : B ≤ base) (hs : B ≤ w.heap.size) (hb : Below B W w) : Below B W w' := by
  rcases h.2.2 with ⟨_, _, g, hg, h⟩ | ⟨_, _, _, h⟩
  · refine hb.grown h hs fun k hk => ?_
    cases hk
    rcases hx.addr with ⟨h0, _⟩ | ⟨g', h0, _, h1, _⟩
    · rw [h0] at hg; cases hg
    · rw [h0] at hg; cases hg; omega
  · exact hb.grown h hs fun k hk => by cases hk

section
variable {P : Program} (w : World)
theorem run_append_either (t ty : TypeId) (base : Nat) (e : TypeId) (i : TypeInfo) (z : Value) (bytes : Nat) (ht : P.underlying t = some (.slice e)) (hi : P.info? e = some i) (hz : i.zero = some z)
    (hsize : i.size = 1) (hby : i.bytes = bytes) (hzs : z.cells.size = 1) (x : Rw) (bs : List (BitVec 8)) (hown : x.own w base e bs)
    (ad : Addr) (m c : Nat) (news : List (BitVec 8)) (hl : news.length = m) (hnews : ∀ j u, (bv news)[j]? = some u → w.cell? (ad.add j) = some u)
    (hm : 0 < m) (h63 : x.n + m ≤ maxLen) (hbytes : (x.n + m) * bytes ≤ 140737488355328) (hbase : base ≤ w.heap.size) :
    ∃ A' c' w', (Builtin.append_ #[t, t] ty #[.slice x.A x.n x.c, .slice (some ad) m c]).run P w = .ok (.slice A' (x.n + m) c') w' ∧ Grew w w' base e x ⟨A', x.n + m, c'⟩ m bs news := by
  have hl' : (bv news).length = m * 1 := by rw [bv_length]; omega
  obtain ⟨A, n, cap⟩ := x
  rcases hown.addr with ⟨h1, h2, h3⟩ | ⟨g, h1, _, h2, h3⟩
  · obtain rfl : A = none := h1
    obtain rfl : n = 0 := h2
    obtain rfl : cap = 0 := h3
    obtain ⟨v', w', hr, o2, o3, _, o5⟩ := run_append_own_at (P := P) w base t ty e i z 1 bytes ht hi hz hsize hby hzs (by omega) _ 0 _ hown ad m c (bv news) hl' hnews (bv_one _) h63 hbytes hbase
    obtain ⟨g', cap', rfl, hb', hlt⟩ := o2.form (by omega)
    refine ⟨_, _, w', hr, by rw [← bv_append] at o2; exact o2, rfl, .inr ⟨g', rfl, ?_, o3⟩⟩
    rcases o5 with o5 | o5
    · simp [Value.ownBlock, Rw.v] at o5
    · simp [Value.ownBlock] at o5; omega
  · obtain rfl : A = some ⟨g, 0, none⟩ := h1
    have hxl : (bv bs).length = n * 1 := by rw [bv_length, hown.len]; simp
    rcases Nat.lt_or_ge cap (n + m) with hr | hr
    · obtain ⟨v', w', hrun, o2, o3⟩ := run_append_arg_grows (P := P) w t ty e i z 1 bytes ht hi hz hsize hby hzs (by omega) ⟨g, 0, none⟩ n cap (bv bs) hxl
        (fun j u hu => by
          have hj : j < (bv bs).length := (List.getElem?_eq_some_iff.1 hu).1
          rw [Addr.add_lit, Nat.zero_add]
          have hc := World.ownsRow.cellAt hown j (by rw [hxl] at hj; exact hj)
          rw [hc, hu]) ad m c (bv news) hl' hnews hr h63 hbytes
      obtain ⟨g', cap', rfl, hg', hlt⟩ := o2.form (by omega)
      refine ⟨_, _, w', hrun, ?_, rfl, .inr ⟨g', rfl, hg', o3⟩⟩
      rw [← bv_append] at o2
      exact ⟨o2.1, o2.2.elim .inl fun ⟨a, b, cur, hv, hb, r⟩ => .inr ⟨a, b, cur, hv, Nat.le_trans hbase hb, r⟩⟩
    · obtain ⟨w', hrun, o2, o3⟩ := run_append_fits (P := P) w base t ty e i 1 ht hi hsize g n cap (bv bs) hown ad m c (bv news) hl' hnews (bv_one _) hr
      rw [← bv_append] at o2
      exact ⟨_, _, w', hrun, o2, rfl, .inl ⟨rfl, rfl, g, rfl, o3⟩⟩

theorem wpList_append_either {ops : Array Oper} {rest : List Oper} {o : Oper} {a : Act} {Q : Exit → Act → World → Prop} (hgd : o.guard = Option.none) (s y : Operand) (t : TypeId)
    (ho : o.op = .call { callee := .builtin .append, args := #[s, y], argTypes := #[t, t] })
    (base : Nat) (e : TypeId) (i : TypeInfo) (z : Value) (bytes : Nat) (ht : P.underlying t = some (.slice e)) (hi : P.info? e = some i) (hz : i.zero = some z)
    (hsize : i.size = 1) (hby : i.bytes = bytes) (hzs : z.cells.size = 1) (x : Rw) (bs : List (BitVec 8)) (hs : a.eval s = .slice x.A x.n x.c) (hown : x.own w base e bs)
    (ad : Addr) (m c : Nat) (news : List (BitVec 8)) (hx : a.eval y = .slice (some ad) m c) (hl : news.length = m) (hnews : ∀ j u, (bv news)[j]? = some u → w.cell? (ad.add j) = some u)
    (hm : 0 < m) (h63 : x.n + m ≤ maxLen) (hbytes : (x.n + m) * bytes ≤ 140737488355328) (hbase : base ≤ w.heap.size)
    (h : ∀ A' c' w', Grew w w' base e x ⟨A', x.n + m, c'⟩ m bs news → wpList P ops Q rest (a.put o.dst (.slice A' (x.n + m) c')) w') : wpList P ops Q (o :: rest) a w := by
  refine wpList_plain hgd fun K hK => ?_
  obtain ⟨A', c', w', hr, h2⟩ := run_append_either (P := P) w t o.type base e i z bytes ht hi hz hsize hby hzs x bs hown ad m c news hl hnews hm h63 hbytes hbase
  unfold Oper.wp execOp
  simp only [ho, resolve, invoke, builtin, Sem.run_bind, Sem.run_pure, Result.andThen_ok, List.map_toArray, List.map_cons, List.map_nil, hs, hx, hr]
  exact hK _ _ (h A' c' w' h2)
end

def upd {α : Type} (f : Nat → α) (k : Nat) (x : α) : Nat → α := fun j => if j = k then x else f j
theorem upd_same {α : Type} (f : Nat → α) (k : Nat) (x : α) : upd f k x k = x := by simp [upd]
theorem upd_other {α : Type} (f : Nat → α) (k : Nat) (x : α) {j : Nat} (h : j ≠ k) : upd f k x j = f j := by simp [upd, h]

/-- m rows r that read f, and k rows r' that read F; no two of one set lie in one block, nor one of r and another one's of r'; none lies in a block of Z -/
structure Sit (w : World) (base : Nat) (e : TypeId) (m : Nat) (Z : Nat → Prop) (r : Nat → Rw) (f : Nat → List (BitVec 8)) (k : Nat) (r' : Nat → Rw) (F : Nat → List (BitVec 8)) : Prop where
  own : ∀ j, j < m → (r j).own w base e (f j)
  sep : ∀ i j, i < m → j < m → i ≠ j → ∀ b, (r i).blk = some b → (r j).blk ≠ some b
  own' : ∀ j, j < k → (r' j).own w base e (F j)
  sep' : ∀ i j, i < m → j < k → i ≠ j → ∀ b, (r' j).blk = some b → (r i).blk ≠ some b
  sep2 : ∀ i j, i < k → j < k → i ≠ j → ∀ b, (r' i).blk = some b → (r' j).blk ≠ some b
  z : ∀ b, Z b → b < w.heap.size ∧ (∀ j, j < m → (r j).blk ≠ some b) ∧ (∀ j, j < k → (r' j).blk ≠ some b)
/-- a row x that stands for the k-th one of r' -/
structure Cur (w : World) (base : Nat) (e : TypeId) (m : Nat) (Z : Nat → Prop) (r : Nat → Rw) (f : Nat → List (BitVec 8)) (k : Nat) (r' : Nat → Rw) (x : Rw) (bs : List (BitVec 8)) : Prop where
  own : x.own w base e bs
  sep : ∀ j, j < m → j ≠ k → ∀ b, x.blk = some b → (r j).blk ≠ some b
  sep' : ∀ j, j < k → ∀ b, x.blk = some b → (r' j).blk ≠ some b
  z : ∀ b, Z b → x.blk ≠ some b
  same : ∀ b, x.blk = some b → (r k).blk = some b → x.A = (r k).A ∧ x.c = (r k).c ∧ (r k).n ≤ x.n ∧ bs.take (r k).n = f k

section
variable {w w' : World} {base : Nat} {e : TypeId} {m : Nat} {Z : Nat → Prop} {r r' : Nat → Rw} {f F : Nat → List (BitVec 8)} {k : Nat} {x : Rw} {bs : List (BitVec 8)}

theorem Sit.kept (S : Sit w base e m Z r f k r' F) {row : Option Nat} (hg : w.grownBy w' row) (h1 : ∀ j, j < m → ∀ b, (r j).blk = some b → row ≠ some b) (h2 : ∀ j, j < k → ∀ b, (r' j).blk = some b → row ≠ some b) : Sit w' base e m Z r f k r' F :=
  ⟨fun j hj => (S.own j hj).kept hg (h1 j hj), S.sep, fun j hj => (S.own' j hj).kept hg (h2 j hj), S.sep', S.sep2, fun b hb => ⟨Nat.lt_of_lt_of_le (S.z b hb).1 hg.size, (S.z b hb).2⟩⟩
theorem Sit.alloc (S : Sit w base e m Z r f k r' F) (o : Obj) : Sit (w.alloc o) base e m Z r f k r' F :=
  S.kept (World.grownBy_alloc w o none) (fun _ _ _ _ h => by cases h) (fun _ _ _ _ h => by cases h)
theorem Sit.grown (S : Sit w base e m Z r f k r' F) (hg : w.grownBy w' none) : Sit w' base e m Z r f k r' F :=
  S.kept hg (fun _ _ _ _ h => by cases h) (fun _ _ _ _ h => by cases h)
theorem grownBy_setCell (w : World) (g i : Nat) (v : Value) : w.grownBy (w.setCell ⟨g, i, none⟩ v) (some g) :=
  ⟨rfl, rfl, rfl, by simp, fun k' _ hk => heap_setCell_other w ⟨g, i, none⟩ k' v (fun e => hk (by simp [e]))⟩
theorem cell_setCell_ne {w : World} {g b i j : Nat} (v : Value) (hb : g ≠ b) : (w.setCell ⟨b, i, none⟩ v).cell? ⟨g, j, none⟩ = w.cell? ⟨g, j, none⟩ := by
  refine World.cell?_setCell_other _ _ _ _ (fun e => hb ?_)
  injection e with e1 _
  exact e1.symm
theorem Grew.block {w w' : World} {base : Nat} {e : TypeId} {x x' : Rw} {m : Nat} {bs news : List (BitVec 8)} (h : Grew w w' base e x x' m bs news) {b : Nat} (hb : b < w.heap.size) (hx : x.blk ≠ some b) : w'.heap[b]? = w.heap[b]? := by
  rcases h.2.2 with ⟨_, _, g, hg, h⟩ | ⟨_, _, _, h⟩
  · refine h.block b hb fun e => hx ?_
    cases e
    simp [Rw.blk, Rw.v, hg, Value.ownBlock]
  · exact h.block b hb (by simp)
theorem Sit.less (S : Sit w base e m Z r f k r' F) {Z' : Nat → Prop} (h : ∀ b, Z' b → Z b) : Sit w base e m Z' r f k r' F := ⟨S.own, S.sep, S.own', S.sep', S.sep2, fun b hb => S.z b (h b hb)⟩
theorem Sit.congr (S : Sit w base e m Z r f k r' F) {f' : Nat → List (BitVec 8)} (h : ∀ j, j < m → f j = f' j) : Sit w base e m Z r f' k r' F := ⟨fun j hj => by rw [← h j hj]; exact S.own j hj, S.sep, S.own', S.sep', S.sep2, S.z⟩
theorem Sit.congr' (S : Sit w base e m Z r f k r' F) {F' : Nat → List (BitVec 8)} (h : ∀ j, j < k → F j = F' j) : Sit w base e m Z r f k r' F' := ⟨S.own, S.sep, fun j hj => by rw [← h j hj]; exact S.own' j hj, S.sep', S.sep2, S.z⟩
/-- a store into a block of Z -/
theorem Sit.storeZ (S : Sit w base e m Z r f k r' F) {g : Nat} (hz : Z g) (i : Nat) (v : Value) : Sit (w.setCell ⟨g, i, none⟩ v) base e m Z r f k r' F :=
  S.kept (grownBy_setCell w g i v) (fun j hj b hb h => (S.z g hz).2.1 j hj (by cases h; exact hb)) (fun j hj b hb h => (S.z g hz).2.2 j hj (by cases h; exact hb))
theorem Sit.drewN (S : Sit w base e m Z r f k r' F) (q : Nat) : Sit (w.drewN q) base e m Z r f k r' F := ⟨S.own, S.sep, S.own', S.sep', S.sep2, S.z⟩
theorem Sit.drew (S : Sit w base e m Z r f k r' F) : Sit w.drew base e m Z r f k r' F := ⟨S.own, S.sep, S.own', S.sep', S.sep2, S.z⟩
/-- one block more that no row lies in -/
theorem Sit.addZ (S : Sit w base e m Z r f k r' F) (g : Nat) (h0 : g < w.heap.size) (h1 : ∀ j, j < m → (r j).blk ≠ some g) (h2 : ∀ j, j < k → (r' j).blk ≠ some g) : Sit w base e m (fun b => Z b ∨ b = g) r f k r' F :=
  ⟨S.own, S.sep, S.own', S.sep', S.sep2, fun b hb => hb.elim (S.z b) (fun h => by subst h; exact ⟨h0, h1, h2⟩)⟩
theorem Sit.lt (S : Sit w base e m Z r f k r' F) {j : Nat} (hj : j < m) {b : Nat} (hb : (r j).blk = some b) : b < w.heap.size := ((S.own j hj).lt b hb).2
theorem Sit.lt' (S : Sit w base e m Z r f k r' F) {j : Nat} (hj : j < k) {b : Nat} (hb : (r' j).blk = some b) : b < w.heap.size := ((S.own' j hj).lt b hb).2
/-- a store into a row (none of r' is there yet) -/
theorem Sit.store (S : Sit w base e m Z r f 0 r' F) {j i : Nat} (hj : j < m) (hi : i < (r j).n) (y : BitVec 8) :
    ∃ g, (r j).A = some ⟨g, 0, none⟩ ∧ base ≤ g ∧ w.cell? ⟨g, i, none⟩ = some (B8 ((f j).getD i 0)) ∧ w.frozen? ⟨g, i, none⟩ = false ∧ (∀ b, Z b → b ≠ g) ∧ Sit (w.setCell ⟨g, i, none⟩ (B8 y)) base e m Z r (upd f j ((f j).set i y)) 0 r' F := by
  have ho := S.own j hj
  rcases ho.addr with ⟨_, h0, _⟩ | ⟨g, hA, hb, hbase, hlt⟩
  · omega
  have ho2 : w.ownsRow base e 1 (.slice (some ⟨g, 0, none⟩) (r j).n (r j).c) (r j).n (bv (f j)) := by
    have := ho; unfold Rw.own Rw.v at this; rw [hA] at this; exact this
  have hl := ho.len
  refine ⟨g, hA, hbase, ?_, ho2.frozenAt i, fun b hz e => (S.z b hz).2.1 j hj (by rw [e]; exact hb), ?_⟩
  · rw [ho2.cellAt i (by omega)]
    simp [bv, show i < (f j).length by omega]
  · have hs := (ho2.stored i (B8 y)).1
    refine ⟨fun j' hj' => ?_, S.sep, fun j' hj' => absurd hj' (Nat.not_lt_zero _), S.sep', S.sep2, fun b hz => ?_⟩
    · by_cases e : j' = j
      · subst e
        rw [upd_same]
        unfold Rw.own Rw.v
        rw [hA]
        have e2 : bv ((f j').set i y) = (bv (f j')).set i (B8 y) := by simp [bv]
        rw [e2]; exact hs
      · rw [upd_other _ _ _ e]
        exact (S.own j' hj').kept (grownBy_setCell w g i (B8 y)) (fun b hb' h => S.sep j j' hj hj' (Ne.symm e) g hb (by cases h; exact hb'))
    · have := S.z b hz
      exact ⟨by simpa using this.1, this.2⟩

theorem Cur.start (S : Sit w base e m Z r f k r' F) (hk : k < m) : Cur w base e m Z r f k r' (r k) (f k) :=
  ⟨S.own k hk, fun j hj hjk b hb => S.sep k j hk hj (Ne.symm hjk) b hb, fun j hj b hb h => S.sep' k j hk hj (by omega) b h hb, fun b hz => (S.z b hz).2.1 k hk,
    fun b _ _ => ⟨rfl, rfl, Nat.le_refl _, by rw [List.take_of_length_le (by rw [(S.own k hk).len]; exact Nat.le_refl _)]⟩⟩
theorem Cur.alloc (C : Cur w base e m Z r f k r' x bs) (o : Obj) : Cur (w.alloc o) base e m Z r f k r' x bs :=
  ⟨C.own.kept (World.grownBy_alloc w o none) (fun _ _ h => by cases h), C.sep, C.sep', C.z, C.same⟩
theorem Cur.grown (C : Cur w base e m Z r f k r' x bs) (hg : w.grownBy w' none) : Cur w' base e m Z r f k r' x bs :=
  ⟨C.own.kept hg (fun _ _ h => by cases h), C.sep, C.sep', C.z, C.same⟩
theorem Cur.drew (C : Cur w base e m Z r f k r' x bs) : Cur w.drew base e m Z r f k r' x bs := ⟨C.own, C.sep, C.sep', C.z, C.same⟩
theorem Cur.grew (S : Sit w base e m Z r f k r' F) (C : Cur w base e m Z r f k r' x bs) (hk : k < m) {x' : Rw} {mm : Nat} {news : List (BitVec 8)} (G : Grew w w' base e x x' mm bs news) :
    Sit w' base e m Z r f k r' F ∧ Cur w' base e m Z r f k r' x' (bs ++ news) := by
  obtain ⟨ho, hn, h⟩ := G
  rcases h with ⟨hA, hc, g, hg, hgr⟩ | ⟨g, hg, hge, hgr⟩
  · have hxb : x.blk = some g := by simp [Rw.blk, Rw.v, hg, Value.ownBlock]
    have hxb' : x'.blk = some g := by simp [Rw.blk, Rw.v, hA, hg, Value.ownBlock]
    have hbl := C.own.len
    refine ⟨⟨fun j hj => ?_, S.sep, fun j hj => (S.own' j hj).kept hgr (fun b hb h => by cases h; exact C.sep' j hj g hxb hb), S.sep', S.sep2, fun b hz => ⟨Nat.lt_of_lt_of_le (S.z b hz).1 hgr.size, (S.z b hz).2⟩⟩,
      ⟨ho, fun j hj hjk b hb => C.sep j hj hjk b (by rw [hxb'] at hb; rw [hxb]; exact hb), fun j hj b hb => C.sep' j hj b (by rw [hxb'] at hb; rw [hxb]; exact hb), fun b hz => by rw [hxb', ← hxb]; exact C.z b hz, fun b hb hb' => ?_⟩⟩
    · by_cases hjk : j = k
      · subst hjk
        by_cases hs : (r j).blk = some g
        · obtain ⟨h1, h2, h3, h4⟩ := C.same g hxb hs
          have ho2 : w'.ownsRow base e 1 (.slice (some ⟨g, 0, none⟩) x'.n x'.c) x'.n (bv (bs ++ news)) := by
            have := ho; unfold Rw.own Rw.v at this; rw [hA, hg] at this; exact this
          have ht := own_take ho2 (k := (r j).n) (by omega)
          rw [List.take_append_of_le_length (by omega), h4, hc, h2] at ht
          unfold Rw.own Rw.v
          rw [← h1, hg]; exact ht
        · exact (S.own j hj).kept hgr (fun b hb h => by cases h; exact hs hb)
      · exact (S.own j hj).kept hgr (fun b hb h => by cases h; exact C.sep j hj hjk g hxb hb)
    · obtain ⟨h1, h2, h3, h4⟩ := C.same b (by rw [hxb'] at hb; rw [hxb]; exact hb) hb'
      exact ⟨hA.trans h1, hc.trans h2, by omega, by rw [List.take_append_of_le_length (by omega)]; exact h4⟩
  · have hxb' : x'.blk = some g := by simp [Rw.blk, Rw.v, hg, Value.ownBlock]
    refine ⟨S.grown hgr, ⟨ho, fun j hj _ b hb h => ?_, fun j hj b hb h => ?_, fun b hz h => ?_, fun b hb h => ?_⟩⟩
    · have := S.lt hj h; rw [hxb'] at hb; cases hb; omega
    · have := S.lt' hj h; rw [hxb'] at hb; cases hb; omega
    · have := (S.z b hz).1; rw [hxb'] at h; cases h; omega
    · have := S.lt hk h; rw [hxb'] at hb; cases hb; omega
theorem Sit.push (S : Sit w base e m Z r f k r' F) (C : Cur w base e m Z r f k r' x bs) : Sit w base e m Z r f (k + 1) (upd r' k x) (upd F k bs) where
  own := S.own
  sep := S.sep
  own' := fun j hj => by
    by_cases h : j = k
    · subst h; rw [upd_same, upd_same]; exact C.own
    · rw [upd_other _ _ _ h, upd_other _ _ _ h]; exact S.own' j (by omega)
  sep' := fun i j hi hj hij b hb => by
    by_cases h : j = k
    · subst h; rw [upd_same] at hb; exact C.sep i hi hij b hb
    · rw [upd_other _ _ _ h] at hb; exact S.sep' i j hi (by omega) hij b hb
  sep2 := fun i j hi hj hij b hb => by
    by_cases h : j = k
    · subst h
      rw [upd_other _ _ _ hij] at hb
      rw [upd_same]
      exact fun h' => C.sep' i (by omega) b h' hb
    · rw [upd_other _ _ _ h]
      by_cases h' : i = k
      · subst h'; rw [upd_same] at hb; exact C.sep' j (by omega) b hb
      · rw [upd_other _ _ _ h'] at hb; exact S.sep2 i j (by omega) (by omega) hij b hb
  z := fun b hz => ⟨(S.z b hz).1, (S.z b hz).2.1, fun j hj => by
    by_cases h : j = k
    · subst h; rw [upd_same]; exact C.z b hz
    · rw [upd_other _ _ _ h]; exact (S.z b hz).2.2 j (by omega)⟩
/-- the second set forgotten -/
theorem Sit.zero (S : Sit w base e m Z r f k r' F) : Sit w base e m Z r f 0 r' F :=
  ⟨S.own, S.sep, fun _ h => absurd h (Nat.not_lt_zero _), fun _ _ _ h => absurd h (Nat.not_lt_zero _), fun _ _ h => absurd h (Nat.not_lt_zero _), fun b hz => ⟨(S.z b hz).1, (S.z b hz).2.1, fun _ h => absurd h (Nat.not_lt_zero _)⟩⟩
/-- a place of a row -/
theorem Sit.at (S : Sit w base e m Z r f k r' F) {j i : Nat} (hj : j < m) (hi : i < (r j).n) : ∃ g, (r j).A = some ⟨g, 0, none⟩ ∧ w.cell? ⟨g, i, none⟩ = some (B8 ((f j).getD i 0)) := by
  have ho := S.own j hj
  rcases ho.addr with ⟨_, h0, _⟩ | ⟨g, hA, hb, hbase, hlt⟩
  · omega
  have ho2 : w.ownsRow base e 1 (.slice (some ⟨g, 0, none⟩) (r j).n (r j).c) (r j).n (bv (f j)) := by
    have := ho; unfold Rw.own Rw.v at this; rw [hA] at this; exact this
  have hl := ho.len
  exact ⟨g, hA, by rw [ho2.cellAt i (by omega)]; simp [bv, show i < (f j).length by omega]⟩
theorem Sit.at' (S : Sit w base e m Z r f k r' F) {j i : Nat} (hj : j < k) (hi : i < (r' j).n) : ∃ g, (r' j).A = some ⟨g, 0, none⟩ ∧ w.cell? ⟨g, i, none⟩ = some (B8 ((F j).getD i 0)) := by
  have ho := S.own' j hj
  rcases ho.addr with ⟨_, h0, _⟩ | ⟨g, hA, hb, hbase, hlt⟩
  · omega
  have ho2 : w.ownsRow base e 1 (.slice (some ⟨g, 0, none⟩) (r' j).n (r' j).c) (r' j).n (bv (F j)) := by
    have := ho; unfold Rw.own Rw.v at this; rw [hA] at this; exact this
  have hl := ho.len
  exact ⟨g, hA, by rw [ho2.cellAt i (by omega)]; simp [bv, show i < (F j).length by omega]⟩
end
end Go.Proofs.Ytfpjmeknjhhakaa.K
