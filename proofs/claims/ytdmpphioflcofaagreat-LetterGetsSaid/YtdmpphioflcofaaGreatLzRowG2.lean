/- Situations of rows whose elements are of es cells each: after RowSet's, made of it by a program and by hand. Plain lemmas over any program. -/
import Derived.Test.YtdmpphioflcofaaGreatLzRowG
namespace Go.Proofs.YtdmpphioflcofaaGreat.K.G
open Go Go.RowKit


/-- m rows r that read f, and k rows r' that read F; no two of one set lie in one block, nor one of r and another one's of r'; none lies in a block of Z -/
structure Sit (w : World) (base : Nat) (e : TypeId) (es m : Nat) (Z : Nat → Prop) (r : Nat → Rw) (f : Nat → List Value) (k : Nat) (r' : Nat → Rw) (F : Nat → List Value) : Prop where
  own : ∀ j, j < m → (r j).own w base e es (f j)
  sep : ∀ i j, i < m → j < m → i ≠ j → ∀ b, (r i).blk = some b → (r j).blk ≠ some b
  own' : ∀ j, j < k → (r' j).own w base e es (F j)
  sep' : ∀ i j, i < m → j < k → i ≠ j → ∀ b, (r' j).blk = some b → (r i).blk ≠ some b
  sep2 : ∀ i j, i < k → j < k → i ≠ j → ∀ b, (r' i).blk = some b → (r' j).blk ≠ some b
  z : ∀ b, Z b → b < w.heap.size ∧ (∀ j, j < m → (r j).blk ≠ some b) ∧ (∀ j, j < k → (r' j).blk ≠ some b)
/-- a row x that stands for the k-th one of r' -/
structure Cur (w : World) (base : Nat) (e : TypeId) (es m : Nat) (Z : Nat → Prop) (r : Nat → Rw) (f : Nat → List Value) (k : Nat) (r' : Nat → Rw) (x : Rw) (bs : List Value) : Prop where
  own : x.own w base e es bs
  sep : ∀ j, j < m → j ≠ k → ∀ b, x.blk = some b → (r j).blk ≠ some b
  sep' : ∀ j, j < k → ∀ b, x.blk = some b → (r' j).blk ≠ some b
  z : ∀ b, Z b → x.blk ≠ some b
  same : ∀ b, x.blk = some b → (r k).blk = some b → x.A = (r k).A ∧ x.c = (r k).c ∧ (r k).n ≤ x.n ∧ bs.take ((r k).n * es) = f k

section
variable {w w' : World} {base : Nat} {e : TypeId} {es m : Nat} {Z : Nat → Prop} {r r' : Nat → Rw} {f F : Nat → List Value} {k : Nat} {x : Rw} {bs : List Value}

theorem Sit.kept (S : Sit w base e es m Z r f k r' F) {row : Option Nat} (hg : w.grownBy w' row) (h1 : ∀ j, j < m → ∀ b, (r j).blk = some b → row ≠ some b) (h2 : ∀ j, j < k → ∀ b, (r' j).blk = some b → row ≠ some b) : Sit w' base e es m Z r f k r' F :=
  ⟨fun j hj => (S.own j hj).kept hg (h1 j hj), S.sep, fun j hj => (S.own' j hj).kept hg (h2 j hj), S.sep', S.sep2, fun b hb => ⟨Nat.lt_of_lt_of_le (S.z b hb).1 hg.size, (S.z b hb).2⟩⟩
theorem Sit.alloc (S : Sit w base e es m Z r f k r' F) (o : Obj) : Sit (w.alloc o) base e es m Z r f k r' F :=
  S.kept (World.grownBy_alloc w o none) (fun _ _ _ _ h => by cases h) (fun _ _ _ _ h => by cases h)
theorem Sit.grown (S : Sit w base e es m Z r f k r' F) (hg : w.grownBy w' none) : Sit w' base e es m Z r f k r' F :=
  S.kept hg (fun _ _ _ _ h => by cases h) (fun _ _ _ _ h => by cases h)
theorem cell_setCell_ne {w : World} {g b i j : Nat} (v : Value) (hb : g ≠ b) : (w.setCell ⟨b, i, none⟩ v).cell? ⟨g, j, none⟩ = w.cell? ⟨g, j, none⟩ := by
  refine World.cell?_setCell_other _ _ _ _ (fun e => hb ?_)
  injection e with e1 _
  exact e1.symm
theorem Grew.block {w w' : World} {base es : Nat} {e : TypeId} {x x' : Rw} {m : Nat} {bs news : List Value} (h : Grew w w' base e es x x' m bs news) {b : Nat} (hb : b < w.heap.size) (hx : x.blk ≠ some b) : w'.heap[b]? = w.heap[b]? := by
  rcases h.2.2 with ⟨_, _, g, hg, h⟩ | ⟨_, _, _, h⟩
  · refine h.block b hb fun e => hx ?_
    cases e
    simp [Rw.blk, Rw.v, hg, Value.ownBlock]
  · exact h.block b hb (by simp)
theorem Sit.less (S : Sit w base e es m Z r f k r' F) {Z' : Nat → Prop} (h : ∀ b, Z' b → Z b) : Sit w base e es m Z' r f k r' F := ⟨S.own, S.sep, S.own', S.sep', S.sep2, fun b hb => S.z b (h b hb)⟩
theorem Sit.congr (S : Sit w base e es m Z r f k r' F) {f' : Nat → List Value} (h : ∀ j, j < m → f j = f' j) : Sit w base e es m Z r f' k r' F := ⟨fun j hj => by rw [← h j hj]; exact S.own j hj, S.sep, S.own', S.sep', S.sep2, S.z⟩
theorem Sit.congr' (S : Sit w base e es m Z r f k r' F) {F' : Nat → List Value} (h : ∀ j, j < k → F j = F' j) : Sit w base e es m Z r f k r' F' := ⟨S.own, S.sep, fun j hj => by rw [← h j hj]; exact S.own' j hj, S.sep', S.sep2, S.z⟩
/-- a store into a block of Z -/
theorem Sit.storeZ (S : Sit w base e es m Z r f k r' F) {g : Nat} (hz : Z g) (i : Nat) (v : Value) : Sit (w.setCell ⟨g, i, none⟩ v) base e es m Z r f k r' F :=
  S.kept (grownBy_setCell w g i v) (fun j hj b hb h => (S.z g hz).2.1 j hj (by cases h; exact hb)) (fun j hj b hb h => (S.z g hz).2.2 j hj (by cases h; exact hb))
theorem Sit.drewN (S : Sit w base e es m Z r f k r' F) (q : Nat) : Sit (w.drewN q) base e es m Z r f k r' F := ⟨S.own, S.sep, S.own', S.sep', S.sep2, S.z⟩
theorem Sit.drew (S : Sit w base e es m Z r f k r' F) : Sit w.drew base e es m Z r f k r' F := ⟨S.own, S.sep, S.own', S.sep', S.sep2, S.z⟩
/-- one block more that no row lies in -/
theorem Sit.addZ (S : Sit w base e es m Z r f k r' F) (g : Nat) (h0 : g < w.heap.size) (h1 : ∀ j, j < m → (r j).blk ≠ some g) (h2 : ∀ j, j < k → (r' j).blk ≠ some g) : Sit w base e es m (fun b => Z b ∨ b = g) r f k r' F :=
  ⟨S.own, S.sep, S.own', S.sep', S.sep2, fun b hb => hb.elim (S.z b) (fun h => by subst h; exact ⟨h0, h1, h2⟩)⟩
theorem Sit.lt (S : Sit w base e es m Z r f k r' F) {j : Nat} (hj : j < m) {b : Nat} (hb : (r j).blk = some b) : b < w.heap.size := ((S.own j hj).lt b hb).2
theorem Sit.lt' (S : Sit w base e es m Z r f k r' F) {j : Nat} (hj : j < k) {b : Nat} (hb : (r' j).blk = some b) : b < w.heap.size := ((S.own' j hj).lt b hb).2
/-- an element of a row is written (none of r' is there yet) -/
theorem Sit.store (S : Sit w base e es m Z r f 0 r' F) {j i : Nat} (hj : j < m) (hi : i < (r j).n) (vs : List Value) :
    ∃ g, (r j).A = some ⟨g, 0, none⟩ ∧ base ≤ g ∧ w.there g (i * es) es ∧ (∀ b, Z b → b ≠ g) ∧ Sit (w.setCells g (i * es) vs) base e es m Z r (upd f j (setL (f j) (i * es) vs)) 0 r' F ∧ w.grownBy (w.setCells g (i * es) vs) (some g) := by
  have ho := S.own j hj
  rcases ho.addr with ⟨_, h0, _⟩ | ⟨g, hA, hb, hbase, hlt⟩
  · omega
  have ho2 : w.ownsRow base e es (.slice (some ⟨g, 0, none⟩) (r j).n (r j).c) (r j).n (f j) := by
    have := ho; unfold Rw.own Rw.v at this; rw [hA] at this; exact this
  obtain ⟨hs, hgr⟩ := own_setCells vs (i * es) w _ ho2
  refine ⟨g, hA, hbase, own_there ho2 hi, fun b hz e => (S.z b hz).2.1 j hj (by rw [e]; exact hb), ⟨fun j' hj' => ?_, S.sep, fun j' hj' => absurd hj' (Nat.not_lt_zero _), S.sep', S.sep2, fun b hz => ?_⟩, hgr⟩
  · by_cases e : j' = j
    · subst e
      rw [upd_same]
      unfold Rw.own Rw.v
      rw [hA]
      exact hs
    · rw [upd_other _ _ _ e]
      exact (S.own j' hj').kept hgr (fun b hb' h => S.sep j j' hj hj' (Ne.symm e) g hb (by cases h; exact hb'))
  · have := S.z b hz
    exact ⟨by rw [size_setCells]; exact this.1, this.2⟩

theorem Cur.start (S : Sit w base e es m Z r f k r' F) (hk : k < m) : Cur w base e es m Z r f k r' (r k) (f k) :=
  ⟨S.own k hk, fun j hj hjk b hb => S.sep k j hk hj (Ne.symm hjk) b hb, fun j hj b hb h => S.sep' k j hk hj (by omega) b h hb, fun b hz => (S.z b hz).2.1 k hk,
    fun b _ _ => ⟨rfl, rfl, Nat.le_refl _, by rw [List.take_of_length_le (by rw [(S.own k hk).len]; exact Nat.le_refl _)]⟩⟩
theorem Cur.alloc (C : Cur w base e es m Z r f k r' x bs) (o : Obj) : Cur (w.alloc o) base e es m Z r f k r' x bs :=
  ⟨C.own.kept (World.grownBy_alloc w o none) (fun _ _ h => by cases h), C.sep, C.sep', C.z, C.same⟩
theorem Cur.grown (C : Cur w base e es m Z r f k r' x bs) (hg : w.grownBy w' none) : Cur w' base e es m Z r f k r' x bs :=
  ⟨C.own.kept hg (fun _ _ h => by cases h), C.sep, C.sep', C.z, C.same⟩
theorem Cur.drew (C : Cur w base e es m Z r f k r' x bs) : Cur w.drew base e es m Z r f k r' x bs := ⟨C.own, C.sep, C.sep', C.z, C.same⟩
theorem Cur.grew (S : Sit w base e es m Z r f k r' F) (C : Cur w base e es m Z r f k r' x bs) (hk : k < m) {x' : Rw} {mm : Nat} {news : List Value} (G : Grew w w' base e es x x' mm bs news) :
    Sit w' base e es m Z r f k r' F ∧ Cur w' base e es m Z r f k r' x' (bs ++ news) := by
  obtain ⟨ho, hn, h⟩ := G
  rcases h with ⟨hA, hc, g, hg, hgr⟩ | ⟨g, hg, hge, hgr⟩
  · have hxb : x.blk = some g := by simp [Rw.blk, Rw.v, hg, Value.ownBlock]
    have hxb' : x'.blk = some g := by simp [Rw.blk, Rw.v, hA, hg, Value.ownBlock]
    have hbl := C.own.len
    refine ⟨⟨fun j hj => ?_, S.sep, fun j hj => (S.own' j hj).kept hgr (fun b hb h => by cases h; exact C.sep' j hj g hxb hb), S.sep', S.sep2, fun b hz => ⟨Nat.lt_of_lt_of_le (S.z b hz).1 hgr.size, (S.z b hz).2⟩⟩,
      ⟨ho, fun j hj hjk b hb => C.sep j hj hjk b (by rw [hxb'] at hb; rw [hxb]; exact hb), fun j hj b hb => C.sep' j hj b (by rw [hxb'] at hb; rw [hxb]; exact hb), fun b hz => by rw [hxb', ← hxb]; exact C.z b hz, fun b hb hb' => ?_⟩⟩
    · by_cases hjk : j = k
      · subst hjk
        by_cases hs : (r j).blk = some g
        · obtain ⟨h1, h2, h3, h4⟩ := C.same g hxb hs
          have ho2 : w'.ownsRow base e es (.slice (some ⟨g, 0, none⟩) x'.n x'.c) x'.n (bs ++ news) := by
            have := ho; unfold Rw.own Rw.v at this; rw [hA, hg] at this; exact this
          have ht := own_take ho2 (k := (r j).n) (by omega)
          rw [List.take_append_of_le_length (by rw [hbl]; exact Nat.mul_le_mul_right _ h3), h4, hc, h2] at ht
          unfold Rw.own Rw.v
          rw [← h1, hg]; exact ht
        · exact (S.own j hj).kept hgr (fun b hb h => by cases h; exact hs hb)
      · exact (S.own j hj).kept hgr (fun b hb h => by cases h; exact C.sep j hj hjk g hxb hb)
    · obtain ⟨h1, h2, h3, h4⟩ := C.same b (by rw [hxb'] at hb; rw [hxb]; exact hb) hb'
      exact ⟨hA.trans h1, hc.trans h2, by omega, by rw [List.take_append_of_le_length (by rw [hbl]; exact Nat.mul_le_mul_right _ h3)]; exact h4⟩
  · have hxb' : x'.blk = some g := by simp [Rw.blk, Rw.v, hg, Value.ownBlock]
    refine ⟨S.grown hgr, ⟨ho, fun j hj _ b hb h => ?_, fun j hj b hb h => ?_, fun b hz h => ?_, fun b hb h => ?_⟩⟩
    · have := S.lt hj h; rw [hxb'] at hb; cases hb; omega
    · have := S.lt' hj h; rw [hxb'] at hb; cases hb; omega
    · have := (S.z b hz).1; rw [hxb'] at h; cases h; omega
    · have := S.lt hk h; rw [hxb'] at hb; cases hb; omega
theorem Sit.push (S : Sit w base e es m Z r f k r' F) (C : Cur w base e es m Z r f k r' x bs) : Sit w base e es m Z r f (k + 1) (upd r' k x) (upd F k bs) where
  own := S.own
  sep := S.sep
  own' := fun j hj => by
    by_cases h : j = k
    · subst h; rw [upd_same, upd_same]; exact C.own
    · rw [upd_other _ _ _ h, upd_other _ _ _ h]; exact S.own' j (by omega)
  sep' := fun i j hi hj hij b hb => by
    by_cases h : j = k
    · subst h; rw [upd_same] at hb; exact C.sep i hi hij b hb
    · rw [upd_other _ _ _ h] at hb; exact S.sep' i j hi (by omega) hij b hb
  sep2 := fun i j hi hj hij b hb => by
    by_cases h : j = k
    · subst h
      rw [upd_other _ _ _ hij] at hb
      rw [upd_same]
      exact fun h' => C.sep' i (by omega) b h' hb
    · rw [upd_other _ _ _ h]
      by_cases h' : i = k
      · subst h'; rw [upd_same] at hb; exact C.sep' j (by omega) b hb
      · rw [upd_other _ _ _ h'] at hb; exact S.sep2 i j (by omega) (by omega) hij b hb
  z := fun b hz => ⟨(S.z b hz).1, (S.z b hz).2.1, fun j hj => by
    by_cases h : j = k
    · subst h; rw [upd_same]; exact C.z b hz
    · rw [upd_other _ _ _ h]; exact (S.z b hz).2.2 j (by omega)⟩
/-- the second set forgotten -/
theorem Sit.zero (S : Sit w base e es m Z r f k r' F) : Sit w base e es m Z r f 0 r' F :=
  ⟨S.own, S.sep, fun _ h => absurd h (Nat.not_lt_zero _), fun _ _ _ h => absurd h (Nat.not_lt_zero _), fun _ _ h => absurd h (Nat.not_lt_zero _), fun b hz => ⟨(S.z b hz).1, (S.z b hz).2.1, fun _ h => absurd h (Nat.not_lt_zero _)⟩⟩
/-- an element of a row -/
theorem Sit.at (S : Sit w base e es m Z r f k r' F) {j i : Nat} {vs : List Value} (hj : j < m) (hi : i < (r j).n) (hv : ∀ q u, vs[q]? = some u → (f j)[i * es + q]? = some u) (hl : vs.length = es) : ∃ g, (r j).A = some ⟨g, 0, none⟩ ∧ w.rangeAt g (i * es) vs := by
  have ho := S.own j hj
  rcases ho.addr with ⟨_, h0, _⟩ | ⟨g, hA, hb, hbase, hlt⟩
  · omega
  have ho2 : w.ownsRow base e es (.slice (some ⟨g, 0, none⟩) (r j).n (r j).c) (r j).n (f j) := by
    have := ho; unfold Rw.own Rw.v at this; rw [hA] at this; exact this
  exact ⟨g, hA, own_range ho2 hi hv hl⟩
theorem Sit.at' (S : Sit w base e es m Z r f k r' F) {j i : Nat} {vs : List Value} (hj : j < k) (hi : i < (r' j).n) (hv : ∀ q u, vs[q]? = some u → (F j)[i * es + q]? = some u) (hl : vs.length = es) : ∃ g, (r' j).A = some ⟨g, 0, none⟩ ∧ w.rangeAt g (i * es) vs := by
  have ho := S.own' j hj
  rcases ho.addr with ⟨_, h0, _⟩ | ⟨g, hA, hb, hbase, hlt⟩
  · omega
  have ho2 : w.ownsRow base e es (.slice (some ⟨g, 0, none⟩) (r' j).n (r' j).c) (r' j).n (F j) := by
    have := ho; unfold Rw.own Rw.v at this; rw [hA] at this; exact this
  exact ⟨g, hA, own_range ho2 hi hv hl⟩
end
end Go.Proofs.YtdmpphioflcofaaGreat.K.G
