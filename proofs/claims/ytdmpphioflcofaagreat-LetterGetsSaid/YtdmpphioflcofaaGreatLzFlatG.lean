/- The stages of barbicankit's flat functions, for rows whose elements are of es cells each, mE k i being the mark of place i of row k: after FlatBytes's, made of it by a program and by hand. Plain lemmas over any program. -/
import Derived.Test.YtdmpphioflcofaaGreatLzRowG2
namespace Go.Proofs.YtdmpphioflcofaaGreat.K.G
open Go Go.RowKit

def r0 : Nat → Rw := fun _ => ⟨none, 0, 0⟩
def F0 : Nat → List Value := fun _ => []
/-- the marks of n places of row k -/
def marksE (mE : Int → Int → List Value) (k n : Nat) : List Value := (List.range n).flatMap fun (i : Nat) => mE k i
section
variable {mE : Int → Int → List Value} {es : Nat}
theorem marksE_succ (k n : Nat) : marksE mE k (n + 1) = marksE mE k n ++ mE k n := by simp [marksE, List.range_succ]
theorem marksE_length (hE : ∀ k i, (mE k i).length = es) (k : Nat) : ∀ n, (marksE mE k n).length = n * es
  | 0 => by simp [marksE]
  | n + 1 => by rw [marksE_succ, List.length_append, marksE_length hE k n, hE, Nat.add_mul, Nat.one_mul]
theorem marksE_at (hE : ∀ k i, (mE k i).length = es) {k n i : Nat} (h : i < n) : ∀ q u, (mE k i)[q]? = some u → (marksE mE k n)[i * es + q]? = some u := by
  induction n with
  | zero => omega
  | succ n ih =>
    intro q u hu
    have hq : q < es := by have := (List.getElem?_eq_some_iff.1 hu).1; rw [hE] at this; exact this
    rw [marksE_succ]
    by_cases hn : i < n
    · have hm : (i + 1) * es ≤ n * es := Nat.mul_le_mul_right _ hn
      have hm2 : (i + 1) * es = i * es + es := by rw [Nat.add_mul, Nat.one_mul]
      rw [List.getElem?_append_left (by rw [marksE_length hE]; omega)]
      exact ih hn q u hu
    · obtain rfl : i = n := by omega
      rw [List.getElem?_append_right (by rw [marksE_length hE]; omega), marksE_length hE, show i * es + q - i * es = q by omega]
      exact hu
theorem marksE_left (hE : ∀ k i, (mE k i).length = es) {k n i : Nat} (h : i < n) (l : List Value) : ∀ q u, (mE k i)[q]? = some u → (marksE mE k n ++ l)[i * es + q]? = some u := fun q u hu => by
  have h2 := marksE_at hE h q u hu
  rw [List.getElem?_append_left (List.getElem?_eq_some_iff.1 h2).1]
  exact h2
theorem marksE_one (hone : ∀ k i, ∀ u ∈ mE k i, u.oneCell' = true) (k n : Nat) : ∀ u ∈ marksE mE k n, u.oneCell' = true := fun u hu => by
  obtain ⟨i, _, h⟩ := List.mem_flatMap.1 hu
  exact hone _ _ u h
end
theorem below_grown {w w' : World} (h : Below w.heap.size w w') : w.grownBy w' none := ⟨h.os, h.tape, h.output, h.size, fun k hk _ => h.block k hk⟩

def Ph1 (mE : Int → Int → List Value) (K : Nat → Prop) (base e es m L : Nat) (r : Nat → Rw) (w0 wr : World) (k : Nat) : Prop := ∃ f, Sit wr base e es m K r f 0 r0 F0 ∧ (∀ j, j < k → f j = marksE mE j (r j).n) ∧ (∀ j, j < m → wr.cell? ⟨L, j, none⟩ = some (r j).v) ∧ Below base w0 wr ∧ base ≤ w0.heap.size ∧ K L ∧ ∀ b, K b → wr.heap[b]? = w0.heap[b]?
def Ph1i (mE : Int → Int → List Value) (K : Nat → Prop) (base e es m L : Nat) (r : Nat → Rw) (w0 wr : World) (k i : Nat) : Prop := ∃ f, Sit wr base e es m K r f 0 r0 F0 ∧ (∀ j, j < k → f j = marksE mE j (r j).n) ∧ (f k).take (i * es) = marksE mE k i ∧ (∀ j, j < m → wr.cell? ⟨L, j, none⟩ = some (r j).v) ∧ Below base w0 wr ∧ base ≤ w0.heap.size ∧ K L ∧ ∀ b, K b → wr.heap[b]? = w0.heap[b]?
section
variable {mE : Int → Int → List Value} {K : Nat → Prop} {base e es m L : Nat} {r : Nat → Rw} {w0 wr : World} {k i : Nat}
theorem Ph1.start (h : Ph1 mE K base e es m L r w0 wr k) : Ph1i mE K base e es m L r w0 wr k 0 := by
  obtain ⟨f, h1, h2, h3, h4, h6, h7, h8⟩ := h
  exact ⟨f, h1, h2, by simp [marksE], h3, h4, h6, h7, h8⟩
theorem Ph1i.done (h : Ph1i mE K base e es m L r w0 wr k (r k).n) (hk : k < m) : Ph1 mE K base e es m L r w0 wr (k + 1) := by
  obtain ⟨f, h1, h2, h3, h4, h5, h6, h7, h8⟩ := h
  refine ⟨f, h1, fun j hj => ?_, h4, h5, h6, h7, h8⟩
  by_cases e : j = k
  · subst e
    rw [← h3, List.take_of_length_le (by rw [(h1.own j hk).len]; exact Nat.le_refl _)]
  · exact h2 j (by omega)
theorem Ph1i.step (hE : ∀ k i, (mE k i).length = es) (h : Ph1i mE K base e es m L r w0 wr k i) (hk : k < m) (hi : i < (r k).n) : ∃ g, (r k).A = some ⟨g, 0, none⟩ ∧ wr.there g (i * es) es ∧ Ph1i mE K base e es m L r w0 (wr.setCells g (i * es) (mE k i)) k (i + 1) := by
  obtain ⟨f, h1, h2, h3, h4, h5, h6, h7, h8⟩ := h
  obtain ⟨g, hA, hb, hth, hz, hS, hgr⟩ := h1.store hk hi (mE k i)
  have hl := (h1.own k hk).len
  have hle : (i + 1) * es ≤ (f k).length := by rw [hl]; exact Nat.mul_le_mul_right _ hi
  refine ⟨g, hA, hth, _, hS, fun j hj => ?_, ?_, fun j hj => ?_, h5.grown hgr (Nat.le_trans h6 h5.size) (fun k hk => by cases hk; exact hb), h6, h7, fun b hK => (heap_setCells_other g _ _ wr b (hz b hK)).trans (h8 b hK)⟩
  · rw [upd_other _ _ _ (by omega)]; exact h2 j hj
  · rw [upd_same, setL_take_succ (hE k i) hle, h3, marksE_succ]
  · exact (World.cell?_of_block (heap_setCells_other g _ _ wr L (hz L h7))).trans (h4 j hj)
theorem Ph1i.grown {w' : World} (h : Ph1i mE K base e es m L r w0 wr k i) (hg : wr.grownBy w' none) : Ph1i mE K base e es m L r w0 w' k i := by
  obtain ⟨f, h1, h2, h3, h4, h5, h6, h7, h8⟩ := h
  exact ⟨f, h1.grown hg, h2, h3, fun j hj => hg.cell (h4 j hj) (by simp), h5.grown hg (Nat.le_trans h6 h5.size) (fun _ h => by cases h), h6, h7, fun b hK => (hg.block b (h1.z b hK).1 (by simp)).trans (h8 b hK)⟩
theorem Ph1i.drew (h : Ph1i mE K base e es m L r w0 wr k i) : Ph1i mE K base e es m L r w0 wr.drew k i := by
  obtain ⟨f, h1, h2, h3, h4, h5, h6, h7, h8⟩ := h
  exact ⟨f, h1.drew, h2, h3, h4, h5.drew, h6, h7, h8⟩
end

/-- the marks of the rows -/
def mk (mE : Int → Int → List Value) (r : Nat → Rw) (j : Nat) : List Value := marksE mE j (r j).n
/-- k rows have been grown by 64 and lie in the list G -/
structure Gs (mE : Int → Int → List Value) (K : Nat → Prop) (base e es t2 m L G : Nat) (r : Nat → Rw) (F : Nat → List Value) (w0 wr : World) (k : Nat) (r' : Nat → Rw) (gl : List Value) : Prop where
  sit : Sit wr base e es m (fun b => K b ∨ b = G) r (mk mE r) k r' F
  n : ∀ j, j < k → (r' j).n = (r j).n + 64
  own : wr.ownsRow G t2 1 (.slice (some ⟨G, 0, none⟩) m m) m gl
  pos : ∀ j, j < k → gl[j]? = some (r' j).v
  l : ∀ j, j < m → wr.cell? ⟨L, j, none⟩ = some (r j).v
  bel : Below base w0 wr
  kl : K L
  ne : ∀ b, K b → b ≠ G
  kp : ∀ b, K b → wr.heap[b]? = w0.heap[b]?
  gb : base ≤ G
  bas0 : base ≤ w0.heap.size
def PhG (mE : Int → Int → List Value) (K : Nat → Prop) (base e es t2 m L G : Nat) (r : Nat → Rw) (F : Nat → List Value) (w0 wr : World) (k : Nat) : Prop := ∃ r' gl, Gs mE K base e es t2 m L G r F w0 wr k r' gl
/-- and the next one is being grown: x reads bs -/
def PhGi (mE : Int → Int → List Value) (K : Nat → Prop) (base e es t2 m L G : Nat) (r : Nat → Rw) (F : Nat → List Value) (w0 wr : World) (k : Nat) (x : Rw) (bs : List Value) : Prop :=
  ∃ r' gl, Gs mE K base e es t2 m L G r F w0 wr k r' gl ∧ Cur wr base e es m (fun b => K b ∨ b = G) r (mk mE r) k r' x bs
/-- and a block M of marks lies by -/
def PhM (mE : Int → Int → List Value) (K : Nat → Prop) (base e es t2 m L G M : Nat) (r : Nat → Rw) (F : Nat → List Value) (w0 wr : World) (k q : Nat) : Prop :=
  ∃ r' gl bs, Gs mE K base e es t2 m L G r F w0 wr k r' gl ∧ Sit wr base e es m (fun b => (K b ∨ b = G) ∨ b = M) r (mk mE r) k r' F ∧ (∀ b, K b → b ≠ M) ∧ M ≠ G ∧ base ≤ M ∧ wr.ownsRow M e es (.slice (some ⟨M, 0, none⟩) 64 64) 64 bs ∧ bs.take (q * es) = marksE mE (k + m) q
section
variable {mE : Int → Int → List Value} {K : Nat → Prop} {base e es t2 m L G M q : Nat} {r : Nat → Rw} {F : Nat → List Value} {w0 wr w' : World} {k : Nat} {x x' : Rw} {bs news : List Value}
theorem Ph1.made (h : Ph1 mE K base e es m L r w0 wr m) {gl : List Value} (hg : wr.grownBy w' none) (ho : w'.ownsRow wr.heap.size t2 1 (.slice (some ⟨wr.heap.size, 0, none⟩) m m) m gl) : PhG mE K base e es t2 m L wr.heap.size r F w0 w' 0 := by
  obtain ⟨f, h1, h2, h3, h4, h6, h7, h8⟩ := h
  have hbs : base ≤ wr.heap.size := Nat.le_trans h6 h4.size
  have hlt : wr.heap.size < w'.heap.size := (ho.lt _ rfl).2
  refine ⟨r0, gl, ?_, fun _ h => absurd h (Nat.not_lt_zero _), ho, fun _ h => absurd h (Nat.not_lt_zero _), fun j hj => ?_, h4.grown hg hbs (fun _ h => by cases h), h7, fun b hK => by have := (h1.z b hK).1; omega, fun b hK => (hg.block b (h1.z b hK).1 (by simp)).trans (h8 b hK), hbs, h6⟩
  · have S := (h1.congr h2).grown hg
    exact (S.addZ wr.heap.size hlt (fun j hj h => by have := h1.lt hj h; omega) (fun _ h => absurd h (Nat.not_lt_zero _))).congr' fun _ h => absurd h (Nat.not_lt_zero _)
  · exact hg.cell (h3 j hj) (by simp)
theorem Gs.bas {r' : Nat → Rw} {gl : List Value} (h : Gs mE K base e es t2 m L G r F w0 wr k r' gl) : base ≤ wr.heap.size := Nat.le_trans h.bas0 h.bel.size
theorem Gs.grown {r' : Nat → Rw} {gl : List Value} (h : Gs mE K base e es t2 m L G r F w0 wr k r' gl) (hg : wr.grownBy w' none) : Gs mE K base e es t2 m L G r F w0 w' k r' gl :=
  ⟨h.sit.grown hg, h.n, h.own.kept hg (.inr (by simp [Value.ownBlock])), h.pos, fun j hj => hg.cell (h.l j hj) (by simp), h.bel.grown hg h.bas (fun _ h => by cases h), h.kl, h.ne, fun b hK => (hg.block b (h.sit.z b (.inl hK)).1 (by simp)).trans (h.kp b hK), h.gb, h.bas0⟩
theorem PhG.grown (h : PhG mE K base e es t2 m L G r F w0 wr k) (hg : wr.grownBy w' none) : PhG mE K base e es t2 m L G r F w0 w' k := by
  obtain ⟨r', gl, h⟩ := h
  exact ⟨r', gl, h.grown hg⟩
theorem PhG.zero (h : PhG mE K base e es t2 m L G r F w0 wr k) (F' : Nat → List Value) : PhG mE K base e es t2 m L G r F' w0 wr 0 := by
  obtain ⟨r', gl, h⟩ := h
  exact ⟨r', gl, h.sit.zero.congr' fun _ h => absurd h (Nat.not_lt_zero _), fun _ h => absurd h (Nat.not_lt_zero _), h.own, fun _ h => absurd h (Nat.not_lt_zero _), h.l, h.bel, h.kl, h.ne, h.kp, h.gb, h.bas0⟩
theorem PhG.drewN (h : PhG mE K base e es t2 m L G r F w0 wr k) (n : Nat) : PhG mE K base e es t2 m L G r F w0 (wr.drewN n) k := by
  obtain ⟨r', gl, h⟩ := h
  exact ⟨r', gl, h.sit.drewN n, h.n, h.own, h.pos, h.l, below_drewN h.bel n, h.kl, h.ne, h.kp, h.gb, h.bas0⟩
theorem PhG.start (h : PhG mE K base e es t2 m L G r F w0 wr k) (hk : k < m) : PhGi mE K base e es t2 m L G r F w0 wr k (r k) (mk mE r k) := by
  obtain ⟨r', gl, h⟩ := h
  exact ⟨r', gl, h, Cur.start h.sit hk⟩
theorem PhGi.own (h : PhGi mE K base e es t2 m L G r F w0 wr k x bs) : x.own wr base e es bs := by
  obtain ⟨_, _, _, C⟩ := h
  exact C.own
theorem PhGi.grown (h : PhGi mE K base e es t2 m L G r F w0 wr k x bs) (hg : wr.grownBy w' none) : PhGi mE K base e es t2 m L G r F w0 w' k x bs := by
  obtain ⟨r', gl, h, C⟩ := h
  exact ⟨r', gl, h.grown hg, C.grown hg⟩
theorem PhGi.alloc (h : PhGi mE K base e es t2 m L G r F w0 wr k x bs) (o : Obj) : PhGi mE K base e es t2 m L G r F w0 (wr.alloc o) k x bs := h.grown (World.grownBy_alloc wr o none)
theorem PhGi.size (h : PhGi mE K base e es t2 m L G r F w0 wr k x bs) : base ≤ wr.heap.size := by
  obtain ⟨_, _, h, _⟩ := h
  exact h.bas
theorem PhGi.l (h : PhGi mE K base e es t2 m L G r F w0 wr k x bs) {j : Nat} (hj : j < m) : wr.cell? ⟨L, j, none⟩ = some (r j).v := by
  obtain ⟨_, _, h, _⟩ := h
  exact h.l j hj
theorem PhGi.grew (h : PhGi mE K base e es t2 m L G r F w0 wr k x bs) (hk : k < m) {mm : Nat} (hG : Grew wr w' base e es x x' mm bs news) : PhGi mE K base e es t2 m L G r F w0 w' k x' (bs ++ news) := by
  obtain ⟨r', gl, h, C⟩ := h
  obtain ⟨S', C'⟩ := C.grew h.sit hk hG
  have hGz := C.z G (.inr rfl)
  have hLz := C.z L (.inl h.kl)
  refine ⟨r', gl, ⟨S', h.n, ?_, h.pos, fun j hj => ?_, hG.below C.own (Nat.le_refl _) h.bas h.bel, h.kl, h.ne, fun b hK => (hG.block (h.sit.z b (.inl hK)).1 (C.z b (.inl hK))).trans (h.kp b hK), h.gb, h.bas0⟩, C'⟩
  · rcases hG.2.2 with ⟨_, _, g, hg, hgr⟩ | ⟨_, _, _, hgr⟩
    · exact h.own.kept hgr (.inr fun e => hGz (by simp [Value.ownBlock] at e; simp [Rw.blk, Rw.v, hg, Value.ownBlock, e]))
    · exact h.own.kept hgr (.inr (by simp [Value.ownBlock]))
  · exact (World.cell?_of_block (hG.block (b := L) (h.sit.z L (.inl h.kl)).1 hLz)).trans (h.l j hj)
theorem PhGi.place (h : PhGi mE K base e es t2 m L G r F w0 wr k x bs) (hk : k < m) : (∃ v, wr.cell? ⟨G, k, none⟩ = some v) ∧ wr.frozen? ⟨G, k, none⟩ = false := by
  obtain ⟨r', gl, h, C⟩ := h
  have hgl : gl.length = m := by have := h.own.1; omega
  exact ⟨⟨gl[k], by rw [h.own.cellAt k (by omega)]; simp [hgl, hk]⟩, h.own.frozenAt k⟩
theorem PhGi.push (h : PhGi mE K base e es t2 m L G r F w0 wr k x bs) (hk : k < m) (hn : x.n = (r k).n + 64) (hb : bs = F k) : PhG mE K base e es t2 m L G r F w0 (wr.setCell ⟨G, k, none⟩ x.v) (k + 1) := by
  obtain ⟨r', gl, h, C⟩ := h
  have hgl : gl.length = m := by have := h.own.1; omega
  refine ⟨upd r' k x, gl.set k x.v, ⟨?_, fun j hj => ?_, (h.own.stored k x.v).1, fun j hj => ?_, fun j hj => ?_, h.bel.setCell h.gb _, h.kl, h.ne, fun b hK => (heap_setCell_other wr ⟨G, k, none⟩ b _ (h.ne b hK)).trans (h.kp b hK), h.gb, h.bas0⟩⟩
  · have S := (h.sit.push C).storeZ (g := G) (.inr rfl) k x.v
    refine S.congr' fun j hj => ?_
    by_cases e : j = k
    · subst e; rw [upd_same]; exact hb
    · rw [upd_other _ _ _ e]
  · by_cases e : j = k
    · subst e; rw [upd_same]; exact hn
    · rw [upd_other _ _ _ e]; exact h.n j (by omega)
  · by_cases e : j = k
    · subst e
      rw [upd_same, List.getElem?_set_self (by omega)]
    · rw [upd_other _ _ _ e, List.getElem?_set_ne (Ne.symm e)]; exact h.pos j (by omega)
  · rw [cell_setCell_ne _ (h.ne L h.kl)]; exact h.l j hj
theorem PhG.gcell (h : PhG mE K base e es t2 m L G r F w0 wr k) {j : Nat} (hj : j < k) (hk : k ≤ m) : ∃ A c, wr.cell? ⟨G, j, none⟩ = some (.slice A ((r j).n + 64) c) ∧ ∀ i vs, i < (r j).n + 64 → (∀ q u, vs[q]? = some u → (F j)[i * es + q]? = some u) → vs.length = es → ∃ g, A = some ⟨g, 0, none⟩ ∧ wr.rangeAt g (i * es) vs := by
  obtain ⟨r', gl, h⟩ := h
  refine ⟨(r' j).A, (r' j).c, ?_, fun i vs hi hv hl => h.sit.at' hj (by rw [h.n j hj]; exact hi) hv hl⟩
  rw [h.own.cellAt j (by omega), h.pos j hj, Rw.v, h.n j hj]
theorem PhG.lcell (hE : ∀ k i, (mE k i).length = es) (h : PhG mE K base e es t2 m L G r F w0 wr k) {j : Nat} (hj : j < m) : wr.cell? ⟨L, j, none⟩ = some (r j).v ∧ ∀ i, i < (r j).n → ∃ g, (r j).A = some ⟨g, 0, none⟩ ∧ wr.rangeAt g (i * es) (mE j i) := by
  obtain ⟨r', gl, h⟩ := h
  exact ⟨h.l j hj, fun i hi => h.sit.at hj hi (marksE_at hE hi) (hE _ _)⟩
theorem PhG.drew (h : PhG mE K base e es t2 m L G r F w0 wr k) : PhG mE K base e es t2 m L G r F w0 wr.drew k := by
  obtain ⟨r', gl, h⟩ := h
  exact ⟨r', gl, h.sit.drew, h.n, h.own, h.pos, h.l, ⟨h.bel.os, h.bel.tape, h.bel.output, h.bel.size, h.bel.block⟩, h.kl, h.ne, h.kp, h.gb, h.bas0⟩
theorem PhG.below (h : PhG mE K base e es t2 m L G r F w0 wr k) : Below base w0 wr := by
  obtain ⟨_, _, h⟩ := h
  exact h.bel
theorem PhG.kept (h : PhG mE K base e es t2 m L G r F w0 wr k) : ∀ b, K b → wr.heap[b]? = w0.heap[b]? := by
  obtain ⟨_, _, h⟩ := h
  exact h.kp
theorem PhG.mark (h : PhG mE K base e es t2 m L G r F w0 wr k) {b0 : List Value} (hg : wr.grownBy w' none) (ho : w'.ownsRow wr.heap.size e es (.slice (some ⟨wr.heap.size, 0, none⟩) 64 64) 64 b0) : PhM mE K base e es t2 m L G wr.heap.size r F w0 w' k 0 := by
  obtain ⟨r', gl, h⟩ := h
  have hlt : wr.heap.size < w'.heap.size := (ho.lt _ rfl).2
  have h1 := (h.sit.z L (.inl h.kl)).1
  have h2 := (h.sit.z G (.inr rfl)).1
  refine ⟨r', gl, b0, h.grown hg, (h.sit.grown hg).addZ wr.heap.size hlt (fun j hj h' => by have := h.sit.lt hj h'; omega) (fun j hj h' => by have := h.sit.lt' hj h'; omega), fun b hK => by have := (h.sit.z b (.inl hK)).1; omega, by omega, h.bas, ho, by simp [marksE]⟩
theorem PhM.grown (h : PhM mE K base e es t2 m L G M r F w0 wr k q) (hg : wr.grownBy w' none) : PhM mE K base e es t2 m L G M r F w0 w' k q := by
  obtain ⟨r', gl, bs, h, S, h1, h2, h3, h4, h5⟩ := h
  exact ⟨r', gl, bs, h.grown hg, S.grown hg, h1, h2, h3, h4.kept hg (.inr (by simp [Value.ownBlock])), h5⟩
theorem PhM.step (hE : ∀ k i, (mE k i).length = es) (h : PhM mE K base e es t2 m L G M r F w0 wr k q) (hq : q < 64) : wr.there M (q * es) es ∧ PhM mE K base e es t2 m L G M r F w0 (wr.setCells M (q * es) (mE ((k + m : Nat)) q)) k (q + 1) := by
  obtain ⟨r', gl, bs, h, S, h1, h2, h3, h4, h5⟩ := h
  have hl : bs.length = 64 * es := h4.1
  have hle : (q + 1) * es ≤ bs.length := by rw [hl]; exact Nat.mul_le_mul_right _ hq
  obtain ⟨ho, hgr⟩ := own_setCells (mE ((k + m : Nat)) q) (q * es) wr _ h4
  have hS : Sit (wr.setCells M (q * es) (mE ((k + m : Nat)) q)) base e es m (fun b => (K b ∨ b = G) ∨ b = M) r (mk mE r) k r' F :=
    S.kept hgr (fun j hj b hb h => (S.z M (.inr rfl)).2.1 j hj (by cases h; exact hb)) (fun j hj b hb h => (S.z M (.inr rfl)).2.2 j hj (by cases h; exact hb))
  refine ⟨own_there h4 hq, r', gl, setL bs (q * es) (mE ((k + m : Nat)) q), ⟨hS.less fun b hb => .inl hb, h.n, ?_, h.pos, fun j hj => ?_, h.bel.grown hgr h.bas (fun k hk => by cases hk; exact h3), h.kl, h.ne, fun b hK => (heap_setCells_other M _ _ wr b (h1 b hK)).trans (h.kp b hK), h.gb, h.bas0⟩, hS, h1, h2, h3, ho, ?_⟩
  · exact h.own.kept hgr (.inr (by simp [Value.ownBlock]; exact Ne.symm h2))
  · exact (World.cell?_of_block (heap_setCells_other M _ _ wr L (h1 L h.kl))).trans (h.l j hj)
  · rw [setL_take_succ (hE _ _) hle, h5, marksE_succ]
theorem PhM.g (h : PhM mE K base e es t2 m L G M r F w0 wr k q) : PhG mE K base e es t2 m L G r F w0 wr k := by
  obtain ⟨r', gl, bs, h, _⟩ := h
  exact ⟨r', gl, h⟩
theorem PhM.cells (h : PhM mE K base e es t2 m L G M r F w0 wr k 64) : ∀ j u, (marksE mE (k + m) 64)[j]? = some u → wr.cell? ((⟨M, 0, none⟩ : Addr).add j) = some u := by
  obtain ⟨r', gl, bs, h, S, h1, h2, h3, h4, h5⟩ := h
  have hl : bs.length = 64 * es := h4.1
  rw [← h5, List.take_of_length_le (by omega)]
  intro j u hu
  have hj : j < 64 * es := by have := (List.getElem?_eq_some_iff.1 hu).1; omega
  rw [Addr.add_lit, Nat.zero_add, h4.cellAt j hj, hu]
end
end Go.Proofs.YtdmpphioflcofaaGreat.K.G
