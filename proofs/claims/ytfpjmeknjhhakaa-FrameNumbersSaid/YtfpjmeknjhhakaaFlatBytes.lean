/- The contract of barbicankit.flatBytes: rows that lie apart are told to. -/
import Derived.Test.YtfpjmeknjhhakaaRowSet
import Derived.Test.YtfpjmeknjhhakaaLent
namespace Go.Proofs.Ytfpjmeknjhhakaa.K
open Go Go.RowKit

theorem infoBytes : (Try.prog.info? 27).map (fun i => (i.zero, i.size, i.bytes)) = some (some (.slice none 0 0), 1, 24) := by kernel_rfl
def r0 : Nat → Rw := fun _ => ⟨none, 0, 0⟩
def F0 : Nat → List (BitVec 8) := fun _ => []
theorem st_same {P : Program} {f : FuncId} {args : Array Value} {w : World} {v : Value} (h : Calls P f args w fun e w' => e = .returned v ∧ w = w') : Calls P f args w fun e w'' => e = .returned v ∧ w'' = w :=
  h.mono fun _ _ ⟨he, hm⟩ => ⟨he, hm.symm⟩
theorem marks_take (k n i : Nat) (h : i ≤ n) : (marks k 0 n).take i = marks k 0 i := by
  apply List.ext_getElem?
  intro j
  simp only [marks, List.getElem?_take, List.getElem?_map, List.getElem?_range']
  by_cases hj : j < i
  · simp [hj, show j < n by omega]
  · simp [hj]
theorem marks_at (k n i : Nat) (h : i < n) : (marks k 0 n).getD i 0 = markB k (i : Nat) := by
  simp [marks, h]

theorem getD_left (a b : List (BitVec 8)) {i : Nat} (h : i < a.length) : (a ++ b).getD i 0 = a.getD i 0 := by
  simp [List.getElem?_append_left h]
theorem made64 {w : World} {base : Nat} {e : TypeId} {v : Value} (h : w.ownsRow base e 1 v 64 (madeCells (Value.int .u8 0).cells (64 * 1)).toList) : w.ownsRow base e 1 v 64 (bv (List.replicate 64 0#8)) := by
  have e1 : (madeCells (Value.int .u8 0).cells (64 * 1)).toList = bv (List.replicate 64 0#8) := by
    rw [show (Value.int IntKind.u8 0).cells = #[Value.int .u8 0] from rfl, toList_madeCells_one]
    simp [bv, B8]
  rw [e1] at h; exact h
def Ph1 (K : Nat → Prop) (base e m L : Nat) (r : Nat → Rw) (w0 wr : World) (k : Nat) : Prop := ∃ f, Sit wr base e m K r f 0 r0 F0 ∧ (∀ j, j < k → f j = marks j 0 (r j).n) ∧ (∀ j, j < m → wr.cell? ⟨L, j, none⟩ = some (r j).v) ∧ Below base w0 wr ∧ base ≤ w0.heap.size ∧ K L ∧ ∀ b, K b → wr.heap[b]? = w0.heap[b]?
def Ph1i (K : Nat → Prop) (base e m L : Nat) (r : Nat → Rw) (w0 wr : World) (k i : Nat) : Prop := ∃ f, Sit wr base e m K r f 0 r0 F0 ∧ (∀ j, j < k → f j = marks j 0 (r j).n) ∧ (f k).take i = marks k 0 i ∧ (∀ j, j < m → wr.cell? ⟨L, j, none⟩ = some (r j).v) ∧ Below base w0 wr ∧ base ≤ w0.heap.size ∧ K L ∧ ∀ b, K b → wr.heap[b]? = w0.heap[b]?
section
variable {K : Nat → Prop} {base e m L : Nat} {r : Nat → Rw} {w0 wr : World} {k i : Nat}
theorem Ph1.start (h : Ph1 K base e m L r w0 wr k) : Ph1i K base e m L r w0 wr k 0 := by
  obtain ⟨f, h1, h2, h3, h4, h6, h7, h8⟩ := h
  exact ⟨f, h1, h2, by simp [marks], h3, h4, h6, h7, h8⟩
theorem Ph1i.done (h : Ph1i K base e m L r w0 wr k (r k).n) (hk : k < m) : Ph1 K base e m L r w0 wr (k + 1) := by
  obtain ⟨f, h1, h2, h3, h4, h5, h6, h7, h8⟩ := h
  refine ⟨f, h1, fun j hj => ?_, h4, h5, h6, h7, h8⟩
  by_cases e : j = k
  · subst e
    rw [← h3, List.take_of_length_le (by rw [(h1.own j hk).len]; exact Nat.le_refl _)]
  · exact h2 j (by omega)
theorem Ph1i.step (h : Ph1i K base e m L r w0 wr k i) (hk : k < m) (hi : i < (r k).n) : ∃ g x, (r k).A = some ⟨g, 0, none⟩ ∧ wr.cell? ⟨g, i, none⟩ = some (B8 x) ∧ wr.frozen? ⟨g, i, none⟩ = false ∧ Ph1i K base e m L r w0 (wr.setCell ⟨g, i, none⟩ (B8 (markB k i))) k (i + 1) := by
  obtain ⟨f, h1, h2, h3, h4, h5, h6, h7, h8⟩ := h
  obtain ⟨g, hA, hb, hc, hf, hz, hS⟩ := h1.store hk hi (markB k i)
  have hl := (h1.own k hk).len
  refine ⟨g, _, hA, hc, hf, _, hS, fun j hj => ?_, ?_, fun j hj => ?_, h5.setCell hb _, h6, h7, fun b hK => (heap_setCell_other wr ⟨g, i, none⟩ b _ (hz b hK)).trans (h8 b hK)⟩
  · rw [upd_other _ _ _ (by omega)]; exact h2 j hj
  · rw [upd_same, marks_succ, ← h3, Nat.zero_add, List.take_succ_eq_append_getElem (by rw [List.length_set]; omega), List.getElem_set_self, List.take_set_of_le (by omega)]
  · rw [cell_setCell_ne _ (hz L h7)]
    exact h4 j hj
theorem Ph1i.drew (h : Ph1i K base e m L r w0 wr k i) : Ph1i K base e m L r w0 wr.drew k i := by
  obtain ⟨f, h1, h2, h3, h4, h5, h6, h7, h8⟩ := h
  exact ⟨f, h1.drew, h2, h3, h4, h5.drew, h6, h7, h8⟩
end

/-- the marks of the rows -/
def mk (r : Nat → Rw) (j : Nat) : List (BitVec 8) := marks j 0 (r j).n
/-- k rows have been grown by 64 and lie in the list G -/
structure Gs (K : Nat → Prop) (base e es m L G : Nat) (r : Nat → Rw) (F : Nat → List (BitVec 8)) (w0 wr : World) (k : Nat) (r' : Nat → Rw) (gl : List Value) : Prop where
  sit : Sit wr base e m (fun b => K b ∨ b = G) r (mk r) k r' F
  n : ∀ j, j < k → (r' j).n = (r j).n + 64
  own : wr.ownsRow G es 1 (.slice (some ⟨G, 0, none⟩) m m) m gl
  pos : ∀ j, j < k → gl[j]? = some (r' j).v
  l : ∀ j, j < m → wr.cell? ⟨L, j, none⟩ = some (r j).v
  bel : Below base w0 wr
  kl : K L
  ne : ∀ b, K b → b ≠ G
  kp : ∀ b, K b → wr.heap[b]? = w0.heap[b]?
  gb : base ≤ G
  bas0 : base ≤ w0.heap.size
def PhG (K : Nat → Prop) (base e es m L G : Nat) (r : Nat → Rw) (F : Nat → List (BitVec 8)) (w0 wr : World) (k : Nat) : Prop := ∃ r' gl, Gs K base e es m L G r F w0 wr k r' gl
/-- and the next one is being grown: x reads bs -/
def PhGi (K : Nat → Prop) (base e es m L G : Nat) (r : Nat → Rw) (F : Nat → List (BitVec 8)) (w0 wr : World) (k : Nat) (x : Rw) (bs : List (BitVec 8)) : Prop :=
  ∃ r' gl, Gs K base e es m L G r F w0 wr k r' gl ∧ Cur wr base e m (fun b => K b ∨ b = G) r (mk r) k r' x bs
/-- and a block M of marks lies by -/
def PhM (K : Nat → Prop) (base e es m L G M : Nat) (r : Nat → Rw) (F : Nat → List (BitVec 8)) (w0 wr : World) (k q : Nat) : Prop :=
  ∃ r' gl bs, Gs K base e es m L G r F w0 wr k r' gl ∧ Sit wr base e m (fun b => (K b ∨ b = G) ∨ b = M) r (mk r) k r' F ∧ (∀ b, K b → b ≠ M) ∧ M ≠ G ∧ base ≤ M ∧ wr.ownsRow M e 1 (.slice (some ⟨M, 0, none⟩) 64 64) 64 (bv bs) ∧ bs.take q = marks (k + m) 0 q
section
variable {K : Nat → Prop} {base e es m L G M q : Nat} {r : Nat → Rw} {F : Nat → List (BitVec 8)} {w0 wr w' : World} {k : Nat} {x x' : Rw} {bs news : List (BitVec 8)}
theorem Ph1.made (h : Ph1 K base e m L r w0 wr m) {gl : List Value} (hg : wr.grownBy w' none) (ho : w'.ownsRow wr.heap.size es 1 (.slice (some ⟨wr.heap.size, 0, none⟩) m m) m gl) : PhG K base e es m L wr.heap.size r F w0 w' 0 := by
  obtain ⟨f, h1, h2, h3, h4, h6, h7, h8⟩ := h
  have hbs : base ≤ wr.heap.size := Nat.le_trans h6 h4.size
  have hlt : wr.heap.size < w'.heap.size := (ho.lt _ rfl).2
  refine ⟨r0, gl, ?_, fun _ h => absurd h (Nat.not_lt_zero _), ho, fun _ h => absurd h (Nat.not_lt_zero _), fun j hj => ?_, h4.grown hg hbs (fun _ h => by cases h), h7, fun b hK => by have := (h1.z b hK).1; omega, fun b hK => (hg.block b (h1.z b hK).1 (by simp)).trans (h8 b hK), hbs, h6⟩
  · have S := (h1.congr h2).grown hg
    exact (S.addZ wr.heap.size hlt (fun j hj h => by have := h1.lt hj h; omega) (fun _ h => absurd h (Nat.not_lt_zero _))).congr' fun _ h => absurd h (Nat.not_lt_zero _)
  · exact hg.cell (h3 j hj) (by simp)
theorem Gs.bas {r' : Nat → Rw} {gl : List Value} (h : Gs K base e es m L G r F w0 wr k r' gl) : base ≤ wr.heap.size := Nat.le_trans h.bas0 h.bel.size
theorem Gs.grown {r' : Nat → Rw} {gl : List Value} (h : Gs K base e es m L G r F w0 wr k r' gl) (hg : wr.grownBy w' none) : Gs K base e es m L G r F w0 w' k r' gl :=
  ⟨h.sit.grown hg, h.n, h.own.kept hg (.inr (by simp [Value.ownBlock])), h.pos, fun j hj => hg.cell (h.l j hj) (by simp), h.bel.grown hg h.bas (fun _ h => by cases h), h.kl, h.ne, fun b hK => (hg.block b (h.sit.z b (.inl hK)).1 (by simp)).trans (h.kp b hK), h.gb, h.bas0⟩
theorem PhG.grown (h : PhG K base e es m L G r F w0 wr k) (hg : wr.grownBy w' none) : PhG K base e es m L G r F w0 w' k := by
  obtain ⟨r', gl, h⟩ := h
  exact ⟨r', gl, h.grown hg⟩
theorem PhG.zero (h : PhG K base e es m L G r F w0 wr k) (F' : Nat → List (BitVec 8)) : PhG K base e es m L G r F' w0 wr 0 := by
  obtain ⟨r', gl, h⟩ := h
  exact ⟨r', gl, h.sit.zero.congr' fun _ h => absurd h (Nat.not_lt_zero _), fun _ h => absurd h (Nat.not_lt_zero _), h.own, fun _ h => absurd h (Nat.not_lt_zero _), h.l, h.bel, h.kl, h.ne, h.kp, h.gb, h.bas0⟩
theorem PhG.drewN (h : PhG K base e es m L G r F w0 wr k) (n : Nat) : PhG K base e es m L G r F w0 (wr.drewN n) k := by
  obtain ⟨r', gl, h⟩ := h
  exact ⟨r', gl, h.sit.drewN n, h.n, h.own, h.pos, h.l, below_drewN h.bel n, h.kl, h.ne, h.kp, h.gb, h.bas0⟩
theorem PhG.start (h : PhG K base e es m L G r F w0 wr k) (hk : k < m) : PhGi K base e es m L G r F w0 wr k (r k) (mk r k) := by
  obtain ⟨r', gl, h⟩ := h
  exact ⟨r', gl, h, Cur.start h.sit hk⟩
theorem PhGi.own (h : PhGi K base e es m L G r F w0 wr k x bs) : x.own wr base e bs := by
  obtain ⟨_, _, _, C⟩ := h
  exact C.own
theorem PhGi.grown (h : PhGi K base e es m L G r F w0 wr k x bs) (hg : wr.grownBy w' none) : PhGi K base e es m L G r F w0 w' k x bs := by
  obtain ⟨r', gl, h, C⟩ := h
  exact ⟨r', gl, h.grown hg, C.grown hg⟩
theorem PhGi.alloc (h : PhGi K base e es m L G r F w0 wr k x bs) (o : Obj) : PhGi K base e es m L G r F w0 (wr.alloc o) k x bs := h.grown (World.grownBy_alloc wr o none)
theorem PhGi.size (h : PhGi K base e es m L G r F w0 wr k x bs) : base ≤ wr.heap.size := by
  obtain ⟨_, _, h, _⟩ := h
  exact h.bas
theorem PhGi.l (h : PhGi K base e es m L G r F w0 wr k x bs) {j : Nat} (hj : j < m) : wr.cell? ⟨L, j, none⟩ = some (r j).v := by
  obtain ⟨_, _, h, _⟩ := h
  exact h.l j hj
theorem PhGi.grew (h : PhGi K base e es m L G r F w0 wr k x bs) (hk : k < m) {mm : Nat} (hG : Grew wr w' base e x x' mm bs news) : PhGi K base e es m L G r F w0 w' k x' (bs ++ news) := by
  obtain ⟨r', gl, h, C⟩ := h
  obtain ⟨S', C'⟩ := C.grew h.sit hk hG
  have hGz := C.z G (.inr rfl)
  have hLz := C.z L (.inl h.kl)
  refine ⟨r', gl, ⟨S', h.n, ?_, h.pos, fun j hj => ?_, hG.below C.own (Nat.le_refl _) h.bas h.bel, h.kl, h.ne, fun b hK => (hG.block (h.sit.z b (.inl hK)).1 (C.z b (.inl hK))).trans (h.kp b hK), h.gb, h.bas0⟩, C'⟩
  · rcases hG.2.2 with ⟨_, _, g, hg, hgr⟩ | ⟨_, _, _, hgr⟩
    · exact h.own.kept hgr (.inr fun e => hGz (by simp [Value.ownBlock] at e; simp [Rw.blk, Rw.v, hg, Value.ownBlock, e]))
    · exact h.own.kept hgr (.inr (by simp [Value.ownBlock]))
  · exact (World.cell?_of_block (hG.block (b := L) (h.sit.z L (.inl h.kl)).1 hLz)).trans (h.l j hj)
theorem PhGi.place (h : PhGi K base e es m L G r F w0 wr k x bs) (hk : k < m) : (∃ v, wr.cell? ⟨G, k, none⟩ = some v) ∧ wr.frozen? ⟨G, k, none⟩ = false := by
  obtain ⟨r', gl, h, C⟩ := h
  have hgl : gl.length = m := by have := h.own.1; omega
  exact ⟨⟨gl[k], by rw [h.own.cellAt k (by omega)]; simp [hgl, hk]⟩, h.own.frozenAt k⟩
theorem PhGi.push (h : PhGi K base e es m L G r F w0 wr k x bs) (hk : k < m) (hn : x.n = (r k).n + 64) (hb : bs = F k) : PhG K base e es m L G r F w0 (wr.setCell ⟨G, k, none⟩ x.v) (k + 1) := by
  obtain ⟨r', gl, h, C⟩ := h
  have hgl : gl.length = m := by have := h.own.1; omega
  refine ⟨upd r' k x, gl.set k x.v, ⟨?_, fun j hj => ?_, (h.own.stored k x.v).1, fun j hj => ?_, fun j hj => ?_, h.bel.setCell h.gb _, h.kl, h.ne, fun b hK => (heap_setCell_other wr ⟨G, k, none⟩ b _ (h.ne b hK)).trans (h.kp b hK), h.gb, h.bas0⟩⟩
  · have S := (h.sit.push C).storeZ (g := G) (.inr rfl) k x.v
    refine S.congr' fun j hj => ?_
    by_cases e : j = k
    · subst e; rw [upd_same]; exact hb
    · rw [upd_other _ _ _ e]
  · by_cases e : j = k
    · subst e; rw [upd_same]; exact hn
    · rw [upd_other _ _ _ e]; exact h.n j (by omega)
  · by_cases e : j = k
    · subst e
      rw [upd_same, List.getElem?_set_self (by omega)]
    · rw [upd_other _ _ _ e, List.getElem?_set_ne (Ne.symm e)]; exact h.pos j (by omega)
  · rw [cell_setCell_ne _ (h.ne L h.kl)]; exact h.l j hj
theorem PhG.gcell (h : PhG K base e es m L G r F w0 wr k) {j : Nat} (hj : j < k) (hk : k ≤ m) : ∃ A c, wr.cell? ⟨G, j, none⟩ = some (.slice A ((r j).n + 64) c) ∧ ∀ i, i < (r j).n + 64 → ∃ g, A = some ⟨g, 0, none⟩ ∧ wr.cell? ⟨g, i, none⟩ = some (B8 ((F j).getD i 0)) := by
  obtain ⟨r', gl, h⟩ := h
  refine ⟨(r' j).A, (r' j).c, ?_, fun i hi => h.sit.at' hj (by rw [h.n j hj]; exact hi)⟩
  rw [h.own.cellAt j (by omega), h.pos j hj, Rw.v, h.n j hj]
theorem PhG.lcell (h : PhG K base e es m L G r F w0 wr k) {j : Nat} (hj : j < m) : wr.cell? ⟨L, j, none⟩ = some (r j).v ∧ ∀ i, i < (r j).n → ∃ g, (r j).A = some ⟨g, 0, none⟩ ∧ wr.cell? ⟨g, i, none⟩ = some (B8 (markB j i)) := by
  obtain ⟨r', gl, h⟩ := h
  refine ⟨h.l j hj, fun i hi => ?_⟩
  obtain ⟨g, h1, h2⟩ := h.sit.at hj hi
  exact ⟨g, h1, by rw [h2, mk, marks_at _ _ _ hi]⟩
theorem PhG.below (h : PhG K base e es m L G r F w0 wr k) : Below base w0 wr := by
  obtain ⟨_, _, h⟩ := h
  exact h.bel
theorem PhG.kept (h : PhG K base e es m L G r F w0 wr k) : ∀ b, K b → wr.heap[b]? = w0.heap[b]? := by
  obtain ⟨_, _, h⟩ := h
  exact h.kp
theorem PhG.mark (h : PhG K base e es m L G r F w0 wr k) {b0 : List (BitVec 8)} (hg : wr.grownBy w' none) (ho : w'.ownsRow wr.heap.size e 1 (.slice (some ⟨wr.heap.size, 0, none⟩) 64 64) 64 (bv b0)) : PhM K base e es m L G wr.heap.size r F w0 w' k 0 := by
  obtain ⟨r', gl, h⟩ := h
  have hlt : wr.heap.size < w'.heap.size := (ho.lt _ rfl).2
  have h1 := (h.sit.z L (.inl h.kl)).1
  have h2 := (h.sit.z G (.inr rfl)).1
  refine ⟨r', gl, b0, h.grown hg, (h.sit.grown hg).addZ wr.heap.size hlt (fun j hj h' => by have := h.sit.lt hj h'; omega) (fun j hj h' => by have := h.sit.lt' hj h'; omega), fun b hK => by have := (h.sit.z b (.inl hK)).1; omega, by omega, h.bas, ho, by simp [marks]⟩
theorem PhM.step (h : PhM K base e es m L G M r F w0 wr k q) (hq : q < 64) : (∃ y, wr.cell? ⟨M, q, none⟩ = some (B8 y)) ∧ wr.frozen? ⟨M, q, none⟩ = false ∧ PhM K base e es m L G M r F w0 (wr.setCell ⟨M, q, none⟩ (B8 (markB ((k + m : Nat)) q))) k (q + 1) := by
  obtain ⟨r', gl, bs, h, S, h1, h2, h3, h4, h5⟩ := h
  have hl : bs.length = 64 := by have := h4.1; rw [bv_length] at this; omega
  refine ⟨⟨bs[q], by rw [h4.cellAt q (by omega)]; simp [bv, hl, hq]⟩, h4.frozenAt q, r', gl, bs.set q (markB ((k + m : Nat)) q), ⟨(S.storeZ (.inr rfl) q _).less fun b hb => .inl hb, h.n, ?_, h.pos, fun j hj => ?_, h.bel.setCell h3 _, h.kl, h.ne, fun b hK => (heap_setCell_other wr ⟨M, q, none⟩ b _ (h1 b hK)).trans (h.kp b hK), h.gb, h.bas0⟩, S.storeZ (.inr rfl) q _, h1, h2, h3, ?_, ?_⟩
  · exact h.own.kept (grownBy_setCell wr M q _) (.inr (by simp [Value.ownBlock]; exact Ne.symm h2))
  · rw [cell_setCell_ne _ (h1 L h.kl)]; exact h.l j hj
  · have e2 : bv (bs.set q (markB ((k + m : Nat)) q)) = (bv bs).set q (B8 (markB ((k + m : Nat)) q)) := by simp [bv]
    rw [e2]; exact (h4.stored q _).1
  · rw [marks_succ, ← h5, Nat.zero_add, List.take_succ_eq_append_getElem (by rw [List.length_set]; omega), List.getElem_set_self, List.take_set_of_le (by omega)]
theorem PhM.g (h : PhM K base e es m L G M r F w0 wr k q) : PhG K base e es m L G r F w0 wr k := by
  obtain ⟨r', gl, bs, h, _⟩ := h
  exact ⟨r', gl, h⟩
theorem PhM.cells (h : PhM K base e es m L G M r F w0 wr k 64) : ∀ j u, (bv (marks (k + m) 0 64))[j]? = some u → wr.cell? ((⟨M, 0, none⟩ : Addr).add j) = some u := by
  obtain ⟨r', gl, bs, h, S, h1, h2, h3, h4, h5⟩ := h
  have hl : bs.length = 64 := by have := h4.1; rw [bv_length] at this; omega
  rw [← h5, List.take_of_length_le (by omega)]
  intro j u hu
  have hj : j < 64 := by have := (List.getElem?_eq_some_iff.1 hu).1; rw [bv_length] at this; omega
  rw [Addr.add_lit, Nat.zero_add, h4.cellAt j (by omega), hu]
end

set_option maxHeartbeats 4000000 in
set_option maxRecDepth 100000 in
theorem flatBytes_any (K : Nat → Prop) (L m cL : Nat) (r : Nat → Rw) (f : Nat → List (BitVec 8)) (base : Nat) (w : World) (S : Sit w base 5 m K r f 0 r0 F0) (hL : ∀ j, j < m → w.cell? ⟨L, j, none⟩ = some (r j).v)
    (hm : m ≤ 1000000) (hn : ∀ j, j < m → (r j).n ≤ 1000000000000) (hbase : base ≤ w.heap.size) (hK : K L) :
    Calls Try.prog 87 #[.slice (some ⟨L, 0, none⟩) m cL] w fun e w' => e = .returned (.bool true) ∧ Below base w w' ∧ ∀ b, K b → w'.heap[b]? = w.heap[b]? := by
  obtain ⟨i0, hi, hz0, hz1, hz2⟩ := info_parts infoByte
  obtain ⟨j0, hj0, hy0, hy1, hy2⟩ := info_parts infoBytes
  have hp1 : Ph1 K base 5 m L r w w 0 := ⟨f, S, fun j hj => absurd hj (Nat.not_lt_zero _), hL, (Below.refl _ _).mono hbase, hbase, hK, fun _ _ => rfl⟩
  have HP1 := Lib.hid hp1; have HN := Lib.hid hn
  clear S hL hn hp1 hK
  go_enter Try.func87, Try.ntmps87
  go_wp2
  go_loopw [3, 4] (fun i _ wr => ∃ k : Nat, k ≤ m ∧ i = .int .i64 (k : Int) ∧ Ph1 K base 5 m L r w wr k) (fun i _ _ => m - (intOf i).toNat)
  case atStart => exact ⟨0, Nat.zero_le _, rfl, HP1.out⟩
  case round =>
    clear HP1
    obtain ⟨k, hk, rfl, hp⟩ := hrel
    rcases Nat.lt_or_ge k m with h1 | h1
    · have i1 : (k : Int) < (m : Int) := by omega
      have k0 : (0 : Int) ≤ (k : Int) := by omega
      obtain ⟨A, n, c, hr⟩ : ∃ A n c, r k = ⟨A, n, c⟩ := ⟨_, _, _, rfl⟩
      have hnk : n ≤ 1000000000000 := by have := HN.out k h1; rw [hr] at this; exact this
      have HR := Lib.hid hr; have HP := Lib.hid hp.start
      clear hr hp
      go_wp2
      go_loopw [4] (fun i wx => ∃ q : Nat, q ≤ n ∧ i = .int .i64 (q : Int) ∧ Ph1i K base 5 m L r w wx k q) (fun i _ => n - (intOf i).toNat)
      case atStart => exact ⟨0, Nat.zero_le _, rfl, HP.out⟩
      case round =>
        clear HP
        obtain ⟨q, hq, rfl, hp⟩ := hrel
        have q0 : (0 : Int) ≤ (q : Int) := by omega
        have cl : wr.cell? ⟨L, k, none⟩ = some (.slice A n c) := by
          obtain ⟨_, _, _, _, h4, _⟩ := hp
          rw [h4 k h1, HR.out]; rfl
        rcases Nat.lt_or_ge q n with h2 | h2
        · have q1 : (q : Int) < (n : Int) := by omega
          obtain ⟨g, x, hA, hc, hf, hstep⟩ := hp.step h1 (i := q) (by rw [HR.out]; exact h2)
          rw [HR.out] at hA
          obtain rfl : A = some ⟨g, 0, none⟩ := hA
          have HS := Lib.hid hstep
          clear hstep hp
          go_wp2_with fail
          refine wp_region_still_tail 9 (by kernel_rfl) (by kernel_rfl) ?_
          simp only [List.take_succ_cons, List.take_zero, List.drop_succ_cons, List.drop_zero]
          repeat (first | still_step | still_call (st_same (markByte_any _ _ _)))
          refine wpStill_nil ?_
          change wpList _ _ _ _ _ wr.drew
          refine wpList_store_one rfl _ _ _ rfl _ _ _ rfl rfl rfl (by kernel_rfl) hc hf ?_
          go_wp2
          go_roundw
          case rel => exact ⟨q + 1, by omega, by go_num, HS.out.drew⟩
          case measure => simp [intOf]; omega
        · have hqn : q = n := by omega
          have q1 : ¬ (q : Int) < (n : Int) := by omega
          have hd : Ph1 K base 5 m L r w wr (k + 1) := by
            rw [hqn] at hp
            exact Ph1i.done (by rw [HR.out]; exact hp) h1
          have HD := Lib.hid hd
          clear hp hqn hd
          go_wp2
          go_roundw
          case rel => exact ⟨k + 1, by omega, by go_num, HD.out⟩
          case measure => simp [intOf]; omega
    · have hkm : k = m := by omega
      have i1 : ¬ (k : Int) < (m : Int) := by omega
      rw [hkm] at hp
      have HP := Lib.hid hp
      clear hp hkm
      go_wp2_with (at_make; refine wpList_make_full _ rfl _ _ 39 rfl wr.heap.size 27 j0 (.slice none 0 0) 1 Try.underlying39 hj0 hy0 hy1 _ _ _ _ m rfl rfl rfl rfl (by rw [hy2]; omega) (by unfold maxLen; omega) (Nat.le_refl _) ?_; intro w1 hown1 hgrow1)
      have hp2 : PhG K base 5 27 m L wr.heap.size r (fun j => marks j 0 ((r j).n + 64)) w w1 0 := HP.out.made hgrow1 hown1
      have HP2 := Lib.hid hp2
      clear hp2 HP hgrow1 hown1
      generalize wr.heap.size = G at *
      go_loopw [6, 7, 8] (fun i _ _ wy => ∃ k : Nat, k ≤ m ∧ i = .int .i64 (k : Int) ∧ PhG K base 5 27 m L G r (fun j => marks j 0 ((r j).n + 64)) w wy k) (fun i _ _ _ => m - (intOf i).toNat)
      case atStart => exact ⟨0, Nat.zero_le _, rfl, HP2.out⟩
      case round =>
        clear HP2
        obtain ⟨k, hk, rfl, hp⟩ := hrel
        rcases Nat.lt_or_ge k m with h2 | h2
        · have i1 : (k : Int) < (m : Int) := by omega
          have k0 : (0 : Int) ≤ (k : Int) := by omega
          obtain ⟨A, n, c, hr⟩ : ∃ A n c, r k = ⟨A, n, c⟩ := ⟨_, _, _, rfl⟩
          have hnk : n ≤ 1000000000000 := by have := HN.out k h2; rw [hr] at this; exact this
          have cl : wr.cell? ⟨L, k, none⟩ = some (.slice A n c) := by rw [(hp.lcell h2).1, hr]; rfl
          have hp1 : PhGi K base 5 27 m L G r (fun j => marks j 0 ((r j).n + 64)) w wr k ⟨A, n, c⟩ (marks k 0 n) := by
            have := hp.start h2
            rw [mk, hr] at this; exact this
          have HR := Lib.hid hr; have HP1 := Lib.hid hp1
          clear hr hp hp1
          go_wp2
          clear cl
          go_loopw [7, 8] (fun v i wz => ∃ (q N c' : Nat) (A' : Option Addr), q ≤ 64 ∧ i = .int .i64 (q : Int) ∧ v = .slice A' N c' ∧ N = n + q ∧ PhGi K base 5 27 m L G r (fun j => marks j 0 ((r j).n + 64)) w wz k ⟨A', N, c'⟩ (marks k 0 N)) (fun _ i _ => 64 - (intOf i).toNat)
          case atStart => exact ⟨0, n, c, A, by omega, rfl, rfl, rfl, HP1.out⟩
          case round =>
            clear HP1
            obtain ⟨q, N, c', A', hq, rfl, rfl, hNq, hp⟩ := hrel
            have hN2 : N ≤ n + 64 := by omega
            have HNQ := Lib.hid hNq
            clear hNq
            rcases Nat.lt_or_ge q 64 with h3 | h3
            · have q1 : (q : Int) < 64 := by omega
              have q0 : (0 : Int) ≤ (q : Int) := by omega
              have cl : wr.cell? ⟨L, k, none⟩ = some (.slice A n c) := by rw [hp.l h2, HR.out]; rfl
              have HP := Lib.hid hp
              have hsz := hp.size
              clear hp
              go_wp2_with (first
                | (go_at_call 47; refine (markByte_any _ _ _).mono ?_; rintro e w' ⟨rfl, rfl⟩)
                | (at_builtin; refine wpList_append_either _ rfl _ _ 27 rfl base 5 i0 (.int .u8 0) 1 Try.underlying27 hi hz0 hz1 hz2 rfl ⟨A', N, c'⟩ (marks k 0 N) rfl (HP.out.alloc _).own ⟨wr.heap.size, 0, none⟩ 1 1 [markB (k : Int) ((n : Int) + (q : Int))] rfl rfl (cell_last _ _ _) (by omega) (by show N + 1 ≤ _; unfold maxLen; omega) (by show (N + 1) * 1 ≤ _; omega) (by simp; omega) ?_; intro A2 c2 w3 hG))
              have hp3 := (HP.out.alloc _).grew h2 hG
              have HP3 := Lib.hid hp3
              clear hp3 hG cl
              go_roundw
              case rel =>
                refine ⟨q + 1, N + 1, c2, A2, by omega, by go_num, rfl, by have := HNQ.out; omega, ?_⟩
                rw [marks_succ, show ((0 + N : Nat) : Int) = (n : Int) + (q : Int) by have := HNQ.out; omega]
                exact HP3.out
              case measure => simp [intOf]; omega
            · have hq64 : q = 64 := by omega
              have q1 : ¬ (q : Int) < 64 := by omega
              obtain ⟨⟨v0, hv0⟩, hf0⟩ := hp.place h2
              have hp4 := hp.push h2 (by rw [HR.out]; show N = n + 64; have := HNQ.out; omega) (by show marks k 0 N = marks k 0 ((r k).n + 64); rw [HR.out]; show marks k 0 N = marks k 0 (n + 64); rw [HNQ.out, hq64])
              have HP4 := Lib.hid hp4
              clear hp hp4 hq64
              go_wp2
              go_roundw
              case rel => exact ⟨k + 1, by omega, by go_num, HP4.out⟩
              case measure => simp [intOf]; omega
        · have hkm : k = m := by omega
          have i1 : ¬ (k : Int) < (m : Int) := by omega
          rw [hkm] at hp
          have HP := Lib.hid hp
          clear hp hkm
          obtain ⟨wq, rfl⟩ : ∃ wq : World, wq = wr := ⟨_, rfl⟩
          go_wp2
          go_loopw [9, 10] (fun i _ wz => ∃ k : Nat, k ≤ m ∧ i = .int .i64 (k : Int) ∧ ∃ q, wz = wq.drewN q) (fun i _ _ => m - (intOf i).toNat)
          case atStart => exact ⟨0, Nat.zero_le _, rfl, 0, rfl⟩
          case round =>
            obtain ⟨k, hk, rfl, qd, rfl⟩ := hrel
            rcases Nat.lt_or_ge k m with h3 | h3
            · have i1 : (k : Int) < (m : Int) := by omega
              have k0 : (0 : Int) ≤ (k : Int) := by omega
              obtain ⟨A, n, c, hr⟩ : ∃ A n c, r k = ⟨A, n, c⟩ := ⟨_, _, _, rfl⟩
              have hnk : n ≤ 1000000000000 := by have := HN.out k h3; rw [hr] at this; exact this
              obtain ⟨cl, hlx⟩ := HP.out.lcell h3
              obtain ⟨A2, c2, cg, hgx⟩ := HP.out.gcell h3 (Nat.le_refl _)
              rw [hr] at cl hlx cg hgx
              have cl' : wq.cell? ⟨L, k, none⟩ = some (.slice A n c) := cl
              obtain ⟨N, hN⟩ : ∃ N, N = n + 64 := ⟨_, rfl⟩
              have cg' : wq.cell? ⟨G, k, none⟩ = some (.slice A2 N c2) := by rw [hN]; exact cg
              have hN2 : N ≤ n + 64 := by omega
              have hN3 : n + 64 ≤ N := by omega
              have HLX := Lib.hid hlx; have HGX := Lib.hid hgx
              clear hr cl cg hN hlx hgx
              go_wp2
              go_loopw [10] (fun i wz => ∃ p : Nat, p ≤ N ∧ i = .int .i64 (p : Int) ∧ ∃ q, wz = wq.drewN q) (fun i _ => N - (intOf i).toNat)
              case atStart => exact ⟨0, Nat.zero_le _, rfl, _, rfl⟩
              case round =>
                obtain ⟨p, hp, rfl, qe, rfl⟩ := hrel
                have p0 : (0 : Int) ≤ (p : Int) := by omega
                rcases Nat.lt_or_ge p N with h4 | h4
                · have p1 : (p : Int) < (N : Int) := by omega
                  obtain ⟨gg, rfl, cgg⟩ := HGX.out p (by show p < n + 64; omega)
                  have cgg' : wq.cell? ⟨gg, p, none⟩ = some (B8 (markB (k : Int) (p : Int))) := by
                    rw [cgg]; show some (B8 ((marks k 0 (n + 64)).getD p 0)) = _
                    rw [marks_at _ _ _ (by omega)]
                  rcases Nat.lt_or_ge p n with h5 | h5
                  · have p2 : (p : Int) < (n : Int) := by omega
                    have d1 : decide ((p : Int) < (n : Int)) = true := by simpa using p2
                    have d2 : decide (p < n) = true := by simpa using h5
                    obtain ⟨gl, hgl, cll⟩ := HLX.out p h5
                    obtain rfl : A = some ⟨gl, 0, none⟩ := hgl
                    clear cgg
                    go_wp2_with fail
                    go_quiet ((go_at_call 47; first | (with_reducible exact q_add (markByte_any _ _ _)) | (with_reducible exact q_same (markByte_any _ _ _))))
                    go_wp2
                    go_roundw
                    case rel => exact ⟨p + 1, by omega, by go_num, _, rfl⟩
                    case measure => simp [intOf]; omega
                  · have p2 : ¬ (p : Int) < (n : Int) := by omega
                    have d1 : decide ((p : Int) < (n : Int)) = false := by simpa using p2
                    have d2 : decide (p < n) = false := by simp; omega
                    clear cgg
                    go_wp2_with fail
                    go_quiet ((go_at_call 47; first | (with_reducible exact q_add (markByte_any _ _ _)) | (with_reducible exact q_same (markByte_any _ _ _))))
                    go_wp2
                    go_roundw
                    case rel => exact ⟨p + 1, by omega, by go_num, _, rfl⟩
                    case measure => simp [intOf]; omega
                · have p1 : ¬ (p : Int) < (N : Int) := by omega
                  go_wp2
                  go_roundw
                  case rel => exact ⟨k + 1, by omega, by go_num, _, rfl⟩
                  case measure => simp [intOf]; omega
            · have i1 : ¬ (k : Int) < (m : Int) := by omega
              have hp4 := (HP.out.drewN qd).zero (fun j => mk r j ++ marks (j + m) 0 64)
              have HP4 := Lib.hid hp4
              clear hp4 HP
              go_wp2
              generalize wq.drewN qd = wq at *
              go_loopw [11, 12, 13] (fun i _ _ wz => ∃ k : Nat, k ≤ m ∧ i = .int .i64 (k : Int) ∧ PhG K base 5 27 m L G r (fun j => mk r j ++ marks (j + m) 0 64) w wz k) (fun i _ _ _ => m - (intOf i).toNat)
              case atStart => exact ⟨0, Nat.zero_le _, rfl, HP4.out⟩
              case round =>
                clear HP4
                obtain ⟨k, hk, rfl, hp⟩ := hrel
                rcases Nat.lt_or_ge k m with h4 | h4
                · have i1 : (k : Int) < (m : Int) := by omega
                  have k0 : (0 : Int) ≤ (k : Int) := by omega
                  obtain ⟨A, n, c, hr⟩ : ∃ A n c, r k = ⟨A, n, c⟩ := ⟨_, _, _, rfl⟩
                  have hnk : n ≤ 1000000000000 := by have := HN.out k h4; rw [hr] at this; exact this
                  have HR := Lib.hid hr; have HP := Lib.hid hp
                  have hwr := hp.below.size
                  clear hr hp
                  go_wp2_with (at_make; refine wpList_make_full _ rfl _ _ 27 rfl wr.heap.size 5 i0 (.int .u8 0) 1 Try.underlying27 hi hz0 hz1 _ _ _ _ 64 rfl rfl rfl rfl (by rw [hz2]; omega) (by unfold maxLen; omega) (Nat.le_refl _) ?_; intro w1 hown1 hgrow1)
                  have hpm : PhM K base 5 27 m L G wr.heap.size r (fun j => mk r j ++ marks (j + m) 0 64) w w1 k 0 := HP.out.mark (b0 := List.replicate 64 0#8) hgrow1 (made64 hown1)
                  have HPM := Lib.hid hpm
                  clear hpm hgrow1 hown1 HP
                  generalize wr.heap.size = M at *
                  go_loopw [13] (fun i wx => ∃ q : Nat, q ≤ 64 ∧ i = .int .i64 (q : Int) ∧ PhM K base 5 27 m L G M r (fun j => mk r j ++ marks (j + m) 0 64) w wx k q) (fun i _ => 64 - (intOf i).toNat)
                  case atStart => exact ⟨0, Nat.zero_le _, rfl, HPM.out⟩
                  case round =>
                    clear HPM
                    obtain ⟨q, hq, rfl, hp⟩ := hrel
                    rcases Nat.lt_or_ge q 64 with h5 | h5
                    · have q1 : (q : Int) < 64 := by omega
                      have q0 : (0 : Int) ≤ (q : Int) := by omega
                      obtain ⟨⟨y, hy⟩, hf, hs⟩ := hp.step h5
                      rw [show ((k + m : Nat) : Int) = (k : Int) + (m : Int) by omega] at hs
                      have HS := Lib.hid hs
                      clear hp hs
                      go_wp2_with (first | (with_reducible refine wpList_store_one rfl 5 (.tmp 142) (.tmp 141) rfl ⟨M, q, none⟩ _ _ rfl rfl rfl (by kernel_rfl) hy hf ?_) | (go_at_call 47; refine (markByte_any _ _ _).mono ?_; rintro e w' ⟨rfl, rfl⟩))
                      go_roundw
                      case rel => exact ⟨q + 1, by omega, by go_num, HS.out⟩
                      case measure => simp [intOf]; omega
                    · have hq64 : q = 64 := by omega
                      have q1 : ¬ (q : Int) < 64 := by omega
                      rw [hq64] at hp
                      have hst := hp.g.start h4
                      rw [mk, HR.out] at hst
                      have hst' : PhGi K base 5 27 m L G r (fun j => mk r j ++ marks (j + m) 0 64) w wr k ⟨A, n, c⟩ (marks k 0 n) := hst
                      have hcs := hp.cells
                      have cl : wr.cell? ⟨L, k, none⟩ = some (.slice A n c) := by rw [hst'.l h4, HR.out]; rfl
                      have hsz := hst'.size
                      have HST := Lib.hid hst'; have HCS := Lib.hid hcs
                      clear hp hq64 hst hst' hcs
                      go_wp2_with (at_builtin; refine wpList_append_either _ rfl _ _ 27 rfl base 5 i0 (.int .u8 0) 1 Try.underlying27 hi hz0 hz1 hz2 rfl ⟨A, n, c⟩ (marks k 0 n) rfl HST.out.own ⟨M, 0, none⟩ 64 64 (marks (k + m) 0 64) rfl (marks_length _ _ _) HCS.out (by omega) (by show n + 64 ≤ _; unfold maxLen; omega) (by show (n + 64) * 1 ≤ _; omega) hsz ?_; intro A2 c2 w3 hG; have hp3 := HST.out.grew h4 hG; obtain ⟨⟨v0, hv0⟩, hf0⟩ := hp3.place h4; have HP3 := Lib.hid hp3; clear hp3 hG)
                      have hp4 := HP3.out.push h4 (by rw [HR.out]) (by show _ = mk r k ++ _; rw [mk, HR.out])
                      have HP4 := Lib.hid hp4
                      clear hp4
                      go_roundw
                      case rel => exact ⟨k + 1, by omega, by go_num, HP4.out⟩
                      case measure => simp [intOf]; omega
                · have hkm : k = m := by omega
                  have i1 : ¬ (k : Int) < (m : Int) := by omega
                  rw [hkm] at hp
                  have HP := Lib.hid hp
                  clear hp hkm
                  obtain ⟨wq, rfl⟩ : ∃ wq : World, wq = wr := ⟨_, rfl⟩
                  go_wp2
                  go_loopw [14, 15] (fun i _ wz => ∃ k : Nat, k ≤ m ∧ i = .int .i64 (k : Int) ∧ ∃ q, wz = wq.drewN q) (fun i _ _ => m - (intOf i).toNat)
                  case atStart => exact ⟨0, Nat.zero_le _, rfl, 0, rfl⟩
                  case round =>
                    obtain ⟨k, hk, rfl, qd, rfl⟩ := hrel
                    rcases Nat.lt_or_ge k m with h5 | h5
                    · have i1 : (k : Int) < (m : Int) := by omega
                      have k0 : (0 : Int) ≤ (k : Int) := by omega
                      obtain ⟨A, n, c, hr⟩ : ∃ A n c, r k = ⟨A, n, c⟩ := ⟨_, _, _, rfl⟩
                      have hnk : n ≤ 1000000000000 := by have := HN.out k h5; rw [hr] at this; exact this
                      obtain ⟨cl, hlx⟩ := HP.out.lcell h5
                      obtain ⟨A2, c2, cg, hgx⟩ := HP.out.gcell h5 (Nat.le_refl _)
                      rw [mk, hr] at hgx
                      rw [hr] at cl hlx cg
                      have cl' : wq.cell? ⟨L, k, none⟩ = some (.slice A n c) := cl
                      obtain ⟨N, hN⟩ : ∃ N, N = n + 64 := ⟨_, rfl⟩
                      have cg' : wq.cell? ⟨G, k, none⟩ = some (.slice A2 N c2) := by rw [hN]; exact cg
                      have hN2 : N ≤ n + 64 := by omega
                      have hN3 : n + 64 ≤ N := by omega
                      have HLX := Lib.hid hlx; have HGX := Lib.hid hgx
                      clear hr cl cg hN hlx hgx
                      go_wp2
                      go_loopw [15] (fun i wz => ∃ p : Nat, p ≤ n ∧ i = .int .i64 (p : Int) ∧ ∃ q, wz = wq.drewN q) (fun i _ => n - (intOf i).toNat)
                      case atStart => exact ⟨0, Nat.zero_le _, rfl, _, rfl⟩
                      case round =>
                        obtain ⟨p, hp, rfl, qe, rfl⟩ := hrel
                        have p0 : (0 : Int) ≤ (p : Int) := by omega
                        rcases Nat.lt_or_ge p n with h6 | h6
                        · have p1 : (p : Int) < (n : Int) := by omega
                          have p2 : (p : Int) < (N : Int) := by omega
                          obtain ⟨gg, rfl, cgg⟩ := HGX.out p (by show p < n + 64; omega)
                          have cgg' : wq.cell? ⟨gg, p, none⟩ = some (B8 (markB (k : Int) (p : Int))) := by
                            rw [cgg]; show some (B8 ((marks k 0 n ++ marks (k + m) 0 64).getD p 0)) = _
                            rw [getD_left _ _ (by rw [marks_length]; exact h6), marks_at _ _ _ (by omega)]
                          obtain ⟨gl, hgl, cll⟩ := HLX.out p h6
                          obtain rfl : A = some ⟨gl, 0, none⟩ := hgl
                          clear cgg
                          go_wp2_with fail
                          go_quiet ((go_at_call 47; first | (with_reducible exact q_add (markByte_any _ _ _)) | (with_reducible exact q_same (markByte_any _ _ _))))
                          go_wp2
                          go_roundw
                          case rel => exact ⟨p + 1, by omega, by go_num, _, rfl⟩
                          case measure => simp [intOf]; omega
                        · have p1 : ¬ (p : Int) < (n : Int) := by omega
                          go_wp2
                          go_roundw
                          case rel => exact ⟨k + 1, by omega, by go_num, _, rfl⟩
                          case measure => simp [intOf]; omega
                    · have i1 : ¬ (k : Int) < (m : Int) := by omega
                      go_wp2
                      go_ret
                      exact ⟨rfl, below_drewN HP.out.below _, HP.out.kept⟩
end Go.Proofs.Ytfpjmeknjhhakaa.K
