/- What the law WireBack keeps: two readers of the program's; entries that came in. -/
import Derived.Test.YtjnhfmicadcmnaaEntsOf
import Derived.Test.YtjnhfmicadcmnaaWireRdS
namespace Go.Proofs.Ytjnhfmicadcmnaa.K
open Go Go.RowKit

structure WB (w0 w : World) (P Q : Nat) (s t : M.Rdr) (A0 A1 : Option Addr) : Prop where
  since : Since w0 w
  p : PrgN w P s A0
  q : PrgN w Q t A1
  hP : w0.heap.size ≤ P
  hQ : w0.heap.size ≤ Q
  ne : P ≠ Q
  pl : ∀ a, A0 = some a → a.block < w.heap.size ∧ a.block ≠ Q
  ql : ∀ a, A1 = some a → a.block < w.heap.size ∧ a.block ≠ P
section
variable {w0 w w' : World} {P Q : Nat} {s t s' t' : M.Rdr} {A0 A1 : Option Addr}
theorem WB.below (h : WB w0 w P Q s t A0 A1) (hb : Below w.heap.size w w') : WB w0 w' P Q s t A0 A1 :=
  ⟨h.since.add hb, h.p.below hb, h.q.below hb, h.hP, h.hQ, h.ne, fun a ha => ⟨Nat.lt_of_lt_of_le (h.pl a ha).1 hb.size, (h.pl a ha).2⟩, fun a ha => ⟨Nat.lt_of_lt_of_le (h.ql a ha).1 hb.size, (h.ql a ha).2⟩⟩
theorem WB.pStep (h : WB w0 w P Q s t A0 A1) (hp : PrgN w' P s' A0) (hg : w.grownBy w' (some P)) : WB w0 w' P Q s' t A0 A1 :=
  ⟨h.since.grown hg h.since.size (by rintro k ⟨⟩; exact h.hP), hp, h.q.grown hg (fun e => h.ne (Option.some.inj e)) (fun a ha e => (h.ql a ha).2 (Option.some.inj e).symm), h.hP, h.hQ, h.ne, fun a ha => ⟨Nat.lt_of_lt_of_le (h.pl a ha).1 hg.size, (h.pl a ha).2⟩, fun a ha => ⟨Nat.lt_of_lt_of_le (h.ql a ha).1 hg.size, (h.ql a ha).2⟩⟩
theorem WB.qStep (h : WB w0 w P Q s t A0 A1) (hq : PrgN w' Q t' A1) (hg : w.grownBy w' (some Q)) : WB w0 w' P Q s t' A0 A1 :=
  ⟨h.since.grown hg h.since.size (by rintro k ⟨⟩; exact h.hQ), h.p.grown hg (fun e => h.ne (Option.some.inj e).symm) (fun a ha e => (h.pl a ha).2 (Option.some.inj e).symm), hq, h.hP, h.hQ, h.ne, fun a ha => ⟨Nat.lt_of_lt_of_le (h.pl a ha).1 hg.size, (h.pl a ha).2⟩, fun a ha => ⟨Nat.lt_of_lt_of_le (h.ql a ha).1 hg.size, (h.ql a ha).2⟩⟩
end
theorem WB.start {w0 w1 w2 w3 : World} {P Q : Nat} {s t : List (BitVec 8)} {A0 A1 : Option Addr} (h1 : Since w0 w1) (hP : w1.heap.size ≤ P) (hN : PrgN w2 P (some s) A0) (hA : ∀ a, A0 = some a → w1.heap.size ≤ a.block ∧ a.block < w2.heap.size ∧ a.block ≠ P) (hb : Below w1.heap.size w1 w2)
    (hQ : w2.heap.size ≤ Q) (hN' : PrgN w3 Q (some t) A1) (hA' : ∀ a, A1 = some a → w2.heap.size ≤ a.block ∧ a.block < w3.heap.size ∧ a.block ≠ Q) (hb' : Below w2.heap.size w2 w3) : WB w0 w3 P Q (some s) (some t) A0 A1 := by
  have hPl : P < w2.heap.size := by
    obtain ⟨l, A', n', c', h⟩ := hN
    exact h.1.lt
  have hs0 := h1.size
  have hs1 := hb.size
  have hs2 := hb'.size
  exact ⟨(h1.add hb).add hb', hN.below hb', hN', by omega, by omega, by omega, fun a ha => by have := hA a ha; omega, fun a ha => by have := hA' a ha; omega⟩

/-- six cells of an entry -/
theorem EntAt.six {w : World} {b o : Nat} {e : M.Ent} (h : EntAt w b o e) : ∃ A n c, (w.cell? ⟨b, o, none⟩ = some (.int .i64 e.term) ∧ w.cell? ⟨b, o + 1, none⟩ = some (B8 e.kind) ∧ w.cell? ⟨b, o + 2, none⟩ = some (.int .i64 e.version) ∧ w.cell? ⟨b, o + 3, none⟩ = some (.int .i64 e.server) ∧ w.cell? ⟨b, o + 4, none⟩ = some (.bool e.good) ∧ w.cell? ⟨b, o + 5, none⟩ = some (.slice A n c)) ∧ RowRd w ⟨A, n, c⟩ e.data ∧ M.inI64 e.term ∧ M.inI64 e.version ∧ M.inI64 e.server := by
  obtain ⟨A, n, c, hc, h1, h2, h3, h4, _⟩ := h
  exact ⟨A, n, c, ⟨hc 0 _ rfl, hc 1 _ rfl, hc 2 _ rfl, hc 3 _ rfl, hc 4 _ rfl, hc 5 _ rfl⟩, h4, h1, h2, h3⟩
abbrev Cells6 (w : World) (b o : Nat) (e : M.Ent) (A : Option Addr) (n c : Nat) : Prop := w.cell? ⟨b, o, none⟩ = some (.int .i64 e.term) ∧ w.cell? ⟨b, o + 1, none⟩ = some (B8 e.kind) ∧ w.cell? ⟨b, o + 2, none⟩ = some (.int .i64 e.version) ∧ w.cell? ⟨b, o + 3, none⟩ = some (.int .i64 e.server) ∧ w.cell? ⟨b, o + 4, none⟩ = some (.bool e.good) ∧ w.cell? ⟨b, o + 5, none⟩ = some (.slice A n c)
theorem Cells6.since {w0 w : World} {b o : Nat} {e : M.Ent} {A : Option Addr} {n c : Nat} (h : Cells6 w0 b o e A n c) (hs : Since w0 w) : Cells6 w b o e A n c := by
  obtain ⟨h0, h1, h2, h3, h4, h5⟩ := h
  exact ⟨(hs.cell (block_lt_of_cell h0)).trans h0, (hs.cell (block_lt_of_cell h1)).trans h1, (hs.cell (block_lt_of_cell h2)).trans h2, (hs.cell (block_lt_of_cell h3)).trans h3, (hs.cell (block_lt_of_cell h4)).trans h4, (hs.cell (block_lt_of_cell h5)).trans h5⟩

theorem ents_le (es : List M.Ent) (N : Nat) (h : ∀ e ∈ es, e.data.length ≤ N) : (M.ents es).length ≤ es.length * (48 + N) := by
  induction es with
  | nil => simp [M.ents]
  | cons e es ih =>
    have h1 := ih fun x hx => h x (List.mem_cons_of_mem _ hx)
    have h2 := h e (List.mem_cons_self ..)
    simp only [M.ents, List.flatMap_cons, List.length_append, List.length_cons, M.ent_length] at *
    rw [Nat.add_mul]
    omega
/-- what was written -/
def enc (x : Int) (bs : List (BitVec 8)) (es : List M.Ent) (k : Nat) : List (BitVec 8) := M.num x ++ (M.blob bs ++ M.ents (es.take k))
theorem enc_zero (x : Int) (bs : List (BitVec 8)) (es : List M.Ent) : enc x bs es 0 = M.num x ++ M.blob bs := by simp [enc, M.ents]
theorem enc_succ (x : Int) (bs : List (BitVec 8)) (es : List M.Ent) (k : Nat) (h : k < es.length) : enc x bs es (k + 1) = enc x bs es k ++ M.ent es[k] := by
  unfold enc
  rw [List.take_succ_eq_append_getElem h, M.ents_snoc]
  simp
theorem enc_all (x : Int) (bs : List (BitVec 8)) (es : List M.Ent) : enc x bs es es.length = M.num x ++ (M.blob bs ++ M.ents es) := by simp [enc]
theorem enc_le (x : Int) (bs : List (BitVec 8)) (es : List M.Ent) (k : Nat) (hb : bs.length ≤ 20000) (he : ∀ e ∈ es, e.data.length ≤ 20007) (hk : es.length ≤ 200) : (enc x bs es k).length ≤ 5000000 := by
  have h1 := ents_le (es.take k) 20007 (fun e h => he e (List.mem_of_mem_take h))
  have h2 : (es.take k).length ≤ 200 := by rw [List.length_take]; omega
  unfold enc
  rw [List.length_append, List.length_append, M.num_length, M.blob_length]
  have h3 : (es.take k).length * (48 + 20007) ≤ 200 * (48 + 20007) := Nat.mul_le_mul_right _ h2
  omega
theorem enc_ge (x : Int) (bs : List (BitVec 8)) (es : List M.Ent) (k : Nat) : 16 ≤ (enc x bs es k).length := by
  unfold enc
  rw [List.length_append, List.length_append, M.num_length, M.blob_length]; omega
theorem drop_ents (es : List M.Ent) (k : Nat) (h : k < es.length) : M.ents (es.drop k) = M.ent es[k] ++ M.ents (es.drop (k + 1)) := by
  unfold M.ents
  conv => lhs; rw [List.drop_eq_getElem_cons h]
  exact List.flatMap_cons
theorem rdAll_take (es : List M.Ent) (k : Nat) (h : k < es.length) (t : M.Rdr) : M.rdAll (es.take (k + 1)) t = (M.rdEntry (M.rdAll (es.take k) t)).2 := by
  rw [List.take_succ_eq_append_getElem h, M.rdAll_snoc]
theorem cut_bad (x : Int) (bs : List (BitVec 8)) (es : List M.Ent) (q : Nat) (hx : M.inI64 x) (hb : bs.length ≤ 20000) (he : ∀ e ∈ es, e.Ok) (hq : q < (enc x bs es es.length).length) :
    M.rdAll es (M.rdBytes (M.rdNumber (some ((enc x bs es es.length).take q))).2).2 = none := by
  rw [enc_all] at hq ⊢
  rw [← List.append_assoc] at hq ⊢
  exact (((M.eats_num x hx).comp (M.eats_blob bs (by omega))).comp (M.eats_all es he)).cut q hq
end Go.Proofs.Ytjnhfmicadcmnaa.K
