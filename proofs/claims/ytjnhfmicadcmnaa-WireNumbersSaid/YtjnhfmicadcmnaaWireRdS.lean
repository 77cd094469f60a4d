/- What the law WireReads keeps from round to round. -/
import Derived.Test.YtjnhfmicadcmnaaWireNew
import Derived.Test.YtjnhfmicadcmnaaJoinLit
import Derived.Test.YtjnhfmicadcmnaaKitOver
namespace Go.Proofs.Ytjnhfmicadcmnaa.K
open Go Go.RowKit

/-- the blocks of the readers, and of what they read -/
def Zb (P R : Nat) (A0 Bd : Option Addr) (b : Nat) : Prop := b = P ∨ b = R ∨ (∃ a, A0 = some a ∧ a.block = b) ∨ ∃ a, Bd = some a ∧ a.block = b
structure WR (w0 w : World) (P R : Nat) (sp sr : M.Rdr) (A0 Bd : Option Addr) (n cB : Nat) (bs : List (BitVec 8)) (L : List Acc) : Prop where
  bank : Bank w0 w L
  free : ∀ p ∈ L, ∀ b, p.v.ownBlock = some b → ¬ Zb P R A0 Bd b
  prg : PrgN w P sp A0
  ref : RefN w R sr Bd n cB bs
  z : ∀ b, Zb P R A0 Bd b → b < w.heap.size
  hP : w0.heap.size ≤ P
  hR : w0.heap.size ≤ R
  ne : P ≠ R
  aR : ∀ a, A0 = some a → a.block ≠ R
  bP : ∀ a, Bd = some a → a.block ≠ P
theorem RefN.grown {w w' : World} {R : Nat} {s : M.Rdr} {A : Option Addr} {n c : Nat} {D : List (BitVec 8)} (h : RefN w R s A n c D) {row : Option Nat} (hg : w.grownBy w' row) (hR : row ≠ some R) (hA : ∀ a, A = some a → row ≠ some a.block) : RefN w' R s A n c D := by
  obtain ⟨at', bad, h⟩ := h
  exact ⟨at', bad, h.grown hg hR hA⟩
section
variable {w0 w w' : World} {P R : Nat} {sp sr sp' sr' : M.Rdr} {A0 Bd : Option Addr} {n cB : Nat} {bs : List (BitVec 8)} {L : List Acc}
theorem WR.below (h : WR w0 w P R sp sr A0 Bd n cB bs L) (hb : Below w.heap.size w w') : WR w0 w' P R sp sr A0 Bd n cB bs L :=
  ⟨h.bank.call hb, h.free, h.prg.below hb, h.ref.grown (grown_none_of_below hb) (by simp) (fun _ _ => by simp), fun b hz => Nat.lt_of_lt_of_le (h.z b hz) hb.size, h.hP, h.hR, h.ne, h.aR, h.bP⟩
theorem WR.prgStep (h : WR w0 w P R sp sr A0 Bd n cB bs L) (hp : PrgN w' P sp' A0) (hg : w.grownBy w' (some P)) : WR w0 w' P R sp' sr A0 Bd n cB bs L :=
  ⟨h.bank.other hg h.hP (fun p hp e => h.free p hp P e (.inl rfl)), h.free, hp, h.ref.grown hg (fun e => h.ne (Option.some.inj e)) (fun a ha e => h.bP a ha (Option.some.inj e).symm), fun b hz => Nat.lt_of_lt_of_le (h.z b hz) hg.size, h.hP, h.hR, h.ne, h.aR, h.bP⟩
theorem WR.refStep (h : WR w0 w P R sp sr A0 Bd n cB bs L) (hr : RefN w' R sr' Bd n cB bs) (hg : w.grownBy w' (some R)) : WR w0 w' P R sp sr' A0 Bd n cB bs L :=
  ⟨h.bank.other hg h.hR (fun p hp e => h.free p hp R e (.inr (.inl rfl))), h.free, h.prg.grown hg (fun e => h.ne (Option.some.inj e).symm) (fun a ha e => h.aR a ha (Option.some.inj e).symm), hr, fun b hz => Nat.lt_of_lt_of_le (h.z b hz) hg.size, h.hP, h.hR, h.ne, h.aR, h.bP⟩
/-- what was made while the program's reader read -/
theorem WR.made (h : WR w0 w P R sp sr A0 Bd n cB bs L) (hp : PrgN w' P sp' A0) (hg : w.grownBy w' (some P)) {e : TypeId} {size m : Nat} {v : Value} {xs : List Value} (ho : w'.ownsRow w.heap.size e size v m xs) : WR w0 w' P R sp' sr A0 Bd n cB bs (⟨v, m, e, size, xs⟩ :: L) := by
  have h' := h.prgStep hp hg
  refine ⟨h'.bank.add ho h.bank.since.size (fun p hp b hb => (h.bank.lt hp hb).2), fun p hp b hb => ?_, h'.prg, h'.ref, h'.z, h.hP, h.hR, h.ne, h.aR, h.bP⟩
  rcases List.mem_cons.1 hp with rfl | hp
  · intro hz
    have h1 := (ho.lt b hb).1
    have h2 := h.z b hz
    omega
  · exact h.free p hp b hb
theorem WR.put (h : WR w0 w P R sp sr A0 Bd n cB bs L) {i : Nat} {p p' : Acc} (hi : L[i]? = some p) (hb : Bank w0 w' (L.set i p')) (hg : w.grownBy w' p.v.ownBlock) (ho : p'.v.ownBlock = p.v.ownBlock ∨ p'.v.ownBlock = some w.heap.size) : WR w0 w' P R sp sr A0 Bd n cB bs (L.set i p') := by
  have hp : p ∈ L := List.mem_of_getElem? hi
  refine ⟨hb, fun q hq b hb' => ?_, h.prg.grown hg (fun e => h.free p hp P e (.inl rfl)) (fun a ha e => h.free p hp _ e (.inr (.inr (.inl ⟨a, ha, rfl⟩)))), h.ref.grown hg (fun e => h.free p hp R e (.inr (.inl rfl))) (fun a ha e => h.free p hp _ e (.inr (.inr (.inr ⟨a, ha, rfl⟩)))), fun b hz => Nat.lt_of_lt_of_le (h.z b hz) hg.size, h.hP, h.hR, h.ne, h.aR, h.bP⟩
  rcases List.mem_or_eq_of_mem_set hq with hq | rfl
  · exact h.free q hq b hb'
  · rcases ho with e | e
    · exact h.free p hp b (e ▸ hb')
    · intro hz
      rw [e] at hb'; cases hb'
      exact absurd (h.z _ hz) (Nat.lt_irrefl _)
theorem WR.swap {p q : Acc} (h : WR w0 w P R sp sr A0 Bd n cB bs (p :: q :: L)) : WR w0 w P R sp sr A0 Bd n cB bs (q :: p :: L) :=
  ⟨h.bank.swap, fun x hx => h.free x (by simp only [List.mem_cons] at hx ⊢; rcases hx with rfl | rfl | hx; exact .inr (.inl rfl); exact .inl rfl; exact .inr (.inr hx)), h.prg, h.ref, h.z, h.hP, h.hR, h.ne, h.aR, h.bP⟩
theorem WR.pa (h : WR w0 w P R sp sr A0 Bd n cB bs L) : ∀ a, A0 = some a → a.block < w.heap.size := fun a ha => h.z _ (.inr (.inr (.inl ⟨a, ha, rfl⟩)))
theorem WR.rb (h : WR w0 w P R sp sr A0 Bd n cB bs L) : ∀ a, Bd = some a → a.block < w.heap.size := fun a ha => h.z _ (.inr (.inr (.inr ⟨a, ha, rfl⟩)))
end

/-- slices that were told, and a list of them: they lie apart -/
def toldAcc (v : Value) (l : List RB) : Acc := ⟨v, l.length, 22, 1, l.map (·.1.v)⟩
theorem apart_told {w0 w : World} (v : Value) (l : List RB) (hB : Bank w0 w (toldAcc v l :: l.reverse.map accOf)) (hm : l.length ≤ 1000000) (hn : ∀ p ∈ l, p.1.n ≤ 1000000000000) :
    Calls Try.prog 21 #[v] w fun e w' => e = .returned (.bool true) ∧ Since w0 w' := by
  have hrow : ∀ j, (h : j < l.length) → rowsOf l j = l[j].1 ∧ bytesAt l j = l[j].2 := fun j h => by simp [rowsOf, bytesAt, h]
  have ho := hB.at 0 rfl
  obtain ⟨S, cS, rfl⟩ : ∃ S cS, v = .slice S l.length cS := by
    rcases ho.2 with ⟨h0, h2⟩ | ⟨g, cp, cur, h2, _⟩
    · exact ⟨_, _, by rw [show l.length = 0 from h2]; exact h0⟩
    · exact ⟨_, _, h2⟩
  have ho' : w.ownsRow w0.heap.size 22 1 (.slice S l.length cS) l.length (l.map (·.1.v)) := ho
  have hB2 := hB.drop
  refine (ApartBytes_any S l.length cS (rowsOf l) (bytesAt l) w0.heap.size w (fun j hj => ?_) (fun j hj => ?_) (fun i j hi hj hij => ?_) hm (fun j hj => ?_) hB2.since.size).mono ?_
  · obtain ⟨g, c', e, _, _⟩ := ho'.form (by omega)
    simp only [Value.slice.injEq, true_and] at e
    obtain ⟨rfl, rfl⟩ := e
    refine ⟨g, 0, rfl, ?_⟩
    rw [Nat.zero_add, ho'.cellAt j (by omega), (hrow j hj).1]
    simp [hj]
  · have := hB2.own (accOf l[j]) (List.mem_map.2 ⟨l[j], by simp, rfl⟩)
    unfold Rw.own
    rw [(hrow j hj).1, (hrow j hj).2]
    exact this
  · have h1 : (l.reverse.map accOf)[l.length - 1 - i]? = some (accOf l[i]) := by
      rw [List.getElem?_map, List.getElem?_reverse (by omega)]
      simp [show l.length - 1 - (l.length - 1 - i) = i by omega, hi]
    have h2 : (l.reverse.map accOf)[l.length - 1 - j]? = some (accOf l[j]) := by
      rw [List.getElem?_map, List.getElem?_reverse (by omega)]
      simp [show l.length - 1 - (l.length - 1 - j) = j by omega, hj]
    rw [(hrow i hi).1, (hrow j hj).1]
    exact hB2.sepAt h1 h2 (by omega)
  · rw [(hrow j hj).1]; exact hn _ (List.getElem_mem _)
  · rintro e w' ⟨he, hb⟩
    exact ⟨he, hB2.since.trans hb⟩
theorem told_snoc {w0 w : World} {P R : Nat} {sp sr : M.Rdr} {A0 Bd : Option Addr} {n cB : Nat} {bs : List (BitVec 8)} {v : Value} {l : List RB} {x : RB} {k : Nat}
    (h : WR w0 w P R sp sr A0 Bd n cB bs (accOf x :: ⟨v, k, 22, 1, l.map (·.1.v) ++ [x.1.v]⟩ :: l.reverse.map accOf)) (hk : k = l.length + 1) : WR w0 w P R sp sr A0 Bd n cB bs (toldAcc v (l ++ [x]) :: (l ++ [x]).reverse.map accOf) := by
  subst hk
  have h' := h.swap
  have e1 : (l ++ [x]).reverse.map accOf = accOf x :: l.reverse.map accOf := by simp
  have e2 : toldAcc v (l ++ [x]) = ⟨v, l.length + 1, 22, 1, l.map (·.1.v) ++ [x.1.v]⟩ := by simp [toldAcc]
  rw [e1, e2]; exact h'

/-- how much is left -/
def rlen : M.Rdr → Nat
  | none => 0
  | some l => l.length
theorem rlen_number (s : M.Rdr) : rlen (M.rdNumber s).2 ≤ rlen s := by
  cases s with
  | none => exact Nat.le_refl _
  | some l => simp only [M.rdNumber]; split <;> simp [rlen]
theorem rlen_bytes (s : M.Rdr) : (M.rdBytes s).1.length ≤ rlen s ∧ rlen (M.rdBytes s).2 ≤ rlen s := by
  have h := rlen_number s
  unfold M.rdBytes
  split
  · exact ⟨Nat.zero_le _, Nat.zero_le _⟩
  · rename_i m l e
    rw [e] at h
    split
    · exact ⟨Nat.zero_le _, Nat.zero_le _⟩
    · simp only [rlen] at h ⊢
      exact ⟨by rw [List.length_take]; omega, by rw [List.length_drop]; omega⟩
theorem rlen_entry (s : M.Rdr) : (M.rdEntry s).1.data.length ≤ rlen s ∧ rlen (M.rdEntry s).2 ≤ rlen s := by
  have h1 := rlen_number s
  have h2 := rlen_number (M.rdNumber s).2
  have h3 := rlen_number (M.rdNumber (M.rdNumber s).2).2
  have h4 := rlen_number (M.rdNumber (M.rdNumber (M.rdNumber s).2).2).2
  have h5 := rlen_number (M.rdNumber (M.rdNumber (M.rdNumber (M.rdNumber s).2).2).2).2
  have h6 := rlen_bytes (M.rdNumber (M.rdNumber (M.rdNumber (M.rdNumber (M.rdNumber s).2).2).2).2).2
  simp only [M.rdEntry]
  split
  · exact ⟨Nat.zero_le _, Nat.zero_le _⟩
  · exact ⟨by simp only; omega, by simp only; omega⟩
end Go.Proofs.Ytjnhfmicadcmnaa.K
