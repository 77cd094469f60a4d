/- A disk and its store: what a frame that is done makes of them. -/
import Derived.Test.YtfpjmeknjhhakaaSqStoDo
namespace Go.Proofs.Ytfpjmeknjhhakaa.K
open Go Go.RowKit Go.Maps

theorem bank_underS {w0 w w' : World} {L L' : List Acc} (h : Bank w0 w L) (h' : Bank w w' L') : Bank w0 w' (L' ++ L) := by
  have h1 := h.call h'.since
  refine ⟨h1.since, fun p hp => ?_, List.pairwise_append.2 ⟨h'.sep, h1.sep, fun p hp q hq b hb1 hb2 => ?_⟩⟩
  · rcases List.mem_append.1 hp with hp | hp
    · exact row_base (h'.own p hp) h.since.size
    · exact h1.own p hp
  · have h3 := (h'.lt hp hb1).1
    have h4 := (h.lt hq hb2).2
    omega
theorem Side.under {w0 w w' : World} {R : Nat} {ob : Obj} {L L' : List Acc} (h : Side w0 w R ob L) (h' : Bank w w' L') : Side w0 w' R ob (L' ++ L) := by
  refine ⟨bank_underS h.bank h', (h'.since.block R h.lt).trans h.at', h.base, fun p hp e => ?_⟩
  rcases List.mem_append.1 hp with hp | hp
  · have h3 := (h'.lt hp e).1
    have h4 := h.lt
    omega
  · exact h.away p hp e
theorem Dk.under {w0 w w' : World} {D R : Nat} {room : Int} {o : Option Fil} {L L' : List Acc} (h : Dk w0 w D R room o L) (h' : Bank w w' L') : Dk w0 w' D R room o (L' ++ L) := by
  refine (h.side.under h').perm ?_
  refine (List.perm_middle).trans (.cons _ ?_)
  rw [← List.append_assoc, ← List.append_assoc]
  exact List.Perm.append_right _ List.perm_append_comm
/-- a store's accounts, ahead of the rest -/
def StL (Z D : Nat) (c : S.Cl) (A : Option Addr) (cE : Nat) (xs : List EV) (L : List Acc) : List Acc := stAcc Z D c A xs.length cE :: evsAcc A xs.length cE xs :: (evRows xs ++ L)
/-- a disk and its store -/
def SK (w0 w : World) (D R : Nat) (room : Int) (o : Option Fil) (Z : Nat) (c : S.Cl) (A : Option Addr) (cE : Nat) (xs : List EV) (L : List Acc) : Prop := Dk w0 w D R room o (StL Z D c A cE xs L)
section
variable {w0 w w' : World} {D R : Nat} {room : Int} {o : Option Fil} {Z : Nat} {c : S.Cl} {A : Option Addr} {cE : Nat} {xs : List EV} {L : List Acc}
theorem SK.dk (h : SK w0 w D R room o Z c A cE xs L) : Dk w0 w D R room o (StL Z D c A cE xs L) := h
theorem SK.box (h : SK w0 w D R room o Z c A cE xs L) : StBox w Z D c A xs.length cE := (h.dk.boxAt 0 rfl).2
theorem SK.own (h : SK w0 w D R room o Z c A cE xs L) : w.ownsRow 0 81 6 (.slice A xs.length cE) xs.length (xs.flatMap EV.cells) := row_base (h.dk.side.bank.at _ (h.dk.at 1 rfl)) (Nat.zero_le _)
theorem SK.rd (h : SK w0 w D R room o Z c A cE xs L) : EntsRd w A (xs.map EV.e) :=
  evs_rd (n := xs.length) (c := cE) h.dk.rest (.tail _ (.head _)) (fun x hx => .tail _ (.tail _ (List.mem_append_left _ (List.mem_map.2 ⟨x, by simpa using hx, rfl⟩)))) rfl
theorem SK.call (h : SK w0 w D R room o Z c A cE xs L) (hb : Below w.heap.size w w') : SK w0 w' D R room o Z c A cE xs L := h.dk.call hb
theorem SK.drew (h : SK w0 w D R room o Z c A cE xs L) : SK w0 w.drew D R room o Z c A cE xs L := h.dk.drew
theorem SK.since (h : SK w0 w D R room o Z c A cE xs L) : Since w0 w := h.dk.since
theorem evRows_take (xs : List EV) (q : Nat) : (evRows (xs.take q)).Sublist (evRows xs) := ((List.take_sublist q xs).reverse).map _
/-- behind a frame -/
theorem SK.done {f : F.Fr} {e : Ending} (h : SK w0 w D R room o Z c A cE xs L) (hp : DoPost w Z c xs f e w') :
    (S.sdo ⟨c, xs.map EV.e⟩ f = none ∧ e = .returned (.bool false) ∧ SK w0 w' D R room o Z c A cE xs L) ∨
    (∃ c' A' cE' xs', S.sdo ⟨c, xs.map EV.e⟩ f = some ⟨c', xs'.map EV.e⟩ ∧ xs'.length ≤ xs.length + 1 ∧ e = .returned (.bool true) ∧ SK w0 w' D R room o Z c' A' cE' xs' L) := by
  rcases hp with ⟨h1, he, hs⟩ | ⟨c', w1, h1, he, hs, rfl⟩ | ⟨w1, q, A', cE', en, B, m, cB, h1, hq, he, hB, rfl⟩
  · exact .inl ⟨h1, he, h.call hs⟩
  · refine .inr ⟨c', A, cE, xs, h1, by omega, he, ?_⟩
    exact (((((h.call hs).dk.boxSet 0 rfl 1 (.int .i64 c'.term)).boxSet 0 rfl 2 (.int .i64 c'.vote)).boxSet 0 rfl 3 (.int .i64 c'.applied)).boxSet 0 rfl 4 (.int .i64 c'.active))
  · have hl : (xs.take q ++ [⟨en, B, m, cB⟩] : List EV).length = q + 1 := by simp; omega
    refine .inr ⟨c, A', cE', _, h1, by omega, he, ?_⟩
    have h2 : Dk w0 (w1.setCell ⟨Z, 5, none⟩ (.slice A' (q + 1) cE')) D R room o ([evsAcc A' (q + 1) cE' (xs.take q ++ [⟨en, B, m, cB⟩]), rowAcc B m cB en.data] ++ stAcc Z D c A' (q + 1) cE' :: (evsAcc A xs.length cE xs :: (evRows xs ++ L))) := (h.dk.under hB).boxSet 2 rfl 5 (.slice A' (q + 1) cE')
    have h3 := (h2.perm (L' := stAcc Z D c A' (q + 1) cE' :: ([evsAcc A' (q + 1) cE' (xs.take q ++ [⟨en, B, m, cB⟩]), rowAcc B m cB en.data] ++ (evsAcc A xs.length cE xs :: (evRows xs ++ L)))) List.perm_middle).sub (L' := stAcc Z D c A' (q + 1) cE' :: evsAcc A' (q + 1) cE' (xs.take q ++ [⟨en, B, m, cB⟩]) :: ((rowAcc B m cB en.data :: evRows (xs.take q)) ++ L)) (.cons_cons _ (.cons_cons _ (.cons_cons _ (.cons _ ((evRows_take xs q).append (List.Sublist.refl _))))))
    show Dk w0 _ D R room o (stAcc Z D c A' _ cE' :: evsAcc A' _ cE' _ :: (evRows _ ++ L))
    rw [hl, evRows_snoc]
    exact h3
end
end Go.Proofs.Ytfpjmeknjhhakaa.K
