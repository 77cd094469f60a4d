/- Small parts of frame.Scan's contract: what holds between two rounds of its range over a function. -/
import Derived.Test.YtfpjmeknjhhakaaFrNext
import Derived.RangeFuncNested
import Derived.RangeFuncBound
import Derived.RangeFuncCalls
import Derived.RangeFuncLeaves
import Derived.Shelf.Abstract
import Derived.Shelf.RegionOpen
import Derived.WalkKit
import Derived.OwnWalkIn
import Derived.TacticsInMore
import Derived.LoopNIn
import Derived.LoopIn
namespace Go.Proofs.Ytfpjmeknjhhakaa.K
open Go Go.RowKit Go.Shelf
attribute [local go_sem] Oper.semAt_some

theorem Bank.perm {w0 w : World} {L L' : List Acc} (h : Bank w0 w L) (hp : L.Perm L') : Bank w0 w L' :=
  ⟨h.since, fun p hp' => h.own p (hp.mem_iff.2 hp'), (hp.pairwise_iff (fun h => Apartness.symm h)).1 h.sep⟩
/-- a block that holds no cells was turned -/
theorem Bank.putLoop {w0 w : World} {L : List Acc} (h : Bank w0 w L) {l : Nat} {o : Obj} (o' : Obj) (hl : w0.heap.size ≤ l) (ho : w.heap[l]? = some o) (hc : o.isCells = false) : Bank w0 (w.putObj l o') L := by
  refine h.other (grownBy_putObj' w l o') hl fun p hp e => ?_
  rcases (h.own p hp).2 with ⟨h0, _⟩ | ⟨g, cap, cur, hv, _, hg, _⟩
  · rw [h0] at e; cases e
  · rw [hv] at e
    have e2 : g = l := by simpa [Value.ownBlock] using e
    subst e2
    rw [hg] at ho
    cases ho
    simp [Obj.isCells] at hc
/-- the scan's block was written by next, and a row was made -/
theorem Bank.scanned {w0 w w' : World} {L : List Acc} (h : Bank w0 w L) (i : Nat) {S : Nat} {t : TypeId} {vs vs' : List Value} (hi : L[i]? = some (boxAcc S t vs)) (hl : vs'.length = vs.length) (hlen : vs.length ≤ 1000) (hg : w.grownBy w' (some S)) (hS : w'.heap[S]? = some (.cells vs'.toArray t (0, 0))) :
    Bank w0 w' (L.set i (boxAcc S t vs')) := by
  have hb := (h.boxAt i hi).1
  refine h.put i hi ?_ hg (.inl rfl)
  refine ⟨?_, .inr ⟨S, _, _, rfl, hb, hS, Nat.le_refl _, ?_, ?_, ?_⟩⟩
  · show vs'.length = vs'.length * 1; omega
  · show vs'.length ≤ maxLen; unfold maxLen; omega
  · show _ = vs'.length * 1; simp
  · show vs'.toArray.toList.take (vs'.length * 1) = vs'; simp
theorem Bank.fresh {w0 w' : World} {L : List Acc} (h : Bank w0 w' L) {B : Nat} (hlt : ∀ p ∈ L, ∀ b, p.v.ownBlock = some b → b < B) (hB : w0.heap.size ≤ B) {e : TypeId} {A : Option Addr} {n c : Nat} {bs : List (BitVec 8)} (ho : w'.ownsRow B e 1 (.slice A n c) n (bv bs)) : Bank w0 w' (⟨.slice A n c, n, e, 1, bv bs⟩ :: L) := h.add ho hB hlt
/-- a frame that was told -/
structure FR where
  k : Int
  x : Rw
  bs : List (BitVec 8)
def FR.acc (p : FR) : Acc := ⟨p.x.v, p.x.n, 5, 1, bv p.bs⟩
def FR.cells (p : FR) : List Value := [.int .i64 p.k, p.x.v]
def FR.fr (p : FR) : F.Fr := ⟨p.k, p.bs⟩
def FR.val (p : FR) : Value := .agg #[.int .i64 p.k, p.x.v]
def frAcc (Fa : Option Addr) (cF : Nat) (ps : List FR) : Acc := ⟨.slice Fa ps.length cF, ps.length, 36, 2, ps.flatMap FR.cells⟩
/-- the four that stand behind -/
def backL (Bx S Bf : Nat) (A : Option Addr) (n c u : Nat) (sp : Bool) (Fa : Option Addr) (cF : Nat) (ps : List FR) : List Acc :=
  boxAcc Bx 120 [.pointer (some ⟨S, 0, none⟩)] :: boxAcc S 124 (scanL A n c u sp) :: boxAcc Bf 25 [.slice Fa ps.length cF] :: frAcc Fa cF ps :: ps.reverse.map FR.acc
/-- what is left to scan -/
structure LeftAt (w0 : World) (l0 : List (BitVec 8)) (A : Option Addr) (n c u : Nat) (ps : List FR) : Prop where
  row : RowRd w0 ⟨A, n, c⟩ (l0.drop u)
  nc : n ≤ c
  c63 : c ≤ 9223372036854775807
  un : u + n = l0.length
  few : ps.length * 9 ≤ u
  lay : ∀ a, A = some a → a.block < w0.heap.size
  eq : F.scan l0 = (ps.map FR.fr ++ (F.scan (l0.drop u)).1, u + (F.scan (l0.drop u)).2.1, (F.scan (l0.drop u)).2.2)
/-- between two rounds -/
def SInv (w0 : World) (l0 : List (BitVec 8)) (Bx S Bf Lr Dd : Nat) (rec : LoopState → Option Code → Loop) (T : List Acc) (ps : List FR) (W : World) : Prop :=
  ∃ A n c u Fa cF, Bank w0 W (T ++ backL Bx S Bf A n c u false Fa cF ps) ∧ LeftAt w0 l0 A n c u ps ∧ W.heap[Lr]? = some (.loop (rec .ready none)) ∧ W.heap[Dd]? = some (.deferred (some [])) ∧ w0.heap.size ≤ Lr ∧ w0.heap.size ≤ Dd
/-- the scan has ended -/
def SEnd (w0 : World) (l0 : List (BitVec 8)) (Bx S Bf Lr Dd : Nat) (rec : LoopState → Option Code → Loop) (T : List Acc) (ps : List FR) (W : World) : Prop :=
  ∃ A n c u s Fa cF, Bank w0 W (T ++ backL Bx S Bf A n c u s Fa cF ps) ∧ F.scan l0 = (ps.map FR.fr, u, s) ∧ u ≤ l0.length ∧ ps.length * 9 ≤ u ∧ W.heap[Lr]? = some (.loop (rec .ready none)) ∧ W.heap[Dd]? = some (.deferred (some [])) ∧ w0.heap.size ≤ Lr ∧ w0.heap.size ≤ Dd
end Go.Proofs.Ytfpjmeknjhhakaa.K
