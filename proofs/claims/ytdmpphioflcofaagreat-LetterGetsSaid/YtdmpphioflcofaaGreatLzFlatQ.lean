/- Laws for regions that read whole structs and call what only lays new blocks. -/
import Derived.Test.YtdmpphioflcofaaGreatLzFlatG
import Derived.Lib.QuietBelow
import Derived.Deep.MidRow
namespace Go.Proofs.YtdmpphioflcofaaGreat.K.G
open Go Go.RowKit Go.Sort

/-- the lexical walk of a quiet region, behind a structure: so that no elaborator reduces what is left of it -/
structure WQ (P : Program) (ops : Array Oper) (C : World → Prop) (Q : Act → Prop) (l : List Oper) (a : Act) : Prop where
  out : wpQuiet P ops C Q l a
theorem WQ.region {P : Program} {id : Nat} {Q : Exit → Act → World → Prop} {a : Act} {w : World} {l : List Oper} (hm : P.follows .mixedOrders = true) (hB : Region.lexB .any l.toArray = true)
    (h : WQ P l.toArray (fun w' => ∃ p : Regrown, w' = grow (redrawn w p.d) p.os) (fun a' => ∀ w', (∃ p : Regrown, w' = grow (redrawn w p.d) p.os) → Q .normal a' w') l a) : (Code.region id l.toArray true).wp P Q a w :=
  wp_region_quiet_below hm hB h.out
section
variable {P : Program} {ops : Array Oper} {C : World → Prop} {Q : Act → Prop} {a : Act} {o : Oper} {rest : List Oper}
theorem WQ.nil (h : Q a) : WQ P ops C Q [] a := ⟨h⟩
theorem WQ.step (h : ∀ K : Act → Prop, (∀ a, WQ P ops C Q rest a → K a) → if Region.wanted o (yielded ops a.tmps) then o.quiet P a C K else K (a.put o.dst undef)) : WQ P ops C Q (o :: rest) a :=
  ⟨wpQuiet_step fun K hK => h K fun a ha => hK a ha.out⟩
/-- a struct that a quiet region reads, whole -/
theorem WQ.load (hw : Region.wanted o (yielded ops a.tmps) = true) (ty : TypeId) (x : Operand) (ho : o.op = .load ty x)
    (b off : Nat) (hx : a.eval x = .pointer (some ⟨b, off, none⟩)) (cs : List Value) (d : TypeDesc) (hS : ∀ w, C w → w.rangeAt b off cs) (hu : P.underlying ty = some d) (hd : d.isRow = true) (hi : (P.info? ty).map (·.size) = some cs.length)
    (h : WQ P ops C Q rest (a.put o.dst (.agg cs.toArray))) : WQ P ops C Q (o :: rest) a := by
  refine WQ.step fun K hK => ?_
  rw [if_pos hw]
  refine ⟨.agg cs.toArray, fun w hC => ?_, hK _ h⟩
  unfold Oper.quietAt execOp
  simp only [ho, hx, run_loadAt_mid w b off ty cs d (hS w hC) hu hd hi, Sem.run_bind, Sem.run_pure, Result.andThen_ok]
  exact ⟨rfl, rfl⟩
end
theorem range_regrown {wr : World} {g o : Nat} {cs : List Value} (h : wr.rangeAt g o cs) : ∀ w, (∃ p : Regrown, w = grow (redrawn wr p.d) p.os) → w.rangeAt g o cs := by
  rintro w ⟨p, rfl⟩ j v hv
  exact cell_regrown (h j v hv) p.d p.os
/-- a gate: the operation at hand is this store (under with_reducible it fails at once elsewhere) -/
theorem at_storeL {P : Program} {ops : Array Oper} {Q : Exit → Act → World → Prop} {rest : List Oper} {a : Act} {w : World} {d : Option Tmp} {t : TypeId} {pos : String} {af : Array Edge} {g : Option (Nat × Bool)} (ty : TypeId) (x y : Operand)
    (h : wpList P ops Q (⟨d, .store ty x y, t, pos, af, g⟩ :: rest) a w) : wpList P ops Q (⟨d, .store ty x y, t, pos, af, g⟩ :: rest) a w := h
end Go.Proofs.YtdmpphioflcofaaGreat.K.G
