/- Steps of drawn regions that make and write bundles whole; slots by name. -/
import Derived.Test.YtidcfjmibljkeaaGreatDoorBq9
namespace Go.Proofs.YtidcfjmibljkeaaGreatDoor.K
open Go Go.RowKit

theorem run_alloc_bun (w : World) : (Instr.alloc 26 true (.tuple #[])).run Tryz.prog w = .ok (.pointer (some ⟨w.heap.size, 0, none⟩)) (w.alloc (.cells zeroV.toArray 26)) := by kernel_rfl
theorem Act.put_self (a : Act) (d : Tmp) : a.put (some d) (a.tmps.getD d undef) = a := by
  obtain ⟨t, ds⟩ := a
  simp only [Act.put, Act.mk.injEq, and_true]
  apply Array.ext_getElem?
  intro i
  rw [Array.getElem?_setIfInBounds]
  split
  · rename_i h
    subst h
    rw [Array.getD_eq_getD_getElem?]
    split
    · rename_i h2; rw [Array.getElem?_eq_getElem h2]; rfl
    · rename_i h2; rw [Array.getElem?_eq_none (by omega)]
  · rfl
section
variable {w0 w : World} {L : List Acc}
theorem Bank.permA (h : Bank w0 w L) {L' : List Acc} (hp : L.Perm L') : Bank w0 w L' := ⟨h.since, fun p hm => h.own p (hp.mem_iff.2 hm), (List.Perm.pairwise_iff (fun {_ _} h => Apartness.symm h) hp).1 h.sep⟩
theorem Bank.ins {X a b : List Acc} (h : Bank w0 w (X ++ (a ++ b))) : Bank w0 w (a ++ (X ++ b)) := h.permA (List.perm_append_comm_assoc _ _ _)
theorem Bank.ins2 {X a a2 b : List Acc} (h : Bank w0 w (X ++ (a ++ (a2 ++ b)))) : Bank w0 w (a ++ (a2 ++ (X ++ b))) := by
  have h2 := h.permA (L' := (a ++ a2) ++ (X ++ b)) (by rw [← List.append_assoc a a2]; exact (List.perm_append_comm_assoc _ _ _))
  rw [List.append_assoc] at h2; exact h2
theorem Bank.ins3 {X a a2 a3 b : List Acc} (h : Bank w0 w (X ++ (a ++ (a2 ++ (a3 ++ b))))) : Bank w0 w (a ++ (a2 ++ (a3 ++ (X ++ b)))) := by
  have h2 := h.permA (L' := (a ++ (a2 ++ a3)) ++ (X ++ b)) (by rw [← List.append_assoc a2 a3, ← List.append_assoc a (a2 ++ a3)]; exact (List.perm_append_comm_assoc _ _ _))
  rw [List.append_assoc, List.append_assoc] at h2; exact h2
theorem step_alloc_bun {ops : Array Oper} {o : Oper} {a : Act} {K : Act → World → Prop} {Q : Exit → Act → World → Prop} {E : Prop} (h : Bank w0 w L) (hgd : o.guard = Option.none) (ho : o.op = .alloc 26)
    (hK : ∀ g w', Bank w0 w' (boxAcc g 26 zeroV :: L) → K (a.put o.dst (.pointer (some ⟨g, 0, Option.none⟩))) w') : if Region.wanted o (yielded ops a.tmps) = true then Oper.wp Tryz.prog o a w K Q else E := by
  have hw : Region.wanted o (yielded ops a.tmps) = true := by simp [Region.wanted, hgd]
  rw [if_pos hw]
  have h2 := hK w.heap.size (w.alloc (.cells zeroV.toArray 26)) (h.box zeroV.toArray 26 (by decide))
  unfold Oper.wp execOp
  simp only [ho, run_alloc_bun, Sem.run_bind, Sem.run_pure, Result.andThen_ok]
  exact h2
theorem step_store_bun {ops : Array Oper} {o : Oper} {a : Act} {K : Act → World → Prop} {Q : Exit → Act → World → Prop} {E : Prop} (h : Bank w0 w L) (hgd : o.guard = Option.none) (x y : Operand) (ho : o.op = .store 26 x y) (i g : Nat) (hx : a.eval x = .pointer (some ⟨g, 0, Option.none⟩)) (z : List Value) (hz : z.length = 4) (hi : L[i]? = some (boxAcc g 26 z))
    (v : Int) (A : Option Addr) (n c : Nat) (B : Option Addr) (m d : Nat) (C : Option Addr) (k l : Nat) (hy : a.eval y = .agg #[.int .i64 v, .slice A n c, .slice B m d, .slice C k l])
    (hK : ∀ w', Bank w0 w' (L.set i (boxAcc g 26 (bunL v A n c B m d C k l))) → K (a.put o.dst undef) w') : if Region.wanted o (yielded ops a.tmps) = true then Oper.wp Tryz.prog o a w K Q else E := by
  have hw : Region.wanted o (yielded ops a.tmps) = true := by simp [Region.wanted, hgd]
  rw [if_pos hw]
  exact wp_store_row 26 x y ho g _ hx hy 26 _ (h.boxAt i hi).2 (infoBunL v A n c B m d C k l) (by simp [bunL, hz]) (bunL_one _ _ _ _ _ _ _ _ _ _) (hK _ (h.boxRow i hi _ (by rw [hz]; rfl) (by omega)))
end
theorem Act.put_put (a : Act) (d : Tmp) (x y : Value) : (a.put (some d) x).put (some d) y = a.put (some d) y := by
  simp [Act.put]
theorem Act.put_swap (a : Act) {d e : Tmp} (x y : Value) (h : d ≠ e) : (a.put (some d) x).put (some e) y = (a.put (some e) y).put (some d) x := Act.put_comm a x y (fun k hk hk2 => h (by cases hk; cases hk2; rfl))
theorem Act.eval_put_same (a : Act) (d : Tmp) (v : Value) (h : d < a.tmps.size) : (a.put (some d) v).eval (.tmp d) = v := by
  simp [Act.eval, Act.put, h]
theorem Act.eval_put_ne (a : Act) {d e : Tmp} (v : Value) (h : d ≠ e) : (a.put (some d) v).eval (.tmp e) = a.eval (.tmp e) := by
  simp [Act.eval, Act.put, Array.getElem?_setIfInBounds_ne h]
/-- a bundle is loaded whole, in a region that draws its order -/
theorem step_load_bun {w0 w : World} {L : List Acc} {ops : Array Oper} {o : Oper} {a : Act} {K : Act → World → Prop} {Q : Exit → Act → World → Prop} {E : Prop} (h : Bank w0 w L) (hgd : o.guard = Option.none) (x : Operand) (ho : o.op = .load 26 x) (i g : Nat) (hx : a.eval x = .pointer (some ⟨g, 0, Option.none⟩))
    (v : Int) (A : Option Addr) (n c : Nat) (B : Option Addr) (m d : Nat) (C : Option Addr) (k l : Nat) (hi : L[i]? = some (boxAcc g 26 (bunL v A n c B m d C k l)))
    (hK : K (a.put o.dst (.agg #[.int .i64 v, .slice A n c, .slice B m d, .slice C k l])) w) : if Region.wanted o (yielded ops a.tmps) = true then Oper.wp Tryz.prog o a w K Q else E := by
  have hw : Region.wanted o (yielded ops a.tmps) = true := by simp [Region.wanted, hgd]
  rw [if_pos hw]
  exact wp_load_row 26 x ho g hx 26 _ (0, 0) _ (h.boxAt i hi).2 Tryz.underlying26 rfl (infoBunL v A n c B m d C k l) hK
/-- a function of one argument is called -/
theorem step_call1 {w : World} {ops : Array Oper} {o : Oper} {a : Act} {K : Act → World → Prop} {Q : Exit → Act → World → Prop} {E : Prop} (hgd : o.guard = Option.none) (f : FuncId) (x : Operand) (ty : TypeId) (hf : ∀ (v : Value) (w : World), (callFunc f #[v]).run Tryz.prog w = .ok (.enter f #[v]) w) (ho : o.op = .call { callee := .value (.func f), args := #[x], argTypes := #[ty] })
    {R : Ending → World → Prop} (hc : Calls Tryz.prog f #[a.eval x] w R) (hK : ∀ e w', R e w' → ∃ v, e = .returned v ∧ K (a.put o.dst v) w') : if Region.wanted o (yielded ops a.tmps) = true then Oper.wp Tryz.prog o a w K Q else E := by
  have hw : Region.wanted o (yielded ops a.tmps) = true := by simp [Region.wanted, hgd]
  rw [if_pos hw]
  unfold Oper.wp execOp
  have e1 : Act.eval a (.func f) = .func (.func f) #[] #[] := rfl
  simp only [ho, resolve, e1, Deferred.ofValue, invoke, Sem.run_bind, Sem.run_pure, Result.andThen_ok, List.map_toArray, List.map_cons, List.map_nil]
  rw [show (#[] ++ #[a.eval x] ++ #[] : Array Value) = #[a.eval x] by simp, hf]
  refine Calls.mono hc fun e w' he => ?_
  obtain ⟨v, rfl, hv⟩ := hK e w' he
  exact hv
theorem step_store_mid {w0 w : World} {X Z : List Acc} {ops : Array Oper} {o : Oper} {a : Act} {K : Act → World → Prop} {Q : Exit → Act → World → Prop} {E : Prop} (g : Nat) (z : List Value) (h : Bank w0 w (X ++ ([boxAcc g 26 z] ++ Z))) (hz : z.length = 4) (hgd : o.guard = Option.none) (x y : Operand) (ho : o.op = .store 26 x y) (hx : a.eval x = .pointer (some ⟨g, 0, Option.none⟩))
    (v : Int) (A : Option Addr) (n c : Nat) (B : Option Addr) (m d : Nat) (C : Option Addr) (k l : Nat) (hy : a.eval y = .agg #[.int .i64 v, .slice A n c, .slice B m d, .slice C k l])
    (hK : ∀ w', Bank w0 w' (X ++ ([boxAcc g 26 (bunL v A n c B m d C k l)] ++ Z)) → K (a.put o.dst undef) w') : if Region.wanted o (yielded ops a.tmps) = true then Oper.wp Tryz.prog o a w K Q else E := by
  refine step_store_bun h hgd x y ho X.length g hx z hz (by simp) v A n c B m d C k l hy fun w' hB => hK w' ?_
  rw [show (X ++ ([boxAcc g 26 z] ++ Z)).set X.length (boxAcc g 26 (bunL v A n c B m d C k l)) = X ++ ([boxAcc g 26 (bunL v A n c B m d C k l)] ++ Z) by simp] at hB
  exact hB
theorem step_store_mid2 {w0 w : World} {X1 X2 Z : List Acc} {ops : Array Oper} {o : Oper} {a : Act} {K : Act → World → Prop} {Q : Exit → Act → World → Prop} {E : Prop} (g : Nat) (z : List Value) (h : Bank w0 w (X1 ++ (X2 ++ ([boxAcc g 26 z] ++ Z)))) (hz : z.length = 4) (hgd : o.guard = Option.none) (x y : Operand) (ho : o.op = .store 26 x y) (hx : a.eval x = .pointer (some ⟨g, 0, Option.none⟩))
    (v : Int) (A : Option Addr) (n c : Nat) (B : Option Addr) (m d : Nat) (C : Option Addr) (k l : Nat) (hy : a.eval y = .agg #[.int .i64 v, .slice A n c, .slice B m d, .slice C k l])
    (hK : ∀ w', Bank w0 w' (X1 ++ (X2 ++ ([boxAcc g 26 (bunL v A n c B m d C k l)] ++ Z))) → K (a.put o.dst undef) w') : if Region.wanted o (yielded ops a.tmps) = true then Oper.wp Tryz.prog o a w K Q else E := by
  rw [← List.append_assoc X1] at h
  refine step_store_mid g z h hz hgd x y ho hx v A n c B m d C k l hy fun w' hB => hK w' ?_
  rw [List.append_assoc X1] at hB
  exact hB
theorem step_store_mid3 {w0 w : World} {X1 X2 X3 Z : List Acc} {ops : Array Oper} {o : Oper} {a : Act} {K : Act → World → Prop} {Q : Exit → Act → World → Prop} {E : Prop} (g : Nat) (z : List Value) (h : Bank w0 w (X1 ++ (X2 ++ (X3 ++ ([boxAcc g 26 z] ++ Z))))) (hz : z.length = 4) (hgd : o.guard = Option.none) (x y : Operand) (ho : o.op = .store 26 x y) (hx : a.eval x = .pointer (some ⟨g, 0, Option.none⟩))
    (v : Int) (A : Option Addr) (n c : Nat) (B : Option Addr) (m d : Nat) (C : Option Addr) (k l : Nat) (hy : a.eval y = .agg #[.int .i64 v, .slice A n c, .slice B m d, .slice C k l])
    (hK : ∀ w', Bank w0 w' (X1 ++ (X2 ++ (X3 ++ ([boxAcc g 26 (bunL v A n c B m d C k l)] ++ Z)))) → K (a.put o.dst undef) w') : if Region.wanted o (yielded ops a.tmps) = true then Oper.wp Tryz.prog o a w K Q else E := by
  rw [← List.append_assoc X1] at h
  refine step_store_mid2 g z h hz hgd x y ho hx v A n c B m d C k l hy fun w' hB => hK w' ?_
  rw [List.append_assoc X1] at hB
  exact hB
theorem byte_B8B (y : Int) : Value.int .u8 (IntKind.u8.wrap y) = B8 (BitVec.ofInt 8 y) := by
  have h : IntKind.u8.wrap y = ((BitVec.ofInt 8 y).toNat : Int) := by
    rw [IntKind.wrap_u8', BitVec.toNat_ofInt]; omega
  rw [B8, h]
theorem conv_byteB {P : Program} (w : World) (src dst : TypeId) (y : Int) (hs : P.underlying src = some (.int .i64)) (hd : P.underlying dst = some (.int .u8)) : (convert src dst (.int .i64 y)).run P w = .ok (B8 (BitVec.ofInt 8 y)) w := by
  rw [← byte_B8B]
  simp [convert, run_underlying hs, run_underlying hd, Conv.intToInt]
/-- a byte of a row is written -/
theorem Bank.rowSet {w0 w : World} {L : List Acc} (h : Bank w0 w L) (i : Nat) {g N c : Nat} {bs : List (BitVec 8)} (hi : L[i]? = some (rowAcc (some ⟨g, 0, Option.none⟩) N c bs)) (j : Nat) (y : BitVec 8) : Bank w0 (w.setCell ⟨g, j, Option.none⟩ (B8 y)) (L.set i (rowAcc (some ⟨g, 0, Option.none⟩) N c (bs.set j y))) := by
  obtain ⟨ho, hg⟩ := (h.at i hi).stored j (B8 y)
  refine h.put i hi ?_ hg (.inl rfl)
  have e2 : (bv bs).set j (B8 y) = bv (bs.set j y) := by simp [bv, List.map_set]
  show (w.setCell ⟨g, j, Option.none⟩ (B8 y)).ownsRow _ _ _ _ _ (bv (bs.set j y))
  rw [← e2]
  exact ho
theorem Bank.byte {w0 w : World} {L : List Acc} (h : Bank w0 w L) (i : Nat) {g N c : Nat} {bs : List (BitVec 8)} (hi : L[i]? = some (rowAcc (some ⟨g, 0, Option.none⟩) N c bs)) (j : Nat) (hj : j < N) : w.cell? ⟨g, j, Option.none⟩ = some (B8 (bs.getD j 0)) ∧ w.frozen? ⟨g, j, Option.none⟩ = false := by
  have ho : w.ownsRow w0.heap.size 5 1 (.slice (some ⟨g, 0, Option.none⟩) N c) N (bv bs) := h.at i hi
  have hl : bs.length = N := (RowRd.of_row ho).len
  exact ⟨by rw [ho.cellAt j (by omega)]; simp [bv, show j < bs.length by omega], ho.frozenAt j⟩
/-- the frame kept behind a letter -/
theorem wp_gen {P : Program} {c : Code} {Q : Exit → Act → World → Prop} {a : Act} {w : World} (R : Act → Prop) (hR : R a) (h : ∀ a0, R a0 → Hid (a0 = a) → c.wp P Q a0 w) : c.wp P Q a w := h a hR (Lib.hid rfl)
theorem callCopy (v : Value) (w : World) : (callFunc 26 #[v]).run Tryz.prog w = .ok (.enter 26 #[v]) w := by kernel_rfl
theorem wp_region_setsA {P : Program} {ops : Array Oper} {Q : Exit → Act → World → Prop} (I : Act → Array Bool → Act → World → Prop) {id : Nat} {a : Act} {w : World} (hm : P.follows .mixedOrders = true) (h0 : I a (Array.replicate ops.size false) a w.drew)
    (step : ∀ listed a' w i, I a listed a' w → i ∈ Region.ready .any ops listed → wpOp P ops Q i (I a (listed.setIfInBounds i true)) a' w)
    (fin : ∀ listed a' w, I a listed a' w → Region.ready .any ops listed = [] → Q .normal a' w) : (Code.region id ops true).wp P Q a w := wp_region_sets (I a) hm h0 step fin
end Go.Proofs.YtidcfjmibljkeaaGreatDoor.K
