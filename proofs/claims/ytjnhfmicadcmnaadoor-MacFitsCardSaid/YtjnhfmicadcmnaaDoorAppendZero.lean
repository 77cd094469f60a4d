/- append(s, make([]byte, m)...): noughts put behind a row that the call owns. -/
import Derived.Test.YtjnhfmicadcmnaaDoorBank
import Derived.Test.YtjnhfmicadcmnaaDoorMacOf
namespace Go.Proofs.YtjnhfmicadcmnaaDoor.K
open Go Go.RowKit

theorem zeroCells_one (m : Nat) : (Builtin.zeroCells #[Value.int .u8 0] m).toList = bv (zer m) := by
  unfold Builtin.zeroCells bv zer
  apply List.ext_getElem?
  intro i
  by_cases h : i < m
  · simp [h, B8]
    simp [Nat.mod_one]
  · simp [h]
section
variable {P : Program} {w0 w : World} {L : List Acc}
theorem run_zeros (t ti ty e : TypeId) (i : TypeInfo) (ht : P.underlying t = some (.slice e)) (hti : P.underlying ti = some (.int .i64)) (hi : P.info? e = some i) (hz : i.zero = some (.int .u8 0)) (hs : i.size = 1) (hby : i.bytes = 1)
    (A : Option Addr) (n cap : Nat) (xs : List Value) (hown : w.ownsRow w0.heap.size e 1 (.slice A n cap) n xs) (m : Nat) (h63 : n + m ≤ maxLen) (hbytes : n + m ≤ 140737488355328) (hbase : w0.heap.size ≤ w.heap.size) :
    ∃ A' c' w', (Builtin.append_ #[t, ti] ty #[.slice A n cap, .int .i64 (m : Int)]).run P w = .ok (.slice A' (n + m) c') w' ∧ w'.ownsRow w0.heap.size e 1 (.slice A' (n + m) c') (n + m) (xs ++ bv (zer m)) ∧ w.grownBy w' (Value.slice A n cap).ownBlock ∧
      ((Value.slice A' (n + m) c').ownBlock = (Value.slice A n cap).ownBlock ∨ (Value.slice A' (n + m) c').ownBlock = some w.heap.size) := by
  have hw : IntKind.i64.wrap (m : Int) = (m : Int) := IntWalk.i64_in _ (by omega)
  have hw0 : IntKind.i64.wrap 0 = 0 := by decide
  have hsmall : n + m ≤ 9223372036854775807 := by simp only [maxLen] at h63; omega
  have hm0 : ¬ ((m : Int) < 0) := by omega
  have hm48 : ¬ (281474976710656 < (m : Int)) := by omega
  have hzl : (zer m).length = m := zer_length m
  have hlen : (xs ++ bv (zer m)).length = (n + m) * 1 := by rw [List.length_append, hown.1, bv_length, hzl]; omega
  have hza : Builtin.zeroCells #[Value.int .u8 0] m = (bv (zer m)).toArray := by
    rw [← zeroCells_one]
  have grown : ∀ (old : Nat), old < n + m → ∀ (row : Option Nat),
      (w.drew.alloc (.cells (xs.toArray ++ (bv (zer m)).toArray ++ Builtin.zeroCells #[Value.int .u8 0] (grownCap w (n + m) old e - (n + m))) e)).ownsRow w0.heap.size e 1
        (.slice (some ⟨w.heap.size, 0, Option.none⟩) (n + m) (grownCap w (n + m) old e)) (n + m) (xs ++ bv (zer m)) ∧
      w.grownBy (w.drew.alloc (.cells (xs.toArray ++ (bv (zer m)).toArray ++ Builtin.zeroCells #[Value.int .u8 0] (grownCap w (n + m) old e - (n + m))) e)) row := by
    intro old ho row
    have hge := grownCap_ge w (n + m) old e
    have hcm : grownCap w (n + m) old e ≤ maxLen := grownCap_le_maxLen w (n + m) old e h63
    refine ⟨⟨hlen, .inr ⟨w.heap.size, _, _, rfl, hbase, heap_alloc_new w.drew _, hge, hcm, ?_, ?_⟩⟩, ⟨rfl, rfl, rfl, by simp, fun k hk _ => (Array.getElem?_push_lt (xs := w.drew.heap) hk).trans (Array.getElem?_eq_getElem (xs := w.heap) hk).symm⟩⟩
    · simp only [Array.size_append, List.size_toArray, size_zeroCells, hown.1, bv_length, hzl]
      simp
      omega
    · simp only [Array.toList_append, List.append_assoc]
      rw [← List.append_assoc, ← hlen]
      exact List.take_left
  rcases hown.2 with ⟨hv, hn0⟩ | ⟨g, cap', cur, hv, hbg, hg, hnc, hcm, hcs, htake⟩
  · simp only [Value.slice.injEq] at hv
    obtain ⟨rfl, rfl, rfl⟩ := hv
    have hx : xs = [] := List.eq_nil_of_length_eq_zero (by simpa using hown.1)
    subst hx
    by_cases hm : m = 0
    · subst hm
      refine ⟨none, 0, w, ?_, by simpa [zer, bv] using World.ownsRow_nil w w0.heap.size e 1, World.grownBy.refl _ _, .inl rfl⟩
      simp [Builtin.append_, run_underlying ht, run_underlying hti, sizeOf, typeInfo, hi, hby, hs, asInt, asIntOf, hw0]
    · have h48' : ¬ (281474976710656 < Builtin.nextslicecap m 0) := by rw [nextslicecap_zero (by omega)]; omega
      have h63' : ¬ (9223372036854775807 < (m : Int)) := by omega
      have hgr := grown 0 (by omega) (Value.ownBlock (.slice none 0 0))
      simp only [Nat.zero_add, List.nil_append] at hgr ⊢
      refine ⟨_, _, _, ?_, hgr.1, hgr.2, .inr rfl⟩
      simp [Builtin.append_, run_underlying ht, run_underlying hti, sizeOf, typeInfo, zeroValue, hi, hby, hs, hz, asInt, asIntOf, hw, hm0, hm48, hm, h63', h48', Question.forced, newRow, grownCap, run_firstCells_none, ← hza]
      rfl
  · simp only [Value.slice.injEq, true_and] at hv
    obtain ⟨rfl, rfl⟩ := hv
    by_cases hroom : n + m ≤ cap
    · have hfit : n * 1 + (bv (zer m)).length ≤ cur.size := by rw [bv_length, hzl]; omega
      have hst := run_storeCells_at P g (n * 1) e (bv (zer m)) 0 cur w hg (by simpa using hfit) (bv_one _)
      simp only [Nat.add_zero] at hst
      refine ⟨some ⟨g, 0, Option.none⟩, cap, w.setRow g (cur.toList.take (n * 1) ++ bv (zer m) ++ cur.toList.drop (n * 1 + (bv (zer m)).length)).toArray, ?_, ⟨hlen, .inr ⟨g, cap, _, rfl, hbg, setRow_heap w g cur _ e _ hg, hroom, hcm, ?_, ?_⟩⟩, ⟨rfl, rfl, rfl, by simp, fun k _ hk => setRow_other w g k _ (fun e => hk (by simp [Value.ownBlock, e]))⟩, Or.inl rfl⟩
      · by_cases hm : m = 0
        · subst hm
          have hst' := hst
          simp [zer, bv] at hst'
          simp [Builtin.append_, run_underlying ht, run_underlying hti, sizeOf, typeInfo, zeroValue, hi, hby, hs, hz, asInt, asIntOf, hw, hroom, Addr.add_lit, zer, bv, hst', hw0, hnc]
        · have hst' := hst
          rw [Nat.mul_one] at hst'
          simp [Builtin.append_, run_underlying ht, run_underlying hti, sizeOf, typeInfo, zeroValue, hi, hby, hs, hz, asInt, asIntOf, hw, hm0, hm48, hm, hroom, Addr.add_lit, zeroCells_one, hst', Value.cells]
      · simp only [List.size_toArray, List.length_append, List.length_take, List.length_drop, Array.length_toList]
        omega
      · rw [htake, ← hlen]
        exact List.take_left
    · have holds : ∀ j u, xs[j]? = some u → w.cell? ((⟨g, 0, Option.none⟩ : Addr).add j) = some u := hown.cells (g := g) rfl
      have hm : ¬ m = 0 := by omega
      have hfo := run_firstCells_some (P := P) w.drew 1 n ⟨g, 0, Option.none⟩ n cap xs hown.1 (by simpa using holds)
      have h48' : ¬ (281474976710656 < Builtin.nextslicecap (n + m) cap) := by
        have := growslice_fits (bytes := 1) (need := n + m) (old := cap) (by omega) (by omega); omega
      have h63' : ¬ (9223372036854775807 < ((n : Int) + (m : Int))) := by omega
      have hgr := grown cap (by omega) (Value.ownBlock (.slice (some ⟨g, 0, Option.none⟩) n cap))
      refine ⟨_, _, _, ?_, hgr.1, hgr.2, .inr rfl⟩
      simp [Builtin.append_, run_underlying ht, run_underlying hti, sizeOf, typeInfo, zeroValue, hi, hby, hs, hz, asInt, asIntOf, hw, hm0, hm48, hm, hroom, h63', h48', Question.forced, newRow, grownCap, hfo, ← hza]
      simp [Value.cells]
theorem wpList_append_zeros {ops : Array Oper} {rest : List Oper} {o : Oper} {a : Act} {Q : Exit → Act → World → Prop} (h : Bank w0 w L) (hgd : o.guard = Option.none) (s y : Operand) (t ti : TypeId)
    (ho : o.op = .call { callee := .builtin .append, args := #[s, y], argTypes := #[t, ti] })
    (e : TypeId) (hz : (P.info? e).map (fun i => (i.zero, i.size, i.bytes)) = some (some (.int .u8 0), 1, 1)) (ht : P.underlying t = some (.slice e)) (hti : P.underlying ti = some (.int .i64)) (k : Nat) (A : Option Addr) (n cap : Nat) (bs : List (BitVec 8)) (hs : a.eval s = .slice A n cap) (hk : L[k]? = some ⟨.slice A n cap, n, e, 1, bv bs⟩)
    (m : Nat) (x : Int) (hx : a.eval y = .int .i64 x) (hxm : x = (m : Int)) (hb : n + m ≤ 140737488355328)
    (hK : ∀ A' c' w', Bank w0 w' (L.set k ⟨.slice A' (n + m) c', n + m, e, 1, bv (bs ++ zer m)⟩) → wpList P ops Q rest (a.put o.dst (.slice A' (n + m) c')) w') : wpList P ops Q (o :: rest) a w := by
  obtain ⟨i0, hi, hz0, hz1, hz2⟩ := info_parts hz
  subst hxm
  refine wpList_plain hgd fun K hK' => ?_
  obtain ⟨A', c', w', hr, h2, h3, h5⟩ := run_zeros (P := P) t ti o.type e i0 ht hti hi hz0 hz1 hz2 A n cap (bv bs) (h.at k hk) m (by unfold maxLen; omega) hb h.since.size
  unfold Oper.wp execOp
  simp only [ho, resolve, invoke, builtin, Sem.run_bind, Sem.run_pure, Result.andThen_ok, List.map_toArray, List.map_cons, List.map_nil, hs, hx, hr]
  exact hK' _ _ (hK A' c' w' (h.put k hk (by rw [bv_append]; exact h2) h3 h5))
end
end Go.Proofs.YtjnhfmicadcmnaaDoor.K
