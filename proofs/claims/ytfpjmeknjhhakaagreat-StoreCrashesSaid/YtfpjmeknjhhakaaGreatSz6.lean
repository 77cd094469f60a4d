/- Merged: MapOne, Open, Lay, FrOpen, LentE, KitOver, EntsOf, KitKept, KitOverEs, Dsk, DskNew, DskRight. -/
import Derived.Test.YtfpjmeknjhhakaaGreatSz5
import Derived.Maps.Own
import Derived.StringKeys
import Derived.Maps.RangeRun
import Derived.Laws.IdiomRangeMap
import Derived.OpenShut
import Derived.ShutString
import Derived.ChangeOld
import Derived.Below
import Derived.Deep.Slices
import Derived.Deep.Fields
import Derived.Deep.DeepHandedRow
import Derived.LaidLaws
import Derived.SizedLaws
import Derived.Lib.QuietBelow
import Derived.Deep.RegionHeld3
import Derived.Deep.DeepCutAuto
import Derived.Deep.MidRow
import Derived.Lib.Bytealg
import Derived.WalkSpells
import Derived.Lib.SlBytesConst
import Derived.Deep.RegionLaw
import Derived.Lib.ConvBytes
set_option linter.unusedVariables false
/- Laws for a map of texts that holds nothing or one thing, and for a map that a literal makes with int keys. Over any program. -/
namespace Go.Proofs.YtfpjmeknjhhakaaGreat.K
open Go Go.RowKit Go.Maps Go.WideMaps

/-- one text's entry, or none -/
def oneEs (s : ByteArray) : Option Value → Array MapEntry
  | none => #[]
  | some v => #[{ key := .string s, val := v, born := 0 }]
def oneClock : Option Value → Nat
  | none => 0
  | some _ => 1
/-- block g is such a map -/
def IsOne (w : World) (g : Nat) (s : ByteArray) (o : Option Value) : Prop := w.heap[g]? = some (.map (oneEs s o) (oneClock o))
theorem IsOne.lt {w : World} {g : Nat} {s : ByteArray} {o : Option Value} (h : IsOne w g s o) : g < w.heap.size := (Array.getElem?_eq_some_iff.1 h).1
theorem IsOne.eq {w w' : World} {g : Nat} {s : ByteArray} {o : Option Value} (h : IsOne w g s o) (hb : w'.heap[g]? = w.heap[g]?) : IsOne w' g s o := hb.trans h
theorem IsOne.made (w : World) (s : ByteArray) : IsOne (w.alloc (.map #[] 0)) w.heap.size s none := heap_alloc_new w _
section
variable {P : Program} {t k e : TypeId} {w : World} {g : Nat} {s : ByteArray}
theorem sameNow_str (s : ByteArray) : Instr.sameNow .string (.string s) (.string s) = some true := by
  have h := (MapKept.bytes_beq s s).2 rfl
  simp [Instr.sameNow, h]
theorem look_one (ht : P.underlying t = some (.map k e)) (hk : P.underlying k = some .string) (hs : s.size ≤ maxLen) {v : Value} (h : IsOne w g s (some v)) :
    (Instr.lookup t (.map (some g)) (.string s) false).run P w = .ok v w := by
  have hf : Instr.findNow .string (.string s) (oneEs s (some v)).toList 0 = some (some (0, v)) := by simp [oneEs, Instr.findNow, sameNow_str]
  simp [Instr.lookup, run_underlying ht, MapKept.run_getObj_map h, (string_keyed hk).check _ _ (keyOf_string_mk hk hs), Instr.findKey, run_underlying hk, hf, Result.andThen]
theorem look_nothing (ht : P.underlying t = some (.map k e)) (hk : P.underlying k = some .string) (hs : s.size ≤ maxLen) {z : Value} (hz : (zeroValue e).run P w = .ok z w) (h : IsOne w g s none) :
    (Instr.lookup t (.map (some g)) (.string s) false).run P w = .ok z w := by
  have hf : Instr.findNow .string (.string s) (oneEs s none).toList 0 = some none := rfl
  simp [Instr.lookup, run_underlying ht, MapKept.run_getObj_map h, (string_keyed hk).check _ _ (keyOf_string_mk hk hs), Instr.findKey, run_underlying hk, hf, hz, Result.andThen]
theorem put_first (ht : P.underlying t = some (.map k e)) (hk : P.underlying k = some .string) (hs : s.size ≤ maxLen) (v : Value) (h : IsOne w g s none) :
    (Instr.mapUpdate t (.map (some g)) (.string s) v).run P w = .ok () (Go.ChangeMaps.setBlock w g (.map (oneEs s (some v)) 1)) := by
  have hf : Instr.findNow .string (.string s) (oneEs s none).toList 0 = some none := rfl
  simp [Instr.mapUpdate, run_underlying ht, MapKept.run_getObj_map h, (string_keyed hk).check _ _ (keyOf_string_mk hk hs), Instr.findKey, run_underlying hk, hf, MapKept.run_setObj_map _ h, Result.andThen]
  rfl
theorem setBlock_same {w : World} {g : Nat} {o : Obj} (h : w.heap[g]? = some o) : Go.ChangeMaps.setBlock w g o = w := by
  have h1 : w.heap.setIfInBounds g o = w.heap := by
    apply Array.ext_getElem?
    intro i
    rw [Array.getElem?_setIfInBounds]
    split
    · rename_i e; subst e; rw [if_pos (Array.getElem?_eq_some_iff.1 h).1, h]
    · rfl
  show ({ w with heap := w.heap.setIfInBounds g o } : World) = w
  rw [h1]
theorem put_again (ht : P.underlying t = some (.map k e)) (hk : P.underlying k = some .string) (hs : s.size ≤ maxLen) (v : Value) (h : IsOne w g s (some v)) :
    (Instr.mapUpdate t (.map (some g)) (.string s) v).run P w = .ok () w := by
  have hf : Instr.findNow .string (.string s) (oneEs s (some v)).toList 0 = some (some (0, v)) := by simp [oneEs, Instr.findNow, sameNow_str]
  have hst : (Instr.keyThatStays (.string s) (.string s)).run P w = .ok (.string s) w := by 
    have h := (MapKept.bytes_beq s s).2 rfl
    simp [Instr.keyThatStays, Instr.sameBits, h]
  have h2 := setBlock_same h
  simp [Instr.mapUpdate, run_underlying ht, MapKept.run_getObj_map h, (string_keyed hk).check _ _ (keyOf_string_mk hk hs), Instr.findKey, run_underlying hk, hf, Result.andThen]
  have e1 : (((oneEs s (some v))[0]?).map (·.key)).getD (.string s) = .string s := rfl
  simp [oneEs, hst]
  rw [MapKept.run_setObj_map _ h]
  exact congrArg (Result.ok ()) h2
/-- a range begins -/
theorem range_one (ht : P.underlying t = some (.map k e)) {o : Option Value} (h : IsOne w g s o) :
    (Instr.range t (.map (some g))).run P w = .ok (.pointer (some ⟨w.heap.size, 0, none⟩)) (w.alloc (.mapIter (some g) (oneClock o) #[] (oneClock o))) := run_range_map w t k e g _ _ ht h
/-- nothing comes -/
theorem next_none {r : Nat} {ty : TypeId} {seen : Array Nat} {c : Nat} (hr : w.heap[r]? = some (.mapIter (some g) 0 seen c)) (h : IsOne w g s none) :
    (Instr.next (.pointer (some ⟨r, 0, none⟩)) false ty).run P w = .ok (.tuple #[.bool false]) w := by
  rcases run_next_at (P := P) w ty r g 0 c seen (oneEs s none) 0 hr h (fun x hx => by cases hx) (Nat.zero_le _) with ⟨_, h2⟩ | ⟨e, he, _⟩
  · exact h2
  · simp [Go.leftOf, oneEs] at he
/-- the one comes -/
theorem next_one {r : Nat} {ty : TypeId} {v : Value} (hr : w.heap[r]? = some (.mapIter (some g) 1 #[] 1)) (h : IsOne w g s (some v)) :
    (Instr.next (.pointer (some ⟨r, 0, none⟩)) false ty).run P w = .ok (.tuple #[.bool true, .string s, v]) (Go.ChangeMaps.setBlock w r (.mapIter (some g) 1 #[0] 1)) := by
  have hrun : (Instr.next (.pointer (some ⟨r, 0, none⟩)) false ty).run P w = .ok (.tuple #[.bool true, .string s, v]) (Go.ChangeMaps.setBlock w r (.mapIter (some g) 1 ((#[] : Array Nat).push 0) 1)) := by
    have h' : w.heap[g]? = some (.map (oneEs s (some v)) 1) := h
    simp only [Instr.next, getObj, Sem.run_bind, Sem.run, hr, h', Result.andThen]
    simp [oneEs, choose, Sem.run, Question.forced, run_setObj_at hr, Result.andThen]
  exact hrun
/-- and no more -/
theorem next_over {r : Nat} {ty : TypeId} {v : Value} (hr : w.heap[r]? = some (.mapIter (some g) 1 #[0] 1)) (h : IsOne w g s (some v)) :
    (Instr.next (.pointer (some ⟨r, 0, none⟩)) false ty).run P w = .ok (.tuple #[.bool false]) w := by
  rcases run_next_at (P := P) w ty r g 1 1 #[0] (oneEs s (some v)) 1 hr h (fun x hx => by simp [oneEs] at hx; subst hx; exact Nat.zero_lt_one) (Nat.le_refl _) with ⟨_, h2⟩ | ⟨e, he, _⟩
  · exact h2
  · simp [Go.leftOf, oneEs] at he
theorem entry_one {r : Nat} {v : Value} (hr : w.heap[r]? = some (.mapIter (some g) 1 #[0] 1)) (h : IsOne w g s (some v)) :
    (Instr.entry (.pointer (some ⟨r, 0, none⟩))).run P w = .ok (.tuple #[.string s, v]) w :=
  run_entry_at w r g 1 #[] (oneEs s (some v)) 1 { key := .string s, val := v, born := 0 } hr h (by simp [oneEs]) (by simp [oneEs])
end
theorem setBlock_allocQ (w : World) (o o' : Obj) : Go.ChangeMaps.setBlock (w.alloc o) w.heap.size o' = w.alloc o' := by
  have h : (w.heap.push o).setIfInBounds w.heap.size o' = w.heap.push o' := by
    apply Array.toList_inj.1
    rw [Array.toList_setIfInBounds, Array.toList_push, Array.toList_push, List.set_append_right _ _ (by simp)]
    simp
  exact congrArg (fun x => ({ w with heap := x } : World)) h
/-- a map that a literal makes: a key is laid -/
theorem put_mapQ {P : Program} {t k e : TypeId} {q : IntKind} (ht : P.underlying t = some (.map k e)) (hk : P.underlying k = some (.int q)) (w : World) (es : Array MapEntry) (c : Nat) (n : Int) (v : Value) (hn : (Lit.int q n).wf = true) (hf : Instr.findNow (.int q) (.int q n) es.toList 0 = some none) :
    (Instr.mapUpdate t (.map (some w.heap.size)) (.int q n) v).run P (w.alloc (.map es c)) = .ok () (w.alloc (.map (es.push { key := .int q n, val := v, born := c }) (c + 1))) := by
  have hb := (MapKept.heap_alloc w (.map es c)).1
  simp [Instr.mapUpdate, run_underlying ht, MapKept.run_getObj_map hb, (int_keyed hk).check _ false (keyOf_int_mk hk hn), Instr.findKey, run_underlying hk, hf, MapKept.run_setObj_map _ hb, Result.andThen]
  exact setBlock_allocQ _ _ _
theorem look_mapQ {P : Program} {t k e : TypeId} {q : IntKind} (ht : P.underlying t = some (.map k e)) (hk : P.underlying k = some (.int q)) {w : World} {g : Nat} {es : Array MapEntry} {c : Nat} (hb : w.heap[g]? = some (.map es c)) (n : Int) (i : Nat) (v : Value) (hn : (Lit.int q n).wf = true) (hf : Instr.findNow (.int q) (.int q n) es.toList 0 = some (some (i, v))) :
    (Instr.lookup t (.map (some g)) (.int q n) true).run P w = .ok (.tuple #[v, .bool true]) w := by
  simp [Instr.lookup, run_underlying ht, MapKept.run_getObj_map hb, (int_keyed hk).check _ _ (keyOf_int_mk hk hn), Instr.findKey, run_underlying hk, hf, Result.andThen]
theorem look_noneQ {P : Program} {t k e : TypeId} {q : IntKind} (ht : P.underlying t = some (.map k e)) (hk : P.underlying k = some (.int q)) {w : World} {g : Nat} {es : Array MapEntry} {c : Nat} (hb : w.heap[g]? = some (.map es c)) (n : Int) (z : Value) (hz : (zeroValue e).run P w = .ok z w) (hn : (Lit.int q n).wf = true) (hf : Instr.findNow (.int q) (.int q n) es.toList 0 = some none) :
    (Instr.lookup t (.map (some g)) (.int q n) true).run P w = .ok (.tuple #[z, .bool false]) w := by
  simp [Instr.lookup, run_underlying ht, MapKept.run_getObj_map hb, (int_keyed hk).check _ _ (keyOf_int_mk hk hn), Instr.findKey, run_underlying hk, hf, hz, Result.andThen]
end Go.Proofs.YtfpjmeknjhhakaaGreat.K

/- What comes in: bytes, numbers, entries, lists of them, out of the statement's own reading of the arguments. -/
namespace Go.Proofs.YtfpjmeknjhhakaaGreat.K
open Go Go.RowKit Go.ChangeShapes Go.WideShapes Go.Deep

set_option maxRecDepth 100000
theorem own : ownKnob Tryz.prog.godebug = none := by kernel_rfl
theorem laidOut : laidOutB Tryz.prog = true := by kernel_rfl
noncomputable def laidWorld (os : Os) : World := World.holding Tryz.prog os ⟨#[], #[], []⟩

/-- a byte that came in -/
theorem B8_of_wf {n : Int} (h : (Lit.int .u8 n).wf = true) : ∃ b : BitVec 8, Value.int .u8 n = B8 b := by
  have h' : 0 ≤ n ∧ n < 256 := by
    simp [Lit.wf, IntKind.min, IntKind.max, IntKind.bits, IntKind.signed] at h
    omega
  refine ⟨BitVec.ofInt 8 n, ?_⟩
  simp only [B8, BitVec.toNat_ofInt, Value.int.injEq, true_and]
  omega
/-- a slice of bytes that came in reads as a list -/
theorem Rd.of_ints {w : World} {x : Addr} {zs : List Int} (hcell : ∀ i, i < zs.length → w.cell? (x.add i) = some (.int .u8 (zs.getD i 0))) (hwz : ∀ n ∈ zs, (Lit.int .u8 n).wf = true) (n : Nat) :
    Rd w (some x) ((zs.take n).map (BitVec.ofInt 8)) := by
  intro k hk
  have hk2 : k < zs.length := by simp at hk; omega
  have hc := hcell k hk2
  obtain ⟨b, o, s⟩ := x
  have hs : s = none := by simpa [Addr.add] using World.cell?_spot (hcell 0 (by omega))
  subst hs
  refine ⟨b, o, rfl, ?_⟩
  rw [Addr.add_lit] at hc
  rw [hc]
  obtain ⟨y, hy⟩ := B8_of_wf (hwz zs[k] (List.getElem_mem _))
  have e : zs.getD k 0 = zs[k] := by simp [hk2]
  rw [e, hy]
  simp only [B8, Value.int.injEq, true_and] at hy
  simp only [List.getElem_map, List.getElem_take, hy, BitVec.ofInt_natCast, ofNat_self]
theorem inI64_of_wf {n : Int} (h : (Lit.int .i64 n).wf = true) : M.inI64 n := by
  simp [Lit.wf, IntKind.min, IntKind.max, IntKind.bits, IntKind.signed] at h
  exact ⟨by omega, by omega⟩

theorem cellsByte : Tryz.prog.cellsOf 5 = 1 := by kernel_rfl
theorem cellsInt : Tryz.prog.cellsOf 3 = 1 := by kernel_rfl
theorem cellsBool : Tryz.prog.cellsOf 4 = 1 := by kernel_rfl
theorem cellsBytes : Tryz.prog.cellsOf 37 = 1 := by kernel_rfl
theorem cellsEnt : Tryz.prog.cellsOf 62 = 6 := by kernel_rfl
theorem cellsKind : Tryz.prog.cellsOf 60 = 1 := by kernel_rfl

section
variable {H : Type} {enc : TypeId × Value → H} {W : World} {base b0 : Nat} {sp : Nat → Bool} {held : Bool} {r : Reach}
theorem cs_bytes {fuel : Nat} {v : Value} {x : DataW H × List MemPlace} (h : DataW.trod enc Tryz.prog W base sp held fuel 37 [v] = some x) :
    ∃ A n c bs, v = .slice A n c ∧ RowRd W ⟨A, n, c⟩ bs ∧ n ≤ c ∧ c ≤ 9223372036854775807 := by
  rcases open_ints Tryz.underlying37 Tryz.underlying5 cellsByte h with ⟨hcs, _⟩ | ⟨x, l, c, zs, hcs, _, hl, hm, hz, hx, hcell, hwz⟩
  · obtain rfl : v = .slice none 0 0 := by simpa using hcs
    exact ⟨none, 0, 0, [], rfl, ⟨Rd.of_nil _ _, rfl, fun _ => rfl⟩, by omega, by omega⟩
  · obtain rfl : v = .slice (some x) l c := by simpa using hcs
    unfold maxLen at hm
    refine ⟨some x, l, c, _, rfl, ⟨Rd.of_ints hcell hwz l, ?_, fun h => by cases h⟩, hl, hm⟩
    simp only [List.length_map, List.length_take]
    split at hz <;> omega
theorem cs_int {fuel : Nat} {v : Value} {x : DataW H × List MemPlace} (h : DataW.trod enc Tryz.prog W base sp held fuel 3 [v] = some x) : ∃ n, v = .int .i64 n ∧ M.inI64 n := by
  obtain ⟨n, hcs, _, hw⟩ := DataW.trod_int Tryz.underlying3 h
  obtain rfl : v = .int .i64 n := by simpa using hcs
  exact ⟨n, rfl, inI64_of_wf hw⟩
theorem cs_bool {fuel : Nat} {v : Value} {x : DataW H × List MemPlace} (h : DataW.trod enc Tryz.prog W base sp held fuel 4 [v] = some x) : ∃ b, v = .bool b := by
  obtain ⟨b, hcs, _⟩ := DataW.trod_bool Tryz.underlying4 h
  exact ⟨b, by simpa using hcs⟩
theorem cs_kind {fuel : Nat} {v : Value} {x : DataW H × List MemPlace} (h : DataW.trod enc Tryz.prog W base sp held fuel 60 [v] = some x) : ∃ b, v = B8 b := by
  obtain ⟨n, hcs, _, hw⟩ := DataW.trod_int Tryz.underlying60 h
  obtain rfl : v = .int .u8 n := by simpa using hcs
  exact B8_of_wf hw
/-- bytes that came in -/
theorem open_bytes {v : Value} {d : DataW H} {p : List MemPlace} (hv : Value.okWide Tryz.prog W r b0 37 v) (h : DataW.Trod enc Tryz.prog W base sp held 37 v d p) :
    ∃ A n c bs, v = .slice A n c ∧ RowRd W ⟨A, n, c⟩ bs ∧ n ≤ c ∧ c ≤ 9223372036854775807 := by
  obtain ⟨A, l, c, rfl⟩ := okWide_slice Tryz.underlying37 hv
  obtain ⟨fuel, hf⟩ := h
  exact cs_bytes hf
/-- a number that came in -/
theorem open_num {v : Value} {d : DataW H} {p : List MemPlace} (hv : Value.okWide Tryz.prog W r b0 3 v) (h : DataW.Trod enc Tryz.prog W base sp held 3 v d p) : ∃ n, v = .int .i64 n ∧ M.inI64 n := by
  obtain ⟨n, rfl, _, _, hw⟩ := open_int Tryz.underlying3 hv h
  exact ⟨n, rfl, inI64_of_wf hw⟩
/-- numbers that came in: those that are read -/
def Nums (W : World) (A : Option Addr) (n : Nat) : Prop := ∀ i, i < n → ∃ b o z, A = some ⟨b, o, none⟩ ∧ W.cell? ⟨b, o + i, none⟩ = some (.int .i64 z)
theorem Nums.below {w w' : World} {A : Option Addr} {n : Nat} (h : Nums w A n) (hb : Below w.heap.size w w') : Nums w' A n := fun i hi => by
  obtain ⟨b, o, z, e, hc⟩ := h i hi
  exact ⟨b, o, z, e, (hb.cell (p := ⟨b, o + i, none⟩) (block_lt_of_cell hc)).trans hc⟩
theorem open_nums {v : Value} {d : DataW H} {p : List MemPlace} (hv : Value.okWide Tryz.prog W r b0 53 v) (h : DataW.Trod enc Tryz.prog W base sp held 53 v d p) :
    ∃ A n c, v = .slice A n c ∧ Nums W A n ∧ n ≤ c ∧ c ≤ 9223372036854775807 := by
  obtain ⟨A, l, c, rfl⟩ := okWide_slice Tryz.underlying53 hv
  obtain ⟨fuel, hf⟩ := h
  rcases open_ints Tryz.underlying53 Tryz.underlying3 cellsInt hf with ⟨hcs, _⟩ | ⟨x, l, c, zs, hcs, _, hl, hm, hz, hx, hcell, hwz⟩
  · simp [Value.cells] at hcs
    obtain ⟨rfl, rfl, rfl⟩ := hcs
    exact ⟨none, 0, 0, rfl, fun i hi => absurd hi (Nat.not_lt_zero _), by omega, by omega⟩
  · simp [Value.cells] at hcs
    obtain ⟨rfl, rfl, rfl⟩ := hcs
    unfold maxLen at hm
    have hlz : l ≤ zs.length := by split at hz <;> omega
    refine ⟨_, _, _, rfl, fun i hi => ?_, hl, hm⟩
    obtain ⟨b, o, s⟩ := x
    have hs : s = none := by simpa [Addr.add] using World.cell?_spot (hcell 0 (by omega))
    subst hs
    exact ⟨b, o, _, rfl, by rw [← Addr.add_lit]; exact hcell i (by omega)⟩
/-- six cells that read as an entry -/
theorem cs_entry {fuel : Nat} {cs : List Value} {x : DataW H × List MemPlace} (h : DataW.trod enc Tryz.prog W base sp held fuel 62 cs = some x) :
    ∃ (e : M.Ent) (A : Option Addr) (n c : Nat), cs = [.int .i64 e.term, B8 e.kind, .int .i64 e.version, .int .i64 e.server, .bool e.good, .slice A n c] ∧ M.inI64 e.term ∧ M.inI64 e.version ∧ M.inI64 e.server ∧ RowRd W ⟨A, n, c⟩ e.data ∧ n ≤ c ∧ c ≤ 9223372036854775807 := by
  obtain ⟨xs, n, _, _, hlen, hxl, hf⟩ := DataW.trod_struct Tryz.underlying62 h
  rw [cellsEnt] at hlen
  match cs, hlen with
  | [c0, c1, c2, c3, c4, c5], _ =>
    match xs, hxl with
    | [y0, y1, y2, y3, y4, y5], _ =>
      have f0 : DataW.trod enc Tryz.prog W base sp held n 3 [c0] = some y0 := by simpa [cellsInt] using hf 0 _ rfl
      have f1 : DataW.trod enc Tryz.prog W base sp held n 60 [c1] = some y1 := by simpa [cellsKind] using hf 1 _ rfl
      have f2 : DataW.trod enc Tryz.prog W base sp held n 3 [c2] = some y2 := by simpa [cellsInt] using hf 2 _ rfl
      have f3 : DataW.trod enc Tryz.prog W base sp held n 3 [c3] = some y3 := by simpa [cellsInt] using hf 3 _ rfl
      have f4 : DataW.trod enc Tryz.prog W base sp held n 4 [c4] = some y4 := by simpa [cellsBool] using hf 4 _ rfl
      have f5 : DataW.trod enc Tryz.prog W base sp held n 37 [c5] = some y5 := by simpa [cellsBytes] using hf 5 _ rfl
      obtain ⟨t, rfl, ht⟩ := cs_int f0
      obtain ⟨k, rfl⟩ := cs_kind f1
      obtain ⟨v, rfl, hv⟩ := cs_int f2
      obtain ⟨s, rfl, hs⟩ := cs_int f3
      obtain ⟨g, rfl⟩ := cs_bool f4
      obtain ⟨A, m, c, bs, rfl, hr, h1, h2⟩ := cs_bytes f5
      exact ⟨⟨t, k, v, s, g, bs⟩, A, m, c, rfl, ht, hv, hs, hr, h1, h2⟩
theorem open_entry {v : Value} {d : DataW H} {p : List MemPlace} (hv : Value.okWide Tryz.prog W r b0 62 v) (h : DataW.Trod enc Tryz.prog W base sp held 62 v d p) :
    ∃ (e : M.Ent) (A : Option Addr) (n c : Nat), v = .agg #[.int .i64 e.term, B8 e.kind, .int .i64 e.version, .int .i64 e.server, .bool e.good, .slice A n c] ∧ M.inI64 e.term ∧ M.inI64 e.version ∧ M.inI64 e.server ∧ RowRd W ⟨A, n, c⟩ e.data ∧ n ≤ c ∧ c ≤ 9223372036854775807 := by
  obtain ⟨cs, rfl, hsz⟩ := okWide_struct Tryz.underlying62 hv
  obtain ⟨fuel, hf⟩ := h
  obtain ⟨e, A, n, c, h0, h1⟩ := cs_entry hf
  refine ⟨e, A, n, c, ?_, h1⟩
  have : cs.toList = _ := h0
  rw [← this]
/-- an entry in memory, its first cell at o of block b -/
def EntAt (W : World) (b o : Nat) (e : M.Ent) : Prop := ∃ A n c, (∀ j u, [Value.int .i64 e.term, B8 e.kind, .int .i64 e.version, .int .i64 e.server, .bool e.good, .slice A n c][j]? = some u → W.cell? ⟨b, o + j, none⟩ = some u) ∧ M.inI64 e.term ∧ M.inI64 e.version ∧ M.inI64 e.server ∧ RowRd W ⟨A, n, c⟩ e.data ∧ n ≤ c ∧ c ≤ 9223372036854775807
/-- entries that came in -/
def Ents (W : World) (A : Option Addr) (es : List M.Ent) : Prop := ∀ i, (h : i < es.length) → ∃ b o, A = some ⟨b, o, none⟩ ∧ EntAt W b (o + i * 6) es[i]
theorem EntAt.below {w w' : World} {b o : Nat} {e : M.Ent} (h : EntAt w b o e) (hb : Below w.heap.size w w') : EntAt w' b o e := by
  obtain ⟨A, n, c, hc, h1, h2, h3, h4, h5⟩ := h
  exact ⟨A, n, c, fun j u hu => (hb.cell (p := ⟨b, o + j, none⟩) (block_lt_of_cell (hc j u hu))).trans (hc j u hu), h1, h2, h3, h4.below hb, h5⟩
theorem Ents.below {w w' : World} {A : Option Addr} {es : List M.Ent} (h : Ents w A es) (hb : Below w.heap.size w w') : Ents w' A es := fun i hi => by
  obtain ⟨b, o, e, hc⟩ := h i hi
  exact ⟨b, o, e, hc.below hb⟩
theorem open_entries {v : Value} {d : DataW H} {p : List MemPlace} (hv : Value.okWide Tryz.prog W r b0 34 v) (h : DataW.Trod enc Tryz.prog W base sp held 34 v d p) :
    ∃ A n c es, v = .slice A n c ∧ Ents W A es ∧ es.length = n ∧ (A = none → c = 0) ∧ n ≤ c ∧ c ≤ 9223372036854775807 := by
  obtain ⟨A, l, c, rfl⟩ := okWide_slice Tryz.underlying34 hv
  obtain ⟨fuel, hf⟩ := h
  rcases open_slice Tryz.underlying34 hf with ⟨hcs, _⟩ | ⟨a, len, cap, m, n, D, Pl, hcs, hb, hl, hm, hmm, hx, hi⟩
  · simp [Value.cells] at hcs
    obtain ⟨rfl, rfl, rfl⟩ := hcs
    exact ⟨none, 0, 0, [], rfl, fun i hi => absurd hi (Nat.not_lt_zero _), rfl, fun _ => rfl, by omega, by omega⟩
  · simp [Value.cells] at hcs
    obtain ⟨rfl, rfl, rfl⟩ := hcs
    unfold maxLen at hm
    have hlm : l ≤ m := by split at hmm <;> omega
    rw [cellsEnt] at hi
    have hev : ∀ i : Nat, ∃ e : M.Ent, i < l → ∃ b o, a = ⟨b, o, none⟩ ∧ EntAt W b (o + i * 6) e := by
      intro i
      by_cases hil : i < l
      · obtain ⟨cs', hc, ht⟩ := hi i (by omega)
        obtain ⟨e, A, n2, c2, rfl, hr⟩ := cs_entry ht
        obtain ⟨_, _, hat⟩ := World.cells?_some hc
        obtain ⟨b, o, s⟩ := a
        obtain ⟨cs0, hc0, ht0⟩ := hi 0 (by omega)
        obtain ⟨_, _, _, _, rfl, _⟩ := cs_entry ht0
        obtain ⟨_, _, hat0⟩ := World.cells?_some hc0
        have hs : s = none := by simpa [Addr.add] using World.cell?_spot ((hat0 0 (by omega)).trans rfl)
        subst hs
        refine ⟨e, fun _ => ⟨b, o, rfl, A, n2, c2, fun j u hu => ?_, hr⟩⟩
        have hj : j < 6 := (List.getElem?_eq_some_iff.1 hu).1
        have h1 := hat j hj
        rw [hu, Addr.add_lit, Addr.add_lit] at h1
        exact h1
      · exact ⟨M.zeroEnt, fun h => absurd h hil⟩
    obtain ⟨f, hf⟩ := Classical.axiomOfChoice hev
    refine ⟨_, _, _, (List.range l).map f, rfl, fun i hi2 => ?_, by simp, (fun h => by cases h), hl, hm⟩
    have hil : i < l := by simpa using hi2
    obtain ⟨b, o, rfl, he⟩ := hf i hil
    exact ⟨b, o, rfl, by simpa using he⟩
end
end Go.Proofs.YtfpjmeknjhhakaaGreat.K

/- A slice that came in lies in memory that is there, also where nothing is read of it. -/
namespace Go.Proofs.YtfpjmeknjhhakaaGreat.K
open Go Go.RowKit Go.WideShapes Go.ChangeShapes

set_option maxRecDepth 100000 in
theorem okWide_lay {W : World} {r : Reach} {b0 : Nat} {t e : TypeId} {A : Option Addr} {n c : Nat} (ht : Tryz.prog.underlying t = some (.slice e)) (h : Value.okWide Tryz.prog W r b0 t (.slice A n c)) : ∀ a, A = some a → a.block < W.heap.size := by
  rintro a rfl
  simp only [Value.okWide, ht, Cell.okWide, Cell.ok] at h
  obtain ⟨_, _, _, _, row, cells, hs, _⟩ := h
  unfold World.shape? at hs
  cases hg : W.heap[a.block]? with
  | none => rw [hg] at hs; cases hs
  | some o => exact (Array.getElem?_eq_some_iff.1 hg).1
set_option maxRecDepth 100000 in
/-- a word that came in -/
theorem open_u32 {H : Type} {enc : TypeId × Value → H} {W : World} {base b0 : Nat} {sp : Nat → Bool} {held : Bool} {r : Reach} {v : Value} {d : DataW H} {p : List MemPlace} (hv : Value.okWide Tryz.prog W r b0 128 v) (h : DataW.Trod enc Tryz.prog W base sp held 128 v d p) : ∃ x : BitVec 32, v = W32 x := by
  obtain ⟨n, rfl, _, _, hw⟩ := open_int Tryz.underlying128 hv h
  have h' : 0 ≤ n ∧ n < 4294967296 := by
    simp [Lit.wf, IntKind.min, IntKind.max, IntKind.bits, IntKind.signed] at hw
    omega
  refine ⟨BitVec.ofInt 32 n, ?_⟩
  simp only [W32, BitVec.toNat_ofInt, Value.int.injEq, true_and]
  omega
end Go.Proofs.YtfpjmeknjhhakaaGreat.K

/- Frames in memory, and frames that came in. -/
namespace Go.Proofs.YtfpjmeknjhhakaaGreat.K
open Go Go.RowKit Go.ChangeShapes Go.WideShapes Go.Deep

set_option maxRecDepth 100000

/-- a frame in memory, its first cell at o of block b -/
def OneAt (W : World) (b o : Nat) (f : F.Fr) : Prop := ∃ A n c, (∀ j u, [Value.int .i64 f.kind, .slice A n c][j]? = some u → W.cell? ⟨b, o + j, none⟩ = some u) ∧ M.inI64 f.kind ∧ RowRd W ⟨A, n, c⟩ f.data ∧ n ≤ c ∧ c ≤ 9223372036854775807
/-- frames in memory -/
def Ones (W : World) (A : Option Addr) (fs : List F.Fr) : Prop := ∀ i, (h : i < fs.length) → ∃ b o, A = some ⟨b, o, none⟩ ∧ OneAt W b (o + i * 2) fs[i]
theorem OneAt.below {w w' : World} {b o : Nat} {f : F.Fr} (h : OneAt w b o f) (hb : Below w.heap.size w w') : OneAt w' b o f := by
  obtain ⟨A, n, c, hc, h1, h2, h3⟩ := h
  exact ⟨A, n, c, fun j u hu => (hb.cell (p := ⟨b, o + j, none⟩) (block_lt_of_cell (hc j u hu))).trans (hc j u hu), h1, h2.below hb, h3⟩
theorem Ones.below {w w' : World} {A : Option Addr} {fs : List F.Fr} (h : Ones w A fs) (hb : Below w.heap.size w w') : Ones w' A fs := fun i hi => by
  obtain ⟨b, o, e, hc⟩ := h i hi
  exact ⟨b, o, e, hc.below hb⟩
section
variable {H : Type} {enc : TypeId × Value → H} {W : World} {base b0 : Nat} {sp : Nat → Bool} {held : Bool} {r : Reach}
theorem weights_mem_all {P : Program} {e : TypeId} : ∀ {ds : List (DataW H)} {j : Nat} {d : DataW H}, ds[j]? = some d → ∀ n ∈ d.weights P e, n ∈ DataW.weightsAll P e ds
  | [], _, _, hd, _, _ => by simp at hd
  | x :: r, 0, d, hd, n, hn => by
    simp at hd; subst hd
    rw [DataW.weightsAll]; exact List.mem_append_left _ hn
  | x :: r, j + 1, d, hd, n, hn => by
    simp at hd
    rw [DataW.weightsAll]; exact List.mem_append_right _ (weights_mem_all hd n hn)
theorem bytesOfByte : Tryz.prog.bytesOf 5 = 1 := by kernel_rfl
/-- bytes that came in, their length under the reach -/
theorem cs_bytesW {fuel : Nat} {v : Value} {x : DataW H × List MemPlace} (h : DataW.trod enc Tryz.prog W base sp held fuel 37 [v] = some x) :
    ∃ A n c bs, v = .slice A n c ∧ RowRd W ⟨A, n, c⟩ bs ∧ n ≤ c ∧ c ≤ 9223372036854775807 ∧ ((∀ z ∈ x.1.weights Tryz.prog 37, z ≤ reachBytes) → n ≤ 140737488351232) := by
  rcases open_ints Tryz.underlying37 Tryz.underlying5 cellsByte h with ⟨hcs, _⟩ | ⟨a, l, c, zs, hcs, _, hl, hm, hz, hx, hcell, hwz⟩
  · obtain rfl : v = .slice none 0 0 := by simpa using hcs
    exact ⟨none, 0, 0, [], rfl, ⟨Rd.of_nil _ _, rfl, fun _ => rfl⟩, by omega, by omega, fun _ => by omega⟩
  · obtain rfl : v = .slice (some a) l c := by simpa using hcs
    unfold maxLen at hm
    have hlz : l ≤ zs.length := by split at hz <;> omega
    refine ⟨some a, l, c, _, rfl, ⟨Rd.of_ints hcell hwz l, ?_, fun h => by cases h⟩, hl, hm, fun hw => ?_⟩
    · simp only [List.length_map, List.length_take]
      omega
    · have hu : Tryz.prog.underlying 37 = some (.slice 5) := Tryz.underlying37
      have := hw (((lits .u8 (zs.take l)).length + (lits .u8 (zs.drop l)).length) * Tryz.prog.bytesOf 5) (by rw [hx]; simp only [DataW.weights, hu, List.mem_cons]; exact .inl rfl)
      rw [bytesOfByte] at this
      unfold reachBytes at this
      simp [lits] at this
      omega
end
end Go.Proofs.YtfpjmeknjhhakaaGreat.K

/- Entries that are lent, each with a row of its own. -/
namespace Go.Proofs.YtfpjmeknjhhakaaGreat.K
open Go Go.RowKit

def LentData2 (w0 w : World) (es : List M.Ent) (d : Nat → Nat) (k : Nat) : Prop := LentData w0 w es d k ∧ ∀ i j, i < j → j < k → d i ≠ d j
theorem LentData2.call {w0 w w' : World} {es : List M.Ent} {d : Nat → Nat} {k : Nat} (h : LentData2 w0 w es d k) (hs : Since w w') : LentData2 w0 w' es d k := ⟨h.1.call hs, h.2⟩
theorem LentData2.grown {w0 w w' : World} {es : List M.Ent} {d : Nat → Nat} {k : Nat} (h : LentData2 w0 w es d k) (hg : w.grownBy w' (some w0.heap.size)) : LentData2 w0 w' es d k := ⟨h.1.grown hg, h.2⟩
/-- lent entries, their rows apart -/
def LentED (w : World) (n : Nat) (es : List M.Ent) (e : Ending) (w' : World) : Prop := ∃ g d, e = .returned (.slice (some ⟨g, 0, none⟩) n (n + 12)) ∧ w.heap.size ≤ g ∧ w'.heap[g]? = some (.cells (lentEs es d n ++ markEs 12).toArray 62 (0, 0)) ∧ (∀ j, j < n → w.heap.size ≤ d j ∧ w'.heap[d j]? = some (.cells (bv ((es.getD j M.zeroEnt).data ++ marks 1 0 12)).toArray 5 (0, 0))) ∧ (∀ i j, i < j → j < n → d i ≠ d j) ∧ Since w w'
set_option maxHeartbeats 8000000 in
set_option maxRecDepth 100000 in
theorem LentEntriesD_any (A : Option Addr) (n c : Nat) (es : List M.Ent) (w : World) (hl : es.length = n) (hE : EntsRd w A es) (hn : n ≤ 1000000) (hD : ∀ e ∈ es, e.data.length ≤ 140737488000000) :
    Calls Tryz.prog 33 #[.slice A n c] w (LentED w n es) := by
  obtain ⟨i0, hi, hz0, hz1, hz2⟩ := info_parts infoEntry
  have HE := Lib.hid hE; have HL := Lib.hid hl; have HD := Lib.hid hD
  have BK0 := Lib.hid (Bank.nil (Below.refl w.heap.size w))
  clear hE hl hD
  go_enter Tryz.func33, Tryz.ntmps33
  go_wp2_with (at_make; refine wpList_make_own _ rfl _ _ 34 rfl w.heap.size 62 i0 _ 6 Tryz.underlying34 hi hz0 hz1 _ _ _ (n + 12) rfl rfl (by omega) (by rw [hz2]; omega) (by unfold maxLen; omega) (Nat.le_refl _) ?_; intro w1 hown1 hgrow1)
  have BK1 := Lib.hid (show Bank w w1 [entAcc w.heap.size 0 (n + 12) []] from ⟨(Below.refl _ _).grown hgrow1 (Nat.le_refl _) (by simp), fun p hp => by rw [List.mem_singleton.1 hp]; exact hown1, .cons (fun _ h => by cases h) .nil⟩)
  clear hown1 hgrow1 BK0
  go_loopw [3, 4] (fun v i wr => ∃ (k : Nat) (d : Nat → Nat), k ≤ n ∧ i = .int .i64 (k : Int) ∧ v = .slice (some ⟨w.heap.size, 0, none⟩) k (n + 12) ∧ Bank w wr [entAcc w.heap.size k (n + 12) (lentEs es d k)] ∧ LentData2 w wr es d k) (fun _ i _ => n - (intOf i).toNat)
  case atStart => exact ⟨0, fun _ => 0, by omega, rfl, rfl, BK1.out, fun _ h => absurd h (Nat.not_lt_zero _), fun _ _ _ h => absurd h (Nat.not_lt_zero _)⟩
  case round =>
    clear BK1
    obtain ⟨k, d, hk, rfl, rfl, hB, hLD⟩ := hrel
    have BK := Lib.hid hB; have LD := Lib.hid hLD
    clear hB hLD
    have k0 : (0 : Int) ≤ (k : Int) := by omega
    rcases Nat.lt_or_ge k n with h1 | h1
    · have i1 : (k : Int) < (n : Int) := by omega
      have hkl : k < es.length := by rw [HL.out]; exact h1
      obtain ⟨b, o, rfl, A', m', c2, ⟨y0, y1, y2, y3, y4, y5⟩, hrd⟩ := HE.out.since BK.out.since k hkl
      obtain ⟨x, hx⟩ : ∃ x, x = es[k] := ⟨_, rfl⟩
      rw [← hx] at y0 y1 y2 y3 y4 hrd
      have HXD := Lib.hid (show es.getD k M.zeroEnt = x by rw [hx]; simp [hkl])
      have HML := Lib.hid (show x.data.length = m' from hrd.len)
      have HMB := Lib.hid (show m' ≤ 140737488000000 by rw [← HML.out, hx]; exact HD.out _ (List.getElem_mem _))
      have HRD := Lib.hid hrd
      clear hx hrd
      go_wp2_with fail
      clear y0 y1 y2 y3 y4 y5
      refine (LentEntry_any x.term x.version x.server x.kind x.good A' m' c2 x.data wr HRD.out HMB.out).mono ?_
      rintro e w1 ⟨g, rfl, hg, hb, hs⟩
      have hGw := (BK.out.lt (List.mem_singleton.2 rfl) (p := entAcc w.heap.size k (n + 12) (lentEs es d k)) (b := w.heap.size) rfl).2
      have HG := Lib.hid (show w.heap.size < g by omega)
      have BK3 := Lib.hid (((BK.out.call hs).alloc (.cells #[.int .i64 x.term, B8 x.kind, .int .i64 x.version, .int .i64 x.server, .bool x.good, .slice (some ⟨g, 0, none⟩) m' (m' + 12)] 62)).alloc (.cells #[.int .i64 x.term, B8 x.kind, .int .i64 x.version, .int .i64 x.server, .bool x.good, .slice (some ⟨g, 0, none⟩) m' (m' + 12)] 62))
      have S3 := Lib.hid (tmBx (w := w1) (c := #[.int .i64 x.term, B8 x.kind, .int .i64 x.version, .int .i64 x.server, .bool x.good, .slice (some ⟨g, 0, none⟩) m' (m' + 12)]) (d := #[.int .i64 x.term, B8 x.kind, .int .i64 x.version, .int .i64 x.server, .bool x.good, .slice (some ⟨g, 0, none⟩) m' (m' + 12)]) (t := 62))
      have LD1 := Lib.hid (show LentData2 w w1 es (upd d k g) (k + 1) from ⟨fun j hj => by
        by_cases h : j = k
        · subst h
          rw [upd_same, HXD.out]
          exact ⟨HG.out, hb⟩
        · rw [upd_other _ _ _ h]
          exact (LD.out.1.call hs) j (by omega), fun i j hij hjk => by
        by_cases h : j = k
        · subst h
          rw [upd_same, upd_other _ _ _ (by omega)]
          have := (Array.getElem?_eq_some_iff.1 (LD.out.1 i hij).2).1
          omega
        · rw [upd_other _ _ _ h, upd_other _ _ _ (by omega)]
          exact LD.out.2 i j hij (by omega)⟩)
      have HCG := Lib.hid (lentEs_congr es (upd d k g) d k (fun j hj => upd_other _ _ _ (by omega)))
      clear hg hb hs hGw BK LD HRD
      go_wp2_with (at_builtin; refine wpList_append_fits _ rfl _ _ 34 rfl w.heap.size 62 i0 6 Tryz.underlying34 hi hz1 w.heap.size k (n + 12) (lentEs es d k) rfl (BK3.out.at 0 rfl) ⟨w1.heap.size + 1, 0, none⟩ 1 1 (entL x.term x.version x.server x.kind x.good (some ⟨g, 0, none⟩) m' (m' + 12)) rfl rfl (cells_litE2 w1 _ (entL x.term x.version x.server x.kind x.good (some ⟨g, 0, none⟩) m' (m' + 12)) _) (entL_oneL _ _ _ _ _ _ _ _) (by omega) ?_; intro w4 hown4 hgrow4; have HO4 := Lib.hid hown4; have HG4 := Lib.hid hgrow4; clear hown4 hgrow4)
      go_roundw
      case rel =>
        refine ⟨k + 1, upd d k g, by omega, by go_num, rfl, ?_, (LD1.out.call S3.out).grown HG4.out⟩
        rw [lentEs_succ, HCG.out, upd_same, HXD.out, show lentE x g = entL x.term x.version x.server x.kind x.good (some ⟨g, 0, none⟩) m' (m' + 12) by rw [lentE, HML.out]]
        exact BK3.out.put 0 rfl (p' := entAcc w.heap.size (k + 1) (n + 12) _) HO4.out HG4.out (.inl rfl)
      case measure => simp [intOf]; omega
    · have i1 : ¬ (k : Int) < (n : Int) := by omega
      obtain rfl : k = n := by omega
      go_wp2_with fail
      go_loopw [3, 6] (fun v i wr => ∃ q : Nat, q ≤ 12 ∧ i = .int .i64 (q : Int) ∧ v = .slice (some ⟨w.heap.size, 0, none⟩) (k + q) (k + 12) ∧ Bank w wr [entAcc w.heap.size (k + q) (k + 12) (lentEs es d k ++ markEs q)] ∧ LentData2 w wr es d k) (fun _ i _ => 12 - (intOf i).toNat)
      case atStart => exact ⟨0, by omega, rfl, rfl, by have h := BK.out; simpa [markEs] using h, LD.out⟩
      case round =>
        clear BK LD
        obtain ⟨q, hq, rfl, rfl, hB, hLD⟩ := hrel
        have BK := Lib.hid hB; have LD := Lib.hid hLD
        clear hB hLD
        have q0 : (0 : Int) ≤ (q : Int) := by omega
        rcases Nat.lt_or_ge q 12 with h2 | h2
        · have i2 : (q : Int) < 12 := by omega
          go_wp2_with fail
          refine (markEntry_any 1 (q : Int) wr).mono ?_
          rintro e w1 ⟨rfl, hs⟩
          have BK3 := Lib.hid ((BK.out.call hs).alloc (.cells (mEnt 1 (q : Int)).toArray 62))
          have LD3 := Lib.hid ((LD.out.call hs).call (Since.alloc (Below.refl _ _) (.cells (mEnt 1 (q : Int)).toArray 62)))
          clear hs BK LD
          go_wp2_with (at_builtin; refine wpList_append_fits _ rfl _ _ 34 rfl w.heap.size 62 i0 6 Tryz.underlying34 hi hz1 w.heap.size (k + q) (k + 12) (lentEs es d k ++ markEs q) rfl (BK3.out.at 0 rfl) ⟨w1.heap.size, 0, none⟩ 1 1 (mEnt 1 (q : Int)) rfl rfl (cells_lit1 w1 (mEnt 1 (q : Int)) _) (entL_oneL _ _ _ _ _ _ _ _) (by omega) ?_; intro w4 hown4 hgrow4; have HO4 := Lib.hid hown4; have HG4 := Lib.hid hgrow4; clear hown4 hgrow4)
          go_roundw
          case rel =>
            refine ⟨q + 1, by omega, by go_num, by rw [Nat.add_assoc], ?_, LD3.out.grown HG4.out⟩
            rw [markEs_succ, ← List.append_assoc, ← Nat.add_assoc]
            exact BK3.out.put 0 rfl (p' := entAcc w.heap.size (k + q + 1) (k + 12) _) HO4.out HG4.out (.inl rfl)
          case measure => simp [intOf]; omega
        · have i2 : ¬ (q : Int) < 12 := by omega
          obtain rfl : q = 12 := by omega
          have hf := own_fullE (BK.out.at 0 rfl)
          have HFIN := Lib.hid (show LentED w k es (.returned (.slice (some ⟨w.heap.size, 0, none⟩) k (k + 12))) wr from ⟨_, d, rfl, Nat.le_refl _, hf.2, fun j hj => ⟨Nat.le_of_lt (LD.out.1 j hj).1, (LD.out.1 j hj).2⟩, LD.out.2, BK.out.since⟩)
          clear hf
          go_wp2
          go_ret
          exact HFIN.out
end Go.Proofs.YtfpjmeknjhhakaaGreat.K

/- The contract of barbicankit.OverBytes: what was lent is written over; nothing else. -/
namespace Go.Proofs.YtfpjmeknjhhakaaGreat.K
open Go Go.RowKit

set_option maxHeartbeats 1000000 in
set_option maxRecDepth 100000 in
theorem OverBytes_any (g n : Nat) (bs : List (BitVec 8)) (t : TypeId) (w : World) (hg : w.heap[g]? = some (.cells (bv bs).toArray t (0, 0))) (hn : bs.length = n + 12) (hn2 : n ≤ 140737488000000) :
    Calls Tryz.prog 94 #[.slice (some ⟨g, 0, none⟩) n (n + 12)] w fun e w' => e = .returned (.tuple #[]) ∧ w.grownBy w' (some g) := by
  have HG := Lib.hid hg; have HN := Lib.hid hn
  clear hg hn
  have i0 : (0 : Int) ≤ (n : Int) + 12 := by omega
  go_enter Tryz.func94, Tryz.ntmps94
  go_wp2
  go_loopw [3] (fun i wr => ∃ (k : Nat) (xs : List (BitVec 8)), k ≤ n + 12 ∧ i = .int .i64 (k : Int) ∧ xs.length = n + 12 ∧ wr.heap[g]? = some (.cells (bv xs).toArray t (0, 0)) ∧ w.grownBy wr (some g)) (fun i _ => n + 12 - (intOf i).toNat)
  case atStart => exact ⟨0, bs, by omega, rfl, HN.out, HG.out, World.grownBy.refl _ _⟩
  case round =>
    clear HG HN
    obtain ⟨k, xs, hk, rfl, hl, hb, hgr⟩ := hrel
    have k0 : (0 : Int) ≤ (k : Int) := by omega
    rcases Nat.lt_or_ge k (n + 12) with h1 | h1
    · have i1 : (k : Int) < (n : Int) + 12 := by omega
      have hc : wr.cell? ⟨g, k, none⟩ = some (B8 (xs.getD k 0)) := block_cell hb (by simp [bv, show k < xs.length by omega])
      have hf : wr.frozen? ⟨g, k, none⟩ = false := frozen_of_row wr g k _ _ hb
      have HB := Lib.hid (block_set hb k (B8 (markB 2 (k : Int)))); have HGR := Lib.hid hgr; have HL := Lib.hid hl
      clear hb hgr hl
      go_wp2_with (first
        | (go_at_call 109; refine (markByte_any _ _ _).mono ?_; rintro e w' ⟨rfl, rfl⟩)
        | (with_reducible refine wpList_store_one rfl 5 (.tmp 19) (.tmp 18) rfl ⟨g, k, none⟩ (B8 (markB 2 (k : Int))) _ rfl rfl rfl (by kernel_rfl) hc hf ?_))
      go_roundw
      case rel =>
        refine ⟨k + 1, xs.set k (markB 2 (k : Int)), by omega, by go_num, by rw [List.length_set]; exact HL.out, ?_, ?_⟩
        · have e2 : bv (xs.set k (markB 2 (k : Int))) = (bv xs).set k (B8 (markB 2 (k : Int))) := by simp [bv]
          rw [e2]; exact HB.out
        · have h := HGR.out
          have h2 := grownBy_setCell wr g k (B8 (markB 2 (k : Int)))
          exact ⟨h2.os.trans h.os, h2.tape.trans h.tape, h2.output.trans h.output, Nat.le_trans h.size h2.size, fun j hj hne => (h2.block j (Nat.lt_of_lt_of_le hj h.size) hne).trans (h.block j hj hne)⟩
      case measure => simp [intOf]; omega
    · have i1 : ¬ (k : Int) < (n : Int) + 12 := by omega
      have HGR := Lib.hid hgr
      clear hb hgr hl
      go_wp2
      go_end0
      exact ⟨rfl, HGR.out⟩
end Go.Proofs.YtfpjmeknjhhakaaGreat.K

/- The contract of barbicankit.EntriesOf. -/
namespace Go.Proofs.YtfpjmeknjhhakaaGreat.K
open Go Go.RowKit

def esum (es : List M.Ent) (k : Nat) : Nat := ((es.take k).map fun e => e.data.length / 8).sum
theorem esum_succ (es : List M.Ent) (k : Nat) (h : k < es.length) : esum es (k + 1) = esum es k + es[k].data.length / 8 := by
  unfold esum
  rw [List.take_succ_eq_append_getElem h, List.map_append, List.sum_append]
  simp
theorem esum_le (es : List M.Ent) (k i : Nat) (hk : k ≤ es.length) (hi : i < k) : es[i].data.length / 8 ≤ esum es k := by
  induction k with
  | zero => omega
  | succ k ih =>
    rw [esum_succ es k (by omega)]
    by_cases h : i = k
    · subst h; omega
    · have := ih (by omega) (by omega); omega
/-- so many entries and eighths of bytes; or more than most -/
def EOf (w : World) (most n : Nat) (es : List M.Ent) (e : Ending) (w' : World) : Prop := ∃ r : Nat, e = .returned (.int .i64 (r : Int)) ∧ (r ≤ most → n + esum es n ≤ most) ∧ w = w'
end Go.Proofs.YtfpjmeknjhhakaaGreat.K

/- The contracts of barbicankit's KeptEntries, LentLetter, KeptLetter, LetterOf. -/
namespace Go.Proofs.YtfpjmeknjhhakaaGreat.K
open Go Go.RowKit

theorem flat_len {f : Nat → List Value} {es : Nat} (hf : ∀ i, (f i).length = es) : ∀ n, ((List.range n).flatMap f).length = n * es
  | 0 => by simp
  | n + 1 => by rw [List.range_succ, List.flatMap_append, List.length_append, flat_len hf n, Nat.add_mul]; simp [hf]
theorem flat_at {f : Nat → List Value} {es : Nat} (hf : ∀ i, (f i).length = es) {n i j : Nat} (hi : i < n) (hj : j < es) : ((List.range n).flatMap f)[i * es + j]? = (f i)[j]? := by
  induction n with
  | zero => omega
  | succ n ih =>
    rw [List.range_succ, List.flatMap_append]
    by_cases h : i < n
    · have hm : (i + 1) * es ≤ n * es := Nat.mul_le_mul_right _ h
      have hm2 : (i + 1) * es = i * es + es := by rw [Nat.add_mul, Nat.one_mul]
      rw [List.getElem?_append_left (by rw [flat_len hf]; omega)]
      exact ih h
    · obtain rfl : i = n := by omega
      rw [List.getElem?_append_right (by rw [flat_len hf]; omega), flat_len hf, show i * es + j - i * es = j by omega]
      simp
theorem lent_at {es : List M.Ent} {d : Nat → Nat} {n k j : Nat} {m : List Value} (hk : k < n) (hj : j < 6) : (lentEs es d n ++ m)[k * 6 + j]? = (lentE (es.getD k M.zeroEnt) (d k))[j]? := by
  rw [List.getElem?_append_left (by rw [lentEs_length]; omega)]
  exact flat_at (f := fun i => lentE (es.getD i M.zeroEnt) (d i)) (fun i => lentE_length _ _) hk hj
theorem mark_at {es : List M.Ent} {d : Nat → Nat} {n k q j : Nat} (hq : k < q) (hj : j < 6) : (lentEs es d n ++ markEs q)[(n + k) * 6 + j]? = (mEnt 1 k)[j]? := by
  rw [List.getElem?_append_right (by rw [lentEs_length]; omega), lentEs_length, show (n + k) * 6 + j - n * 6 = k * 6 + j by omega]
  exact flat_at (f := fun i : Nat => mEnt 1 i) (fun i => mEnt_length _ _) hq hj
set_option maxHeartbeats 8000000 in
set_option maxRecDepth 100000 in
theorem KeptEntries_any (g : Nat) (d : Nat → Nat) (A : Option Addr) (n c : Nat) (es : List M.Ent) (w : World) (hg : w.heap[g]? = some (.cells (lentEs es d n ++ markEs 12).toArray 62 (0, 0))) (hd : ∀ j, j < n → w.heap[d j]? = some (.cells (bv ((es.getD j M.zeroEnt).data ++ marks 1 0 12)).toArray 5 (0, 0)))
    (hl : es.length = n) (hE : EntsRd w A es) (hn : n ≤ 1000000) (hD : ∀ e ∈ es, e.data.length ≤ 140737488000000) :
    Calls Tryz.prog 34 #[.slice (some ⟨g, 0, none⟩) n (n + 12), .slice A n c] w (SaidB w true) := by
  have HG := Lib.hid hg; have HDD := Lib.hid hd; have HL := Lib.hid hl; have HE := Lib.hid hE; have HD := Lib.hid hD
  clear hg hd hl hE hD
  go_enter Tryz.func34, Tryz.ntmps34
  go_wp2
  go_loopw [6] (fun i wr => ∃ k : Nat, k ≤ n + 12 ∧ i = .int .i64 (k : Int) ∧ Since w wr) (fun i _ => n + 12 - (intOf i).toNat)
  case atStart => exact ⟨0, by omega, rfl, Below.refl _ _⟩
  case round =>
    obtain ⟨k, hk, rfl, hs⟩ := hrel
    have S1 := Lib.hid hs
    clear hs
    have k0 : (0 : Int) ≤ (k : Int) := by omega
    have hgr := Since.at S1.out HG.out
    rcases Nat.lt_or_ge k (n + 12) with h1 | h1
    · have i1 : (k : Int) < ((n + 12 : Nat) : Int) := by omega
      have i1' : (k : Int) < (n : Int) + 12 := by omega
      rcases Nat.lt_or_ge k n with h2 | h2
      · have i2 : (k : Int) < (n : Int) := by omega
        have d2 : decide ((k : Int) < (n : Int)) = true := by simpa using i2
        have d4 : decide (n ≤ k) = false := by simp; omega
        have d5 : decide ((n : Int) ≤ (k : Int)) = false := by simp; omega
        have d6 : decide (k < n) = true := by simp; omega
        have hkl : k < es.length := by rw [HL.out]; exact h2
        obtain ⟨b, o, rfl, A', m', c2, ⟨y0, y1, y2, y3, y4, y5⟩, hrd⟩ := HE.out.since S1.out k hkl
        obtain ⟨x, hx⟩ : ∃ x, x = es[k] := ⟨_, rfl⟩
        rw [← hx] at y0 y1 y2 y3 y4 hrd
        have hxd : es.getD k M.zeroEnt = x := by rw [hx]; simp [hkl]
        have hml : x.data.length = m' := hrd.len
        have hmb : m' ≤ 140737488000000 := by rw [← hml, hx]; exact HD.out _ (List.getElem_mem _)
        have hla : ∀ j, j < 6 → (lentEs es d n ++ markEs 12)[k * 6 + j]? = (entL x.term x.version x.server x.kind x.good (some ⟨d k, 0, none⟩) m' (m' + 12))[j]? := fun j hj => by
          rw [lent_at h2 hj, hxd, lentE, hml]
        have z0 : wr.cell? ⟨g, k * 6, none⟩ = some (.int .i64 x.term) := block_cell hgr (hla 0 (by omega))
        have z1 : wr.cell? ⟨g, k * 6 + 1, none⟩ = some (B8 x.kind) := block_cell hgr (hla 1 (by omega))
        have z2 : wr.cell? ⟨g, k * 6 + 2, none⟩ = some (.int .i64 x.version) := block_cell hgr (hla 2 (by omega))
        have z3 : wr.cell? ⟨g, k * 6 + 3, none⟩ = some (.int .i64 x.server) := block_cell hgr (hla 3 (by omega))
        have z4 : wr.cell? ⟨g, k * 6 + 4, none⟩ = some (.bool x.good) := block_cell hgr (hla 4 (by omega))
        have z5 : wr.cell? ⟨g, k * 6 + 5, none⟩ = some (.slice (some ⟨d k, 0, none⟩) m' (m' + 12)) := block_cell hgr (hla 5 (by omega))
        have hdk := Since.at S1.out (HDD.out k h2)
        rw [hxd] at hdk
        have HKE := Lib.hid (fun (dq : Nat) (osq : Array Obj) => KeptEntry_any x.term x.version x.server x.kind x.good (d k) A' m' c2 x.data _ (Since.at (below_regrown wr dq osq) hdk) (Since.row (below_regrown wr dq osq) hrd) hmb)
        clear hx hxd hrd hml hmb hla hdk hgr
        go_upto_region 7 with fail
        have ry0 := cell_regrown y0
        have ry1 := cell_regrown y1
        have ry2 := cell_regrown y2
        have ry3 := cell_regrown y3
        have ry4 := cell_regrown y4
        have ry5 := cell_regrown y5
        have rz0 := cell_regrown z0
        have rz1 := cell_regrown z1
        have rz2 := cell_regrown z2
        have rz3 := cell_regrown z3
        have rz4 := cell_regrown z4
        have rz5 := cell_regrown z5
        clear y0 y1 y2 y3 y4 y5 z0 z1 z2 z3 z4 z5
        refine wp_region_quiet_below (by kernel_rfl) (by kernel_rfl) ?_
        repeat (refine @wpQuiet_step _ _ _ _ _ _ _ ?_; intro K hK; go_simp; first | (refine hK _ ?_; clear hK K) | (apply Exists.intro; refine ⟨fun _ => ?_, hK _ ?_⟩; (with_reducible exact Calls.regrown_of (HKE.out _ _)); clear hK K))
        refine wpQuiet_nil ?_
        intro _ hw'
        obtain ⟨⟨dq, osq⟩, hw''⟩ := hw'
        subst hw''
        have S2 := Lib.hid (S1.out.add (below_regrown wr dq osq))
        clear ry0 ry1 ry2 ry3 ry4 ry5 rz0 rz1 rz2 rz3 rz4 rz5 S1
        go_wp2_with fail
        go_roundw
        case rel => exact ⟨k + 1, by omega, by go_num, S2.out⟩
        case measure => simp [intOf]; omega
      · have i2 : ¬ (k : Int) < (n : Int) := by omega
        have d2 : decide ((k : Int) < (n : Int)) = false := by simpa using i2
        have i3 : (n : Int) ≤ (k : Int) := by omega
        have d3 : decide ((n : Int) ≤ (k : Int)) = true := by simpa using i3
        have d4 : decide (n ≤ k) = true := by simp; omega
        have d6 : decide (k < n) = false := by simp; omega
        obtain ⟨q, hq⟩ : ∃ q, k = n + q := ⟨k - n, by omega⟩
        have hla : ∀ j, j < 6 → (lentEs es d n ++ markEs 12)[k * 6 + j]? = (mEnt 1 q)[j]? := fun j hj => by rw [hq]; exact mark_at (by omega) hj
        have z0 : wr.cell? ⟨g, k * 6, none⟩ = some (.int .i64 (markI 1 q)) := block_cell hgr (hla 0 (by omega))
        have z1 : wr.cell? ⟨g, k * 6 + 1, none⟩ = some (B8 0#8) := block_cell hgr (hla 1 (by omega))
        have z2 : wr.cell? ⟨g, k * 6 + 2, none⟩ = some (.int .i64 0) := block_cell hgr (hla 2 (by omega))
        have z3 : wr.cell? ⟨g, k * 6 + 3, none⟩ = some (.int .i64 0) := block_cell hgr (hla 3 (by omega))
        have z4 : wr.cell? ⟨g, k * 6 + 4, none⟩ = some (.bool false) := block_cell hgr (hla 4 (by omega))
        have z5 : wr.cell? ⟨g, k * 6 + 5, none⟩ = some (.slice none 0 0) := block_cell hgr (hla 5 (by omega))
        have hsub : IntKind.i64.wrap ((k : Int) - (n : Int)) = (q : Int) := by rw [show ((k : Int) - (n : Int)) = (q : Int) by omega]; exact IntWalk.i64_in _ (by omega)
        clear hla hgr hq
        go_upto_region 7 with fail
        have rz0 := cell_regrown z0
        have rz1 := cell_regrown z1
        have rz2 := cell_regrown z2
        have rz3 := cell_regrown z3
        have rz4 := cell_regrown z4
        have rz5 := cell_regrown z5
        clear z0 z1 z2 z3 z4 z5
        have HSM := Lib.hid (fun (w : World) => SameEntry_eq (markI 1 q) 0 0 0#8 false none none 0 0 0 0 [] w ⟨Rd.of_nil _ _, rfl, fun _ => rfl⟩ ⟨Rd.of_nil _ _, rfl, fun _ => rfl⟩ (by omega))
        refine wp_region_quiet_below (by kernel_rfl) (by kernel_rfl) ?_
        repeat (refine @wpQuiet_step _ _ _ _ _ _ _ ?_; intro K hK; go_simp; first | (refine hK _ ?_; clear hK K) | (apply Exists.intro; refine ⟨fun _ => ?_, hK _ ?_⟩; (first | (with_reducible exact Calls.regrown_of (markEntry_any _ _ _)) | (with_reducible exact Calls.regrown_of (HSM.out _))); clear hK K))
        refine wpQuiet_nil ?_
        intro _ hw'
        obtain ⟨⟨dq, osq⟩, hw''⟩ := hw'
        subst hw''
        have S2 := Lib.hid (S1.out.add (below_regrown wr dq osq))
        clear rz0 rz1 rz2 rz3 rz4 rz5 S1
        go_wp2_with fail
        go_roundw
        case rel => exact ⟨k + 1, by omega, by go_num, S2.out⟩
        case measure => simp [intOf]; omega
    · have i1 : ¬ (k : Int) < ((n + 12 : Nat) : Int) := by omega
      have i1' : ¬ (k : Int) < (n : Int) + 12 := by omega
      have HFIN := Lib.hid (show SaidB w true (.returned (.bool true)) wr from ⟨rfl, S1.out⟩)
      clear hgr
      go_wp2
      go_ret
      exact HFIN.out
/-- lent data -/
def LentD (w0 w : World) (n : Nat) (es : List M.Ent) (g : Nat) (d : Nat → Nat) : Prop := w0.heap.size ≤ g ∧ w.heap[g]? = some (.cells (lentEs es d n ++ markEs 12).toArray 62 (0, 0)) ∧ ∀ j, j < n → w0.heap.size ≤ d j ∧ w.heap[d j]? = some (.cells (bv ((es.getD j M.zeroEnt).data ++ marks 1 0 12)).toArray 5 (0, 0))
theorem LentD.since {w0 w w' : World} {n : Nat} {es : List M.Ent} {g : Nat} {d : Nat → Nat} (h : LentD w0 w n es g d) (hs : Since w w') : LentD w0 w' n es g d := ⟨h.1, Since.at hs h.2.1, fun j hj => ⟨(h.2.2 j hj).1, Since.at hs (h.2.2 j hj).2⟩⟩
theorem LentD.low {w0 w1 w : World} {n : Nat} {es : List M.Ent} {g : Nat} {d : Nat → Nat} (h : LentD w1 w n es g d) (hs : w0.heap.size ≤ w1.heap.size) : LentD w0 w n es g d := ⟨Nat.le_trans hs h.1, h.2.1, fun j hj => ⟨Nat.le_trans hs (h.2.2 j hj).1, (h.2.2 j hj).2⟩⟩
/-- lent entries read as entries -/
theorem LentD.rd {w0 w : World} {n : Nat} {es : List M.Ent} {g : Nat} {d : Nat → Nat} (h : LentD w0 w n es g d) (hl : es.length = n) : EntsRd w (some ⟨g, 0, none⟩) es := fun i hi => by
  have hin : i < n := by omega
  have hx : es.getD i M.zeroEnt = es[i] := by simp [hi]
  have hla : ∀ j, j < 6 → (lentEs es d n ++ markEs 12)[i * 6 + j]? = (lentE es[i] (d i))[j]? := fun j hj => by rw [lent_at hin hj, hx]
  refine ⟨g, 0, rfl, some ⟨d i, 0, none⟩, es[i].data.length, es[i].data.length + 12, ?_, ?_⟩
  · rw [Nat.zero_add]
    exact ⟨block_cell h.2.1 (hla 0 (by omega)), block_cell h.2.1 (hla 1 (by omega)), block_cell h.2.1 (hla 2 (by omega)), block_cell h.2.1 (hla 3 (by omega)), block_cell h.2.1 (hla 4 (by omega)), block_cell h.2.1 (hla 5 (by omega))⟩
  · have h2 := (h.2.2 i hin).2
    rw [hx] at h2
    exact lent_row h2 rfl
end Go.Proofs.YtfpjmeknjhhakaaGreat.K

/- The contracts of barbicankit.OverEntry and OverEntries: what was lent is written over; nothing else. -/
namespace Go.Proofs.YtfpjmeknjhhakaaGreat.K
open Go Go.RowKit

set_option maxHeartbeats 1000000 in
set_option maxRecDepth 100000 in
theorem OverEntry_any (t v s : Int) (K : BitVec 8) (G : Bool) (g n : Nat) (bs : List (BitVec 8)) (w : World) (hg : w.heap[g]? = some (.cells (bv bs).toArray 5 (0, 0))) (hn : bs.length = n + 12) (hn2 : n ≤ 140737488000000) :
    Calls Tryz.prog 72 #[.agg #[.int .i64 t, B8 K, .int .i64 v, .int .i64 s, .bool G, .slice (some ⟨g, 0, none⟩) n (n + 12)]] w fun e w' => e = .returned (.tuple #[]) ∧ w.grownBy w' (some g) := by
  have hlt : g < w.heap.size := (Array.getElem?_eq_some_iff.1 hg).1
  have HB := Lib.hid (OverBytes_any g n bs 5 (w.alloc (.cells #[.int .i64 t, B8 K, .int .i64 v, .int .i64 s, .bool G, .slice (some ⟨g, 0, none⟩) n (n + 12)] 62)) (Since.at (Since.alloc (Below.refl _ _) _) hg) hn hn2)
  have HG := Lib.hid (Since.alloc (Below.refl w.heap.size w) (.cells #[.int .i64 t, B8 K, .int .i64 v, .int .i64 s, .bool G, .slice (some ⟨g, 0, none⟩) n (n + 12)] 62))
  clear hg hn
  go_enter Tryz.func72, Tryz.ntmps72
  go_wp2_with fail
  refine HB.out.mono ?_
  rintro e w2 ⟨rfl, h2⟩
  have HFIN := Lib.hid (show w.grownBy w2 (some g) from ⟨h2.os.trans HG.out.os, h2.tape.trans HG.out.tape, h2.output.trans HG.out.output, Nat.le_trans HG.out.size h2.size, fun j hj hne => (h2.block j (Nat.lt_of_lt_of_le hj HG.out.size) hne).trans (HG.out.block j hj)⟩)
  clear h2
  go_wp2
  go_end0
  exact ⟨rfl, HFIN.out⟩
/-- these blocks alone were written, or new ones made -/
structure OverW (w w' : World) (n g : Nat) (d : Nat → Nat) : Prop where
  os : w'.os = w.os
  tape : w'.tape = w.tape
  output : w'.output = w.output
  size : w.heap.size ≤ w'.heap.size
  block : ∀ b, b < w.heap.size → b ≠ g → (∀ j, j < n → d j ≠ b) → w'.heap[b]? = w.heap[b]?
theorem OverW.refl (w : World) (n g : Nat) (d : Nat → Nat) : OverW w w n g d := ⟨rfl, rfl, rfl, Nat.le_refl _, fun _ _ _ _ => rfl⟩
theorem OverW.grown {w w1 w2 : World} {n g : Nat} {d : Nat → Nat} {x : Nat} (h : OverW w w1 n g d) (hg : w1.grownBy w2 (some x)) (hx : x = g ∨ ∃ j, j < n ∧ d j = x) : OverW w w2 n g d :=
  ⟨hg.os.trans h.os, hg.tape.trans h.tape, hg.output.trans h.output, Nat.le_trans h.size hg.size, fun b hb hne hj => (hg.block b (Nat.lt_of_lt_of_le hb h.size) (by
    intro e
    have e2 : b = x := Option.some.inj e
    rcases hx with rfl | ⟨j, hj1, rfl⟩
    · exact hne e2
    · exact hj j hj1 e2.symm)).trans (h.block b hb hne hj)⟩
theorem OverW.call {w w1 w2 : World} {n g : Nat} {d : Nat → Nat} (h : OverW w w1 n g d) (hs : Since w1 w2) : OverW w w2 n g d :=
  ⟨hs.os.trans h.os, hs.tape.trans h.tape, hs.output.trans h.output, Nat.le_trans h.size hs.size, fun b hb hne hj => (hs.block b (Nat.lt_of_lt_of_le hb h.size)).trans (h.block b hb hne hj)⟩
theorem bank_over {w0 w w' : World} {L : List Acc} {n g : Nat} {d : Nat → Nat} (h : Bank w0 w L) (ho : OverW w w' n g d) (hg : w0.heap.size ≤ g) (hd : ∀ j, j < n → w0.heap.size ≤ d j) (hL : ∀ p ∈ L, ∀ b, p.v.ownBlock = some b → b ≠ g ∧ ∀ j, j < n → d j ≠ b) : Bank w0 w' L := by
  have hs := h.since
  refine ⟨⟨ho.os.trans hs.os, ho.tape.trans hs.tape, ho.output.trans hs.output, Nat.le_trans hs.size ho.size, fun b hb => (ho.block b (Nat.lt_of_lt_of_le hb hs.size) (by omega) (fun j hj => by have := hd j hj; omega)).trans (hs.block b hb)⟩, fun p hp => ?_, h.sep⟩
  have h1 := h.own p hp
  refine ⟨h1.1, ?_⟩
  rcases h1.2 with h2 | ⟨b, cap, cur, hv, hb, hc, r⟩
  · exact .inl h2
  · have hb2 := hL p hp b (by rw [hv]; rfl)
    exact .inr ⟨b, cap, cur, hv, hb, (ho.block b (Array.getElem?_eq_some_iff.1 hc).1 hb2.1 hb2.2).trans hc, r⟩
theorem at_storeE {P : Program} {ops : Array Oper} {Q : Exit → Act → World → Prop} {rest : List Oper} {a : Act} {w : World} {d : Option Tmp} {t : TypeId} {pos : String} {af : Array Edge} {g : Option (Nat × Bool)} (ty : TypeId) (x y : Operand)
    (h : wpList P ops Q (⟨d, .store ty x y, t, pos, af, g⟩ :: rest) a w) : wpList P ops Q (⟨d, .store ty x y, t, pos, af, g⟩ :: rest) a w := h
theorem grownBy_more {w w1 w2 : World} {x : Option Nat} (h : w.grownBy w1 x) (h2 : w1.grownBy w2 x) : w.grownBy w2 x :=
  ⟨h2.os.trans h.os, h2.tape.trans h.tape, h2.output.trans h.output, Nat.le_trans h.size h2.size, fun j hj hne => (h2.block j (Nat.lt_of_lt_of_le hj h.size) hne).trans (h.block j hj hne)⟩
theorem block_setCells {g : Nat} {t : TypeId} : ∀ (vs : List Value) (o : Nat) (w : World) (cur : List Value), w.heap[g]? = some (.cells cur.toArray t (0, 0)) →
    w.grownBy (w.setCells g o vs) (some g) ∧ ∃ cur' : List Value, cur'.length = cur.length ∧ (w.setCells g o vs).heap[g]? = some (.cells cur'.toArray t (0, 0))
  | [], _, w, cur, h => ⟨World.grownBy.refl _ _, cur, rfl, h⟩
  | v :: r, o, w, cur, h => by
    have h1 := block_set h o v
    obtain ⟨h2, cur', h3, h4⟩ := block_setCells r (o + 1) (w.setCell ⟨g, o, none⟩ v) _ h1
    exact ⟨grownBy_more (grownBy_setCell w g o v) h2, cur', by rw [h3, List.length_set], h4⟩
theorem there_of_block {w : World} {g : Nat} {t : TypeId} {cur : List Value} (h : w.heap[g]? = some (.cells cur.toArray t (0, 0))) (o n : Nat) (hn : o + n ≤ cur.length) : w.there g o n := fun j hj => by
  refine ⟨?_, frozen_of_row w g _ _ _ h⟩
  rw [block_cell h (show cur[o + j]? = some cur[o + j] from List.getElem?_eq_getElem (by omega))]
  rfl
set_option maxHeartbeats 4000000 in
set_option maxRecDepth 100000 in
theorem OverEntries_any (g n : Nat) (d : Nat → Nat) (es : List M.Ent) (w : World) (hg : w.heap[g]? = some (.cells (lentEs es d n ++ markEs 12).toArray 62 (0, 0))) (hd : ∀ j, j < n → w.heap[d j]? = some (.cells (bv ((es.getD j M.zeroEnt).data ++ marks 1 0 12)).toArray 5 (0, 0)))
    (hdd : ∀ i j, i < j → j < n → d i ≠ d j) (hl : es.length = n) (hn : n ≤ 1000000) (hD : ∀ e ∈ es, e.data.length ≤ 140737488000000) :
    Calls Tryz.prog 35 #[.slice (some ⟨g, 0, none⟩) n (n + 12)] w fun e w' => e = .returned (.tuple #[]) ∧ OverW w w' n g d := by
  have hdg : ∀ j, j < n → d j ≠ g := fun j hj e => by
    have h1 := hd j hj
    rw [e, hg] at h1
    simp at h1
  have HG := Lib.hid hg; have HDD := Lib.hid hd; have HAP := Lib.hid hdd; have HL := Lib.hid hl; have HD := Lib.hid hD; have HDG := Lib.hid hdg
  clear hg hd hdd hl hD hdg
  go_enter Tryz.func35, Tryz.ntmps35
  go_wp2
  go_loopw [2] (fun i wr => ∃ k : Nat, k ≤ n ∧ i = .int .i64 (k : Int) ∧ OverW w wr n g d ∧ wr.heap[g]? = some (.cells (lentEs es d n ++ markEs 12).toArray 62 (0, 0)) ∧ ∀ j, k ≤ j → j < n → wr.heap[d j]? = some (.cells (bv ((es.getD j M.zeroEnt).data ++ marks 1 0 12)).toArray 5 (0, 0))) (fun i _ => n - (intOf i).toNat)
  case atStart => exact ⟨0, by omega, rfl, OverW.refl _ _ _ _, HG.out, fun j _ hj => HDD.out j hj⟩
  case round =>
    clear HG HDD
    obtain ⟨k, hk, rfl, hO, hgr, hdr⟩ := hrel
    have k0 : (0 : Int) ≤ (k : Int) := by omega
    have HO := Lib.hid hO; have HGR := Lib.hid hgr; have HDR := Lib.hid hdr
    rcases Nat.lt_or_ge k n with h1 | h1
    · have i1 : (k : Int) < (n : Int) := by omega
      obtain ⟨x, hx⟩ : ∃ x, x = es.getD k M.zeroEnt := ⟨_, rfl⟩
      have hkl : k < es.length := by rw [HL.out]; exact h1
      have hxm : x ∈ es := by rw [hx]; simp only [List.getD_eq_getElem?_getD, List.getElem?_eq_getElem hkl, Option.getD_some]; exact List.getElem_mem hkl
      have hmb := HD.out x hxm
      obtain ⟨m', hml⟩ : ∃ m', x.data.length = m' := ⟨_, rfl⟩
      have hla : ∀ j, j < 6 → (lentEs es d n ++ markEs 12)[k * 6 + j]? = (entL x.term x.version x.server x.kind x.good (some ⟨d k, 0, none⟩) m' (m' + 12))[j]? := fun j hj => by
        rw [lent_at h1 hj, ← hx, lentE, hml]
      have z0 : wr.cell? ⟨g, k * 6, none⟩ = some (.int .i64 x.term) := block_cell hgr (hla 0 (by omega))
      have z1 : wr.cell? ⟨g, k * 6 + 1, none⟩ = some (B8 x.kind) := block_cell hgr (hla 1 (by omega))
      have z2 : wr.cell? ⟨g, k * 6 + 2, none⟩ = some (.int .i64 x.version) := block_cell hgr (hla 2 (by omega))
      have z3 : wr.cell? ⟨g, k * 6 + 3, none⟩ = some (.int .i64 x.server) := block_cell hgr (hla 3 (by omega))
      have z4 : wr.cell? ⟨g, k * 6 + 4, none⟩ = some (.bool x.good) := block_cell hgr (hla 4 (by omega))
      have z5 : wr.cell? ⟨g, k * 6 + 5, none⟩ = some (.slice (some ⟨d k, 0, none⟩) m' (m' + 12)) := block_cell hgr (hla 5 (by omega))
      have hdk := hdr k (Nat.le_refl _) h1
      rw [← hx] at hdk
      have HOE := Lib.hid (OverEntry_any x.term x.version x.server x.kind x.good (d k) m' (x.data ++ marks 1 0 12) wr hdk (by rw [List.length_append, hml]; rfl) (by omega))
      clear hO hgr hdr hx hxm hla hdk hml
      go_wp2_with fail
      clear z0 z1 z2 z3 z4 z5
      refine HOE.out.mono ?_
      rintro e w2 ⟨rfl, hgw⟩
      have HO2 := Lib.hid (HO.out.grown hgw (.inr ⟨k, h1, rfl⟩))
      have HG2 := Lib.hid ((hgw.block g (Array.getElem?_eq_some_iff.1 HGR.out).1 (fun e => HDG.out k h1 (Option.some.inj e).symm)).trans HGR.out)
      have HD2 := Lib.hid (show ∀ j, k + 1 ≤ j → j < n → w2.heap[d j]? = some (.cells (bv ((es.getD j M.zeroEnt).data ++ marks 1 0 12)).toArray 5 (0, 0)) from fun j hj hjn => (hgw.block (d j) (Array.getElem?_eq_some_iff.1 (HDR.out j (by omega) hjn)).1 (fun e => HAP.out k j (by omega) hjn (Option.some.inj e).symm)).trans (HDR.out j (by omega) hjn))
      clear hgw HO HGR HDR HOE
      go_wp2_with fail
      go_roundw
      case rel => exact ⟨k + 1, by omega, by go_num, HO2.out, HG2.out, HD2.out⟩
      case measure => simp [intOf]; omega
    · have i1 : ¬ (k : Int) < (n : Int) := by omega
      obtain rfl : k = n := by omega
      have HLEN := Lib.hid (show (lentEs es d k ++ markEs 12).length = (k + 12) * 6 by rw [List.length_append, lentEs_length, markEs_length]; omega)
      clear hO hgr hdr
      go_wp2_with fail
      go_loopw [4] (fun i wr => ∃ (q : Nat) (cur : List Value), q ≤ k + 12 ∧ i = .int .i64 (q : Int) ∧ OverW w wr k g d ∧ cur.length = (k + 12) * 6 ∧ wr.heap[g]? = some (.cells cur.toArray 62 (0, 0))) (fun i _ => k + 12 - (intOf i).toNat)
      case atStart => exact ⟨0, _, by omega, rfl, HO.out, HLEN.out, HGR.out⟩
      case round =>
        clear HO HGR HDR HLEN
        obtain ⟨q, cur, hq, rfl, hO, hcl, hgr⟩ := hrel
        have q0 : (0 : Int) ≤ (q : Int) := by omega
        have HO := Lib.hid hO; have HGR := Lib.hid hgr; have HCL := Lib.hid hcl
        clear hO hgr hcl
        rcases Nat.lt_or_ge q (k + 12) with h2 | h2
        · have i2 : (q : Int) < (k : Int) + 12 := by omega
          have i3 : (q : Int) < ((k + 12 : Nat) : Int) := by omega
          go_wp2_with fail
          refine (markEntry_any 2 (q : Int) wr).mono ?_
          rintro e w2 ⟨rfl, hs⟩
          have HO2 := Lib.hid (HO.out.call hs)
          have HG2 := Lib.hid (Since.at hs HGR.out)
          have HTH := Lib.hid (there_of_block (Since.at hs HGR.out) (q * 6) 6 (by rw [HCL.out]; omega))
          have HSC := Lib.hid (block_setCells (mEnt 2 (q : Int)) (q * 6) w2 cur (Since.at hs HGR.out))
          have HALL := Lib.hid (show (#[.int .i64 (markI 2 (q : Int)), B8 0#8, .int .i64 0, .int .i64 0, .bool false, .slice none 0 0] : Array Value).all (·.oneCell') = true from entL_one (markI 2 (q : Int)) 0 0 0#8 false none 0 0)
          clear hs HO HGR
          go_wp2_with (first | ((with_reducible refine at_storeE 62 (.tmp 31) (.tmp 30) ?_); refine wpList_store_mid rfl 62 (.tmp 31) (.tmp 30) rfl g (q * 6) #[.int .i64 (markI 2 (q : Int)), B8 0#8, .int .i64 0, .int .i64 0, .bool false, .slice none 0 0] rfl rfl HTH.out infoEnt HALL.out ?_) | fail)
          go_roundw
          case rel =>
            obtain ⟨h3, cur', h4, h5⟩ := HSC.out
            exact ⟨q + 1, cur', by omega, by go_num, HO2.out.grown h3 (.inl rfl), by rw [h4, HCL.out], h5⟩
          case measure => simp [intOf]; omega
        · have i2 : ¬ (q : Int) < (k : Int) + 12 := by omega
          have i3 : ¬ (q : Int) < ((k + 12 : Nat) : Int) := by omega
          go_wp2_with fail
          go_end0
          exact ⟨rfl, HO.out⟩
end Go.Proofs.YtfpjmeknjhhakaaGreat.K

/- A disk that holds one file or none, as accounts of a bank beside the map's block. -/
namespace Go.Proofs.YtfpjmeknjhhakaaGreat.K
open Go Go.RowKit Go.Maps

/-- the file's name -/
def storeS : ByteArray := { data := #[115, 116, 111, 114, 101] }
/-- a file and where it lies -/
structure Fil where
  g : Nat
  A : Option Addr
  n : Nat
  c : Nat
  bs : List (BitVec 8)
  safe : Nat
def Fil.ptr (f : Fil) : Value := .pointer (some ⟨f.g, 0, none⟩)
def Fil.box (f : Fil) : Acc := boxAcc f.g 98 [.slice f.A f.n f.c, .int .i64 (f.safe : Int)]
def Fil.row (f : Fil) : Acc := rowAcc f.A f.n f.c f.bs
def filAccs : Option Fil → List Acc
  | none => []
  | some f => [f.box, f.row]
def mapObj (o : Option Fil) : Obj := .map (oneEs storeS (o.map Fil.ptr)) (oneClock (o.map Fil.ptr))
def dAcc (D R : Nat) (room : Int) : Acc := boxAcc D 71 [.map (some R), .int .i64 room]
/-- the disk of one file or none, and what else the call owns -/
def Dk (w0 w : World) (D R : Nat) (room : Int) (o : Option Fil) (L : List Acc) : Prop := Side w0 w R (mapObj o) (dAcc D R room :: (filAccs o ++ L))
def obytes : Option Fil → List (BitVec 8)
  | none => []
  | some f => f.bs
def osafe : Option Fil → Nat
  | none => 0
  | some f => f.safe
section
variable {w0 w w' : World} {D R : Nat} {room : Int} {o : Option Fil} {L L' : List Acc}
theorem Dk.side (h : Dk w0 w D R room o L) : Side w0 w R (mapObj o) (dAcc D R room :: (filAccs o ++ L)) := h
theorem Dk.one (h : Dk w0 w D R room o L) : IsOne w R storeS (o.map Fil.ptr) := h.side.at'
theorem Dk.disk (h : Dk w0 w D R room o L) : w.heap[D]? = some (.cells #[.map (some R), .int .i64 room] 71 (0, 0)) := (h.side.bank.boxAt 0 rfl).2
theorem Dk.c0 (h : Dk w0 w D R room o L) : w.cell? ⟨D, 0, none⟩ = some (.map (some R)) := h.side.bank.cell 0 rfl 0 rfl
theorem Dk.c1 (h : Dk w0 w D R room o L) : w.cell? ⟨D, 1, none⟩ = some (.int .i64 room) := h.side.bank.cell 0 rfl 1 rfl
theorem Dk.since (h : Dk w0 w D R room o L) : Since w0 w := h.side.since
theorem Dk.call (h : Dk w0 w D R room o L) (hb : Below w.heap.size w w') : Dk w0 w' D R room o L := h.side.call hb
theorem Dk.drew (h : Dk w0 w D R room o L) : Dk w0 w.drew D R room o L := h.side.drew
theorem Dk.f0 {f : Fil} (h : Dk w0 w D R room (some f) L) : w.cell? ⟨f.g, 0, none⟩ = some (.slice f.A f.n f.c) := h.side.bank.cell 1 rfl 0 rfl
theorem Dk.f1 {f : Fil} (h : Dk w0 w D R room (some f) L) : w.cell? ⟨f.g, 1, none⟩ = some (.int .i64 (f.safe : Int)) := h.side.bank.cell 1 rfl 1 rfl
theorem Dk.frow {f : Fil} (h : Dk w0 w D R room (some f) L) : RowRd w ⟨f.A, f.n, f.c⟩ f.bs := h.side.bank.row 2 rfl
theorem Dk.ffree {f : Fil} (h : Dk w0 w D R room (some f) L) (j : Nat) : w.frozen? ⟨f.g, j, none⟩ = false := h.side.bank.free 1 rfl j
theorem Dk.flen {f : Fil} (h : Dk w0 w D R room (some f) L) : f.bs.length = f.n := h.frow.len
theorem Side.bank' {ob : Obj} (h : Side w0 w R ob L) : Bank w0 w L := h.bank
/-- accounts in another order, or fewer -/
theorem Dk.perm (h : Dk w0 w D R room o L) (hp : L.Perm L') : Dk w0 w D R room o L' := h.side.perm (.cons _ (.append_left _ hp))
theorem Dk.sub (h : Dk w0 w D R room o L) (hs : L'.Sublist L) : Dk w0 w D R room o L' := h.side.sub (.cons_cons _ ((List.Sublist.refl _).append hs))
/-- what a callee made stands with the rest -/
theorem Dk.made (h : Dk w0 w D R room o L) (hb : Below w.heap.size w w') {e : TypeId} {size n : Nat} {v : Value} {xs : List Value} (ho : w'.ownsRow w.heap.size e size v n xs) : Dk w0 w' D R room o (⟨v, n, e, size, xs⟩ :: L) :=
  (h.side.made hb ho).perm ((List.Perm.swap _ _ _).trans (.cons _ (List.perm_middle.symm)))
theorem Dk.box (h : Dk w0 w D R room o L) (cs : Array Value) (t : TypeId) (hs : cs.size ≤ 1000000) : Dk w0 (w.alloc (.cells cs t)) D R room o (boxAcc w.heap.size t cs.toList :: L) :=
  (h.side.box cs t hs).perm ((List.Perm.swap _ _ _).trans (.cons _ (List.perm_middle.symm)))
theorem Dk.madeB (h : Dk w0 w D R room o L) (hb : Below w.heap.size w w') {A : Option Addr} {n c : Nat} {bs : List (BitVec 8)} (ho : w'.ownsRow w.heap.size 5 1 (.slice A n c) n (bv bs)) : Dk w0 w' D R room o (rowAcc A n c bs :: L) := h.made hb ho
/-- the rest, at its place -/
theorem Dk.at (h : Dk w0 w D R room o L) (i : Nat) {p : Acc} (hi : L[i]? = some p) : (dAcc D R room :: (filAccs o ++ L))[(filAccs o).length + i + 1]? = some p := by
  rw [List.getElem?_cons_succ, List.getElem?_append_right (by omega)]
  rw [show (filAccs o).length + i - (filAccs o).length = i by omega]
  exact hi
theorem Dk.boxSet (h : Dk w0 w D R room o L) (i : Nat) {g : Nat} {t : TypeId} {vs : List Value} (hi : L[i]? = some (boxAcc g t vs)) (j : Nat) (v : Value) : Dk w0 (w.setCell ⟨g, j, Option.none⟩ v) D R room o (L.set i (boxAcc g t (vs.set j v))) := by
  have h1 := h.side.boxSet _ (h.at i hi) j v
  rw [List.set_cons_succ, List.set_append_right _ _ (by omega), show (filAccs o).length + i - (filAccs o).length = i by omega] at h1
  exact h1
theorem Dk.cell (h : Dk w0 w D R room o L) (i : Nat) {g : Nat} {t : TypeId} {vs : List Value} (hi : L[i]? = some (boxAcc g t vs)) (j : Nat) {v : Value} (hv : vs[j]? = some v) : w.cell? ⟨g, j, Option.none⟩ = some v := h.side.bank.cell _ (h.at i hi) j hv
theorem Dk.free (h : Dk w0 w D R room o L) (i : Nat) {g : Nat} {t : TypeId} {vs : List Value} (hi : L[i]? = some (boxAcc g t vs)) (j : Nat) : w.frozen? ⟨g, j, Option.none⟩ = false := h.side.bank.free _ (h.at i hi) j
theorem Dk.boxAt (h : Dk w0 w D R room o L) (i : Nat) {g : Nat} {t : TypeId} {vs : List Value} (hi : L[i]? = some (boxAcc g t vs)) : w0.heap.size ≤ g ∧ w.heap[g]? = some (.cells vs.toArray t (0, 0)) := h.side.bank.boxAt _ (h.at i hi)
theorem Dk.row (h : Dk w0 w D R room o L) (i : Nat) {A : Option Addr} {n c : Nat} {e : TypeId} {bs : List (BitVec 8)} (hi : L[i]? = some ⟨.slice A n c, n, e, 1, bv bs⟩) : RowRd w ⟨A, n, c⟩ bs := h.side.bank.row _ (h.at i hi)
theorem Dk.rest (h : Dk w0 w D R room o L) : Bank w0 w L := h.side.bank.sub (.cons _ (List.sublist_append_right _ _))
/-- the disk is thrown away -/
theorem Dk.lt (h : Dk w0 w D R room o L) : D < w.heap.size ∧ R < w.heap.size := ⟨(Array.getElem?_eq_some_iff.1 h.disk).1, h.side.lt⟩
theorem Dk.ne (h : Dk w0 w D R room o L) : D ≠ R := fun e => h.side.away _ (.head _) (by rw [← e]; rfl)
end
end Go.Proofs.YtfpjmeknjhhakaaGreat.K

/- The contracts of disk.New, known, right (at the file's name). -/
namespace Go.Proofs.YtfpjmeknjhhakaaGreat.K
open Go Go.RowKit Go.Maps

set_option maxRecDepth 100000 in
theorem known_nil (w : World) : Calls Tryz.prog 46 #[.pointer none] w fun e w' => e = .returned (.bool false) ∧ w = w' := by
  go_enter Tryz.func46, Tryz.ntmps46
  go_wp2
  go_ret
  exact ⟨rfl, rfl⟩
set_option maxRecDepth 100000 in
theorem known_any (D R : Nat) (room : Int) (w : World) (h : w.heap[D]? = some (.cells #[.map (some R), .int .i64 room] 71 (0, 0))) : Calls Tryz.prog 46 #[.pointer (some ⟨D, 0, none⟩)] w fun e w' => e = .returned (.bool true) ∧ w = w' := by
  have c0 := block_cell (xs := [.map (some R), .int .i64 room]) h (i := 0) rfl
  have qm : ∀ (w : World) (r : Option Nat), (binOp .neq 67 (.map r) (.map none)).run Tryz.prog w = .ok (.bool (!r.isNone)) w := fun w r => run_neq_map_nil w _ _ _ r Tryz.underlying67
  clear h
  go_enter Tryz.func46, Tryz.ntmps46
  go_wp2
  go_ret
  exact ⟨rfl, rfl⟩
/-- a disk is made -/
def NewPost (w0 : World) (L : List Acc) (room : Int) (e : Ending) (w' : World) : Prop := ∃ D R, e = .returned (.pointer (some ⟨D, 0, none⟩)) ∧ Dk w0 w' D R room none L
theorem Dk.new {w0 w : World} {L : List Acc} (h : Bank w0 w L) (room : Int) : Dk w0 ((w.alloc (.map #[] 0)).alloc (.cells #[.map (some w.heap.size), .int .i64 room] 71)) (w.heap.size + 1) w.heap.size room none L := by
  have h1 : Side w0 (w.alloc (.map #[] 0)) w.heap.size (mapObj none) L := Side.start h ((Below.refl _ _).alloc (Nat.le_refl _) _) (Nat.le_refl _) (heap_alloc_new w _)
  have h2 := h1.box #[.map (some w.heap.size), .int .i64 room] 71 (by simp)
  rw [World.size_alloc] at h2
  exact h2
set_option maxHeartbeats 1000000 in
set_option maxRecDepth 100000 in
theorem New_any (w0 w : World) (L : List Acc) (room : Int) (h : Bank w0 w L) (hr : 0 ≤ room) : Calls Tryz.prog 7 #[.int .i64 room] w (NewPost w0 L room) := by
  have hmm := @run_makeMap Tryz.prog
  have H0 := Lib.hid (show NewPost w0 L room (.returned (.pointer (some ⟨w.heap.size + 1, 0, none⟩))) _ from ⟨_, _, rfl, Dk.new h room⟩)
  have hr2 : ¬ room < 0 := by omega
  clear h
  go_enter Tryz.func7, Tryz.ntmps7
  go_wp2
  go_ret
  exact H0.out
end Go.Proofs.YtfpjmeknjhhakaaGreat.K

/- The contract of disk.right at the file's name. -/
namespace Go.Proofs.YtfpjmeknjhhakaaGreat.K
open Go Go.RowKit Go.Maps

def signsS : ByteArray := { data := #[97, 98, 99, 100, 101, 102, 103, 104, 105, 106, 107, 108, 109, 110, 111, 112, 113, 114, 115, 116, 117, 118, 119, 120, 121, 122, 48, 49, 50, 51, 52, 53, 54, 55, 56, 57, 46, 95] }
def oddV (c : Int) : Bool := decide (Lib.indexByte signsS.data.toList c.toNat.toUInt8 < 0)
set_option maxRecDepth 100000 in
theorem lite_any (s : ByteArray) (c : Int) (w : World) :
    Calls Tryz.prog 117 #[.string s, .int .u8 c] w fun e w' => e = .returned (.int .i64 (Lib.indexByte s.data.toList c.toNat.toUInt8)) ∧ w = w' := by
  go_enter Tryz.func117, Tryz.ntmps117
  go_wp2
  rw [run_callFunc_extern Tryz.func119 (by kernel_rfl) (by kernel_rfl) (by kernel_rfl) (e := Extern.BytealgIndexByte.indexByte) (by kernel_rfl), Lib.run_indexByteString]
  simp only [Result.andThen]
  rw [Oper.upon_value]
  go_wp2
  go_ret
  exact ⟨rfl, rfl⟩
set_option maxRecDepth 100000 in
theorem sidx_any (s : ByteArray) (c : Int) (w : World) :
    Calls Tryz.prog 112 #[.string s, .int .u8 c] w fun e w' => e = .returned (.int .i64 (Lib.indexByte s.data.toList c.toNat.toUInt8)) ∧ w = w' := by
  go_enter Tryz.func112, Tryz.ntmps112
  go_wp2_with (go_at_call 117; refine (lite_any _ _ _).mono ?_; rintro e w' ⟨rfl, rfl⟩)
  go_ret
  exact ⟨rfl, rfl⟩
set_option maxRecDepth 100000 in
theorem right1_any (c : Int) (w : World) :
    Calls Tryz.prog 111 #[.int .u8 c] w fun e w' => e = .returned (.bool (oddV c)) ∧ w = w' := by
  have hs : ∀ w, Calls Tryz.prog 112 #[.string signsS, .int .u8 c] w fun e w' => e = .returned (.int .i64 (Lib.indexByte signsS.data.toList c.toNat.toUInt8)) ∧ w = w' := sidx_any _ _
  unfold oddV
  generalize Lib.indexByte signsS.data.toList c.toNat.toUInt8 = y at *
  have HS := Lib.hid hs
  clear hs
  unfold signsS at HS
  go_enter Tryz.func111, Tryz.ntmps111
  go_wp2_with fail
  refine (HS.out _).mono ?_
  rintro e w' ⟨rfl, rfl⟩
  clear HS
  go_wp2
  go_ret
  exact ⟨rfl, rfl⟩
set_option maxHeartbeats 1000000 in
set_option maxRecDepth 100000 in
/-- no byte is odd -/
theorem noOdd_any (g n c : Nat) (v : Nat → Int) (w : World) (hr : ∀ i, i < n → w.cell? ⟨g, i, none⟩ = some (.int .u8 (v i)) ∧ oddV (v i) = false) (hn : n ≤ 1000) :
    Calls Tryz.prog 118 #[.slice (some ⟨g, 0, none⟩) n c, .func (.func 111) #[] #[]] w fun e w' => e = .returned (.int .i64 (-1)) ∧ w = w' := by
  have HR := Lib.hid hr
  clear hr
  go_enter Tryz.func118, Tryz.ntmps118
  go_wp2
  go_loop [8] (fun i => ∃ k : Nat, k ≤ n ∧ i = .int .i64 (k : Int)) (fun i => n - (intOf i).toNat)
  case atStart => exact ⟨0, by omega, rfl⟩
  case round =>
    obtain ⟨k, hk, rfl⟩ := hrel
    have k0 : (0 : Int) ≤ (k : Int) := by omega
    by_cases hlt : k < n
    · have i1 : (k : Int) < (n : Int) := by omega
      obtain ⟨hc, ho⟩ := HR.out k hlt
      have HO := Lib.hid ho
      clear ho
      go_wp2_with fail
      refine (right1_any _ _).mono ?_
      rintro e w' ⟨rfl, rfl⟩
      rw [HO.out]
      go_wp2
      go_round
      case rel => exact ⟨k + 1, by omega, by go_num⟩
      case measure => simp [intOf]; omega
    · have i1 : ¬ (k : Int) < (n : Int) := by omega
      go_wp2
      go_ret
      exact ⟨rfl, rfl⟩
set_option maxRecDepth 100000 in
theorem noOddC_any (g n c : Nat) (v : Nat → Int) (w : World) (hr : ∀ i, i < n → w.cell? ⟨g, i, none⟩ = some (.int .u8 (v i)) ∧ oddV (v i) = false) (hn : n ≤ 1000) :
    Calls Tryz.prog 113 #[.slice (some ⟨g, 0, none⟩) n c, .func (.func 111) #[] #[]] w fun e w' => e = .returned (.bool false) ∧ w = w' := by
  have HR := Lib.hid (noOdd_any g n c v w hr hn)
  clear hr
  go_enter Tryz.func113, Tryz.ntmps113
  go_wp2_with (go_at_call 118; refine HR.out.mono ?_; rintro e w' ⟨rfl, rfl⟩)
  go_ret
  exact ⟨rfl, rfl⟩
theorem since_bytesWorld (w : World) (e : TypeId) (s : ByteArray) : Since w (Lib.bytesWorld w e s) := by
  refine ⟨?_, ?_, ?_, by rw [Lib.bytesWorld_size]; omega, fun k hk => Lib.bytesWorld_at_old w e s k hk⟩ <;> rfl
theorem noOdd_store : ∀ i, i < 5 → oddV (storeS.data.toList.getD i 0).toNat = false := by decide +kernel
set_option maxHeartbeats 1000000 in
set_option maxRecDepth 100000 in
theorem right_store (g c : Nat) (w : World) (h : w.cell? ⟨g, 0, none⟩ = some (.string storeS)) :
    Calls Tryz.prog 99 #[.slice (some ⟨g, 0, none⟩) 1 c] w fun e w' => e = .returned (.bool true) ∧ Since w w' := by
  have hcv : ∀ w, (convert 9 37 (.string storeS)).run Tryz.prog w = _ := fun w => Lib.run_convert_string_bytes w 9 37 5 storeS Tryz.underlying9 Tryz.underlying37 Tryz.underlying5
  have hsz : storeS.size = 5 := rfl
  rw [hsz] at hcv
  have HC := Lib.hid (fun w => noOddC_any w.heap.size 5 (grownCap w 5 0 5) (fun i => (storeS.data.toList.getD i 0).toNat) (Lib.bytesWorld w 5 storeS) (fun i hi => ⟨Lib.bytesWorld_cell w _ _ i (show i < storeS.size from hi), noOdd_store i hi⟩) (by omega))
  have HS := Lib.hid (fun w => since_bytesWorld w 5 storeS)
  generalize hbw : (fun w => Lib.bytesWorld w 5 storeS) = bw at *
  have hbw' : ∀ w, Lib.bytesWorld w 5 storeS = bw w := fun w => by rw [← hbw]
  simp only [hbw'] at hcv HC HS
  clear hbw hbw' hsz
  have HH := Lib.hid h
  clear h
  unfold storeS at hcv HH
  go_enter Tryz.func99, Tryz.ntmps99
  go_wp2
  go_loopw [8] (fun i wr => (i = .int .i64 0 ∧ wr = w) ∨ (i = .int .i64 1 ∧ Since w wr)) (fun i _ => 1 - (intOf i).toNat)
  case atStart => exact .inl ⟨rfl, rfl⟩
  case round =>
    rcases hrel with ⟨rfl, rfl⟩ | ⟨rfl, hs⟩
    · have h := HH.out
      go_wp2_with fail
      refine (HC.out _).mono ?_
      rintro e w' ⟨rfl, rfl⟩
      go_wp2
      go_roundw
      case rel => exact .inr ⟨rfl, HS.out _⟩
      case measure => simp [intOf]
    · have HFIN := Lib.hid hs
      clear hs
      go_wp2
      go_ret
      exact ⟨rfl, HFIN.out⟩
end Go.Proofs.YtfpjmeknjhhakaaGreat.K
