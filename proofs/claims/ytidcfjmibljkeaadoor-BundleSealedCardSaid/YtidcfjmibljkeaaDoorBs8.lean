/- Merged: OpenD. -/
import Derived.Test.YtidcfjmibljkeaaDoorBs7
import Derived.OpenShut
import Derived.ShutString
import Derived.ChangeOld
import Derived.Below
import Derived.Deep.Slices
import Derived.Deep.Fields
import Derived.Deep.DeepHandedRow
import Derived.LaidLaws
/- (made of XOpen by a program: the names that XShaLaid has are left out) -/
/- What comes in: bytes, numbers, entries, lists of them, out of the statement's own reading of the arguments. -/
namespace Go.Proofs.YtidcfjmibljkeaaDoor.K
open Go Go.RowKit Go.ChangeShapes Go.WideShapes Go.Deep

set_option maxRecDepth 100000
theorem inI64_of_wf {n : Int} (h : (Lit.int .i64 n).wf = true) : M.inI64 n := by
  simp [Lit.wf, IntKind.min, IntKind.max, IntKind.bits, IntKind.signed] at h
  exact ⟨by omega, by omega⟩

theorem cellsByte : Tryd.prog.cellsOf 5 = 1 := by kernel_rfl
theorem cellsInt : Tryd.prog.cellsOf 3 = 1 := by kernel_rfl
theorem cellsBool : Tryd.prog.cellsOf 4 = 1 := by kernel_rfl
theorem cellsBytes : Tryd.prog.cellsOf 22 = 1 := by kernel_rfl

section
variable {H : Type} {enc : TypeId × Value → H} {W : World} {base b0 : Nat} {sp : Nat → Bool} {held : Bool} {r : Reach}
theorem cs_bytes {fuel : Nat} {v : Value} {x : DataW H × List MemPlace} (h : DataW.trod enc Tryd.prog W base sp held fuel 22 [v] = some x) :
    ∃ A n c bs, v = .slice A n c ∧ RowRd W ⟨A, n, c⟩ bs ∧ n ≤ c ∧ c ≤ 9223372036854775807 := by
  rcases open_ints Tryd.underlying22 Tryd.underlying5 cellsByte h with ⟨hcs, _⟩ | ⟨x, l, c, zs, hcs, _, hl, hm, hz, hx, hcell, hwz⟩
  · obtain rfl : v = .slice none 0 0 := by simpa using hcs
    exact ⟨none, 0, 0, [], rfl, ⟨Rd.of_nil _ _, rfl, fun _ => rfl⟩, by omega, by omega⟩
  · obtain rfl : v = .slice (some x) l c := by simpa using hcs
    unfold maxLen at hm
    refine ⟨some x, l, c, _, rfl, ⟨Rd.of_ints hcell hwz l, ?_, fun h => by cases h⟩, hl, hm⟩
    simp only [List.length_map, List.length_take]
    split at hz <;> omega
theorem cs_int {fuel : Nat} {v : Value} {x : DataW H × List MemPlace} (h : DataW.trod enc Tryd.prog W base sp held fuel 3 [v] = some x) : ∃ n, v = .int .i64 n ∧ M.inI64 n := by
  obtain ⟨n, hcs, _, hw⟩ := DataW.trod_int Tryd.underlying3 h
  obtain rfl : v = .int .i64 n := by simpa using hcs
  exact ⟨n, rfl, inI64_of_wf hw⟩
theorem cs_bool {fuel : Nat} {v : Value} {x : DataW H × List MemPlace} (h : DataW.trod enc Tryd.prog W base sp held fuel 4 [v] = some x) : ∃ b, v = .bool b := by
  obtain ⟨b, hcs, _⟩ := DataW.trod_bool Tryd.underlying4 h
  exact ⟨b, by simpa using hcs⟩
/-- bytes that came in -/
theorem open_bytes {v : Value} {d : DataW H} {p : List MemPlace} (hv : Value.okWide Tryd.prog W r b0 22 v) (h : DataW.Trod enc Tryd.prog W base sp held 22 v d p) :
    ∃ A n c bs, v = .slice A n c ∧ RowRd W ⟨A, n, c⟩ bs ∧ n ≤ c ∧ c ≤ 9223372036854775807 := by
  obtain ⟨A, l, c, rfl⟩ := okWide_slice Tryd.underlying22 hv
  obtain ⟨fuel, hf⟩ := h
  exact cs_bytes hf
/-- a number that came in -/
theorem open_num {v : Value} {d : DataW H} {p : List MemPlace} (hv : Value.okWide Tryd.prog W r b0 3 v) (h : DataW.Trod enc Tryd.prog W base sp held 3 v d p) : ∃ n, v = .int .i64 n ∧ M.inI64 n := by
  obtain ⟨n, rfl, _, _, hw⟩ := open_int Tryd.underlying3 hv h
  exact ⟨n, rfl, inI64_of_wf hw⟩
/-- numbers that came in: those that are read -/
def Nums (W : World) (A : Option Addr) (n : Nat) : Prop := ∀ i, i < n → ∃ b o z, A = some ⟨b, o, none⟩ ∧ W.cell? ⟨b, o + i, none⟩ = some (.int .i64 z)
theorem Nums.below {w w' : World} {A : Option Addr} {n : Nat} (h : Nums w A n) (hb : Below w.heap.size w w') : Nums w' A n := fun i hi => by
  obtain ⟨b, o, z, e, hc⟩ := h i hi
  exact ⟨b, o, z, e, (hb.cell (p := ⟨b, o + i, none⟩) (block_lt_of_cell hc)).trans hc⟩
end
end Go.Proofs.YtidcfjmibljkeaaDoor.K
