/- What the two tables of sha hold when a call begins, out of the rows' condition; a world for the witnesses. -/
import Derived.Test.YtjnhfmicadcmnaaDoorCards
import Derived.Test.YtjnhfmicadcmnaaDoorTie
import Derived.Test.YtjnhfmicadcmnaaDoorShaSum
import Derived.OpenShut
import Derived.ShutString
import Derived.ChangeOld
import Derived.Below
import Derived.Deep.DeepHandedRow
import Derived.Lib.LaidTab
namespace Go.Proofs.YtjnhfmicadcmnaaDoor.K
open Go Go.RowKit

theorem own : ownKnob Tryd.prog.godebug = none := by kernel_rfl
theorem laidOut : laidOutB Tryd.prog = true := by kernel_rfl

theorem laid_tail {P : Program} {x : String × DataW Unit} {r : List (String × DataW Unit)} {w : World} (h : laidMet P (x :: r) w) : laidMet P r w := by
  obtain ⟨ps, hv, hnd, hrows⟩ := h
  obtain ⟨n, d⟩ := x
  obtain ⟨g, t, cs, fuel, p, q, _, _, _, _, hq, rfl⟩ := hv
  exact ⟨q, hq, List.Nodup.sublist (List.sublist_append_right _ _) hnd, fun b off hm => hrows b off (List.mem_append_right _ hm)⟩

def intsOf (l : List (BitVec 32)) : List Int := l.map fun x => (x.toNat : Int)
theorem intsOf_at (l : List (BitVec 32)) (k : Nat) (h : k < l.length) : Value.int .u32 ((intsOf l).getD k 0) = W32 (M.at32 l k) := by
  simp [intsOf, M.at32, W32, h]

def laidTwo {H : Type} : List (String × DataW H) := [("barbican/sha.rounds", Rows.laid_barbican_sha_rounds), ("barbican/sha.first", Rows.laid_barbican_sha_first)]
theorem rounds_data {H : Type} : (Rows.laid_barbican_sha_rounds : DataW H) = Lib.tabData .u32 (intsOf M.kList) := by kernel_rfl
theorem first_data {H : Type} : (Rows.laid_barbican_sha_first : DataW H) = Lib.tabData .u32 (intsOf M.first.list) := by kernel_rfl
theorem gRounds : Tryd.prog.globalNamed "barbican/sha.rounds" = some 1 := by kernel_rfl
theorem gFirst : Tryd.prog.globalNamed "barbican/sha.first" = some 0 := by kernel_rfl
theorem gRoundsType : (Tryd.prog.globals[1]?).map (·.type) = some 77 := by kernel_rfl
theorem gFirstType : (Tryd.prog.globals[0]?).map (·.type) = some 38 := by kernel_rfl
theorem cellsRounds : Tryd.prog.cellsOf 77 = 64 := by kernel_rfl
theorem cellsFirst : Tryd.prog.cellsOf 38 = 8 := by kernel_rfl
theorem cellsU32 : Tryd.prog.cellsOf 36 = 1 := by kernel_rfl

theorem hasK_of {W : World} (h : laidMet Tryd.prog laidTwo W) : HasK W := by
  have ht : Lib.TabIs Tryd.prog W "barbican/sha.rounds" .u32 (intsOf M.kList) := by
    rw [laidTwo, rounds_data] at h
    exact Lib.tabIs_of_head gRounds gRoundsType Tryd.underlying77 Tryd.underlying36 cellsU32 cellsRounds h
  intro k hk
  rw [ht.cell gRounds k (by simp [intsOf, M.kList]; omega), intsOf_at _ _ (by simp [M.kList]; omega)]
theorem hasF_of {W : World} (h : laidMet Tryd.prog laidTwo W) : HasF W := by
  have ht : Lib.TabIs Tryd.prog W "barbican/sha.first" .u32 (intsOf M.first.list) := by
    have h := laid_tail h
    rw [first_data] at h
    exact Lib.tabIs_of_head gFirst gFirstType Tryd.underlying38 Tryd.underlying36 cellsU32 cellsFirst h
  intro k hk
  rw [ht.cell gFirst k (by simp [intsOf, M.first, M.St.list]; omega), intsOf_at _ _ (by simp [M.first, M.St.list]; omega)]

/-! ### what comes in -/
/-- a byte that came in -/
theorem B8_of_wf {n : Int} (h : (Lit.int .u8 n).wf = true) : ∃ b : BitVec 8, Value.int .u8 n = B8 b := by
  have h' : 0 ≤ n ∧ n < 256 := by
    simp [Lit.wf, IntKind.min, IntKind.max, IntKind.bits, IntKind.signed] at h
    omega
  refine ⟨BitVec.ofInt 8 n, ?_⟩
  simp only [B8, BitVec.toNat_ofInt, Value.int.injEq, true_and]
  omega
/-- a slice of bytes that came in reads as a list -/
theorem Rd.of_ints {w : World} {x : Addr} {zs : List Int} (hcell : ∀ i, i < zs.length → w.cell? (x.add i) = some (.int .u8 (zs.getD i 0))) (hwz : ∀ n ∈ zs, (Lit.int .u8 n).wf = true) (n : Nat) :
    Rd w (some x) ((zs.take n).map (BitVec.ofInt 8)) := by
  intro k hk
  have hk2 : k < zs.length := by simp at hk; omega
  have hc := hcell k hk2
  obtain ⟨b, o, s⟩ := x
  have hs : s = none := by simpa [Addr.add] using World.cell?_spot (hcell 0 (by omega))
  subst hs
  refine ⟨b, o, rfl, ?_⟩
  rw [Addr.add_lit] at hc
  rw [hc]
  obtain ⟨y, hy⟩ := B8_of_wf (hwz zs[k] (List.getElem_mem _))
  have e : zs.getD k 0 = zs[k] := by simp [hk2]
  rw [e, hy]
  simp only [B8, Value.int.injEq, true_and] at hy
  simp only [List.getElem_map, List.getElem_take, hy, BitVec.ofInt_natCast, ofNat_self]

def putCells (cs : Array Value) : Obj → Obj
  | .cells _ t frozen => .cells cs t frozen
  | o => o
/-- a world for the witnesses: the settled one, the two tables holding what the text lays -/
noncomputable def laidWorld (os : Os) : World :=
  { World.holding Tryd.prog os ⟨#[], #[], []⟩ with heap := ((World.holding Tryd.prog os ⟨#[], #[], []⟩).heap.modify 1 (putCells ((intsOf M.kList).map fun z => Value.int .u32 z).toArray)).modify 0 (putCells ((intsOf M.first.list).map fun z => Value.int .u32 z).toArray) }
end Go.Proofs.YtjnhfmicadcmnaaDoor.K
