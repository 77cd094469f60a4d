/- The contracts of wire.Bytes and of the reference's Bytes. -/
import Derived.Test.YtjnhfmicadcmnaaWireJoin
import Derived.Test.YtjnhfmicadcmnaaRowRead
namespace Go.Proofs.Ytjnhfmicadcmnaa.K
open Go Go.RowKit

abbrev twoRows (x y : Rw) (bx by' : List (BitVec 8)) : List (Rw × List (BitVec 8)) := [(x, bx), (y, by')]
set_option maxHeartbeats 1000000 in
set_option maxRecDepth 100000 in
theorem wbytes_any (A : Option Addr) (n c : Nat) (bs : List (BitVec 8)) (w : World) (hr : RowRd w ⟨A, n, c⟩ bs) (hn2 : n ≤ 10000000000000) :
    Calls Try.prog 12 #[.slice A n c] w fun e w' => ∃ g N c', e = .returned (.slice (some ⟨g, 0, none⟩) N c') ∧ N = 8 + n ∧ w'.ownsRow w.heap.size 5 1 (.slice (some ⟨g, 0, none⟩) N c') N (bv (M.blob bs)) ∧ Below w.heap.size w w' := by
  have HR := Lib.hid hr
  have hlen : bs.length = n := hr.len
  have HLEN := Lib.hid hlen
  clear hr hlen
  go_enter Try.func12, Try.ntmps12
  go_wp2_with fail
  refine (wnum_any (n : Int) w).mono ?_
  rintro e w1 ⟨g, rfl, ho1, hb1⟩
  have HO1 := Lib.hid ho1; have HB1 := Lib.hid hb1
  clear ho1 hb1
  go_wp2_with fail
  have hl : M.blob bs = (List.map (·.2) (twoRows ⟨some ⟨g, 0, none⟩, 8, 8⟩ ⟨A, n, c⟩ (M.num (n : Int)) bs)).flatten := by
    simp [M.blob, HLEN.out]
  refine (join_any (some ⟨w1.heap.size, 0, none⟩) 2 2 (rowsOf (twoRows ⟨some ⟨g, 0, none⟩, 8, 8⟩ ⟨A, n, c⟩ (M.num (n : Int)) bs)) (bytesAt (twoRows ⟨some ⟨g, 0, none⟩, 8, 8⟩ ⟨A, n, c⟩ (M.num (n : Int)) bs)) _ (parts_of (twoRows ⟨some ⟨g, 0, none⟩, 8, 8⟩ ⟨A, n, c⟩ (M.num (n : Int)) bs) rfl ?_) (by omega) ?_).mono ?_
  · intro p hp
    simp only [List.mem_cons, List.mem_nil_iff, or_false] at hp
    rcases hp with rfl | rfl
    · exact RowRd.of_row HO1.out
    · exact HR.out.below HB1.out
  · rw [show (2 : Nat) = (twoRows ⟨some ⟨g, 0, none⟩, 8, 8⟩ ⟨A, n, c⟩ (M.num (n : Int)) bs).length from rfl, joined_all, ← hl, M.blob_length, HLEN.out]; omega
  · rintro e w2 ⟨A2, N, c2, rfl, hN, ho2, hb2⟩
    rw [show (2 : Nat) = (twoRows ⟨some ⟨g, 0, none⟩, 8, 8⟩ ⟨A, n, c⟩ (M.num (n : Int)) bs).length from rfl, joined_all, ← hl] at hN ho2
    rw [M.blob_length, HLEN.out] at hN
    obtain ⟨g2, c3, e, _, _⟩ := ho2.form (by omega)
    simp only [Value.slice.injEq, true_and] at e
    obtain ⟨rfl, rfl⟩ := e
    have ho3 := row_weaken ho2 (base' := w.heap.size) (by have := HB1.out.size; simp; omega)
    have hb3 := (HB1.out.alloc HB1.out.size (.cells #[.slice (some ⟨g, 0, none⟩) 8 8, .slice A n c] 22)).trans (hb2.mono (by have := HB1.out.size; simp; omega))
    have HN := Lib.hid hN; have HO3 := Lib.hid ho3; have HB3 := Lib.hid hb3
    clear hl hN ho2 ho3 hb2 hb3
    go_wp2
    go_ret
    exact ⟨g2, N, c2, rfl, HN.out, HO3.out, HB3.out⟩

set_option maxHeartbeats 1000000 in
set_option maxRecDepth 100000 in
theorem rbytes_any (A : Option Addr) (n c : Nat) (bs : List (BitVec 8)) (w : World) (hr : RowRd w ⟨A, n, c⟩ bs) (hn2 : n ≤ 10000000000000) :
    Calls Try.prog 15 #[.slice A n c] w fun e w' => ∃ g N c', e = .returned (.slice (some ⟨g, 0, none⟩) N c') ∧ N = 8 + n ∧ w'.ownsRow w.heap.size 5 1 (.slice (some ⟨g, 0, none⟩) N c') N (bv (M.blob bs)) ∧ Below w.heap.size w w' := by
  obtain ⟨i0, hi, hz0, hz1, hz2⟩ := info_parts infoByte
  have hlen : bs.length = n := hr.len
  have hl2 : (bv bs).length = n * 1 := by rw [bv_length]; omega
  have hnn : A = none → n = 0 ∧ c = 0 := fun h => ⟨by
    have hrd : Rd w A bs := hr.rd
    rw [h] at hrd
    rw [hrd.empty] at hlen; exact hlen.symm, hr.none h⟩
  have HR := Lib.hid hr; have HLEN := Lib.hid hlen; have HL2 := Lib.hid hl2; have HNN := Lib.hid hnn
  clear hr hlen hl2 hnn
  go_enter Try.func15, Try.ntmps15
  go_wp2_with fail
  refine (rnum_any (n : Int) w).mono ?_
  rintro e w1 ⟨g, c1, rfl, ho1, hb1⟩
  have hcs := (HR.out.below hb1).rd.cells
  have hs1 := hb1.size
  have HO1 := Lib.hid ho1; have HB1 := Lib.hid hb1; have HCS := Lib.hid hcs
  clear ho1 hb1 hcs
  go_wp2_with (at_builtin; refine wpList_append_any _ rfl _ _ 22 rfl w.heap.size 5 i0 (.int .u8 0) 1 1 Try.underlying22 hi hz0 hz1 hz2 rfl (by decide) _ 8 (bv (M.num (n : Int))) rfl HO1.out A n c (bv bs) rfl HNN.out HL2.out HCS.out (bv_one _) (by unfold maxLen; omega) (by omega) hs1 ?_; intro v3 w3 hown3 hgrow3; rw [← bv_append] at hown3; obtain ⟨g3, d3, rfl, _, _⟩ := hown3.form (by omega); have hb3 : Below w.heap.size w w3 := HB1.out.grown hgrow3 hs1 (fun k hk => (HO1.out.lt k hk).1); have HB3 := Lib.hid hb3; have HO3 := Lib.hid hown3; clear hb3 hown3 hgrow3)
  go_ret
  exact ⟨g3, 8 + n, d3, rfl, rfl, by rw [M.blob, HLEN.out]; exact HO3.out, HB3.out⟩
end Go.Proofs.Ytjnhfmicadcmnaa.K
