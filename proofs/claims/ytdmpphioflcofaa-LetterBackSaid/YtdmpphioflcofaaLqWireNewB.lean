/- The contracts of the program's NewReader, and of Bad and Done in every state. -/
import Derived.Test.YtdmpphioflcofaaLqWireReadsB
namespace Go.Proofs.Ytdmpphioflcofaa.K
open Go Go.RowKit

/-- a new reader of the program's -/
def PNew (w : World) (bs : List (BitVec 8)) (e : Ending) (w' : World) : Prop := ∃ P A, e = .returned (.pointer (some ⟨P, 0, none⟩)) ∧ w.heap.size ≤ P ∧ PrgN w' P (some bs) A ∧ (∀ a, A = some a → w.heap.size ≤ a.block ∧ a.block < w'.heap.size ∧ a.block ≠ P) ∧ Below w.heap.size w w'
set_option maxHeartbeats 1000000 in
set_option maxRecDepth 100000 in
theorem pNew_any (A : Option Addr) (n c : Nat) (bs : List (BitVec 8)) (w : World) (hx : RowRd w ⟨A, n, c⟩ bs) (hn2 : n ≤ 1000000000000) :
    Calls Try.prog 35 #[.slice A n c] w (PNew w bs) := by
  obtain ⟨i0, hi, hz0, hz1, hz2⟩ := info_parts infoByte
  have hlen : bs.length = n := hx.len
  have hl2 : (bv bs).length = n * 1 := by rw [bv_length]; omega
  have hnn : A = none → n = 0 ∧ c = 0 := fun h => ⟨by
    have hrd : Rd w A bs := hx.rd
    rw [h] at hrd
    rw [hrd.empty] at hlen; exact hlen.symm, hx.none h⟩
  have hcs := hx.rd.cells
  have HL2 := Lib.hid hl2; have HNN := Lib.hid hnn; have HCS := Lib.hid hcs; have HLEN := Lib.hid hlen
  clear hx hlen hl2 hnn hcs
  go_enter Try.func35, Try.ntmps35
  go_wp2_with (at_builtin; refine wpList_append_any _ rfl _ _ 29 rfl w.heap.size 5 i0 (.int .u8 0) 1 1 Try.underlying29 hi hz0 hz1 hz2 rfl (by decide) _ 0 (bv []) rfl (own_lit0 (Nat.le_refl _)) A n c (bv bs) rfl HNN.out HL2.out (fun ad had j u hu => cell_old _ (HCS.out ad had j u hu)) (bv_one _) (by unfold maxLen; omega) (by omega) (by simp) ?_; intro v3 w3 hown3 hgrow3; rw [← bv_append, List.nil_append, Nat.zero_add] at hown3; obtain ⟨B3, d3, rfl⟩ := row_slice hown3; have hb3 : Below w.heap.size w w3 := ((Below.refl w.heap.size w).alloc (Nat.le_refl _) _).grown hgrow3 (by simp) (fun k hk => ((own_lit0 (e := 5) (Nat.le_refl w.heap.size)).lt k hk).1); have HB3 := Lib.hid hb3; have HO3 := Lib.hid hown3; clear hb3 hown3 hgrow3)
  go_ret
  have hr := row_room HO3.out
  have hb := HB3.out
  have hsz := hb.size
  refine ⟨w3.heap.size, B3, rfl, hsz, ⟨bs, B3, n, d3, ⟨⟨_, by exact heap_alloc_new w3 (.cells (readP B3 n d3 true false).toArray 125)⟩, ?_, HLEN.out, fun e => (hr.2.2.1 e).2, hn2, ⟨hr.1, hr.2.1⟩, fun a e => ?_, fun a e => ?_⟩, rfl, fun a e => ⟨a, e, rfl⟩⟩, fun a e => ?_, hb.alloc hsz _⟩
  · exact (Rd.of_own HO3.out).below ((Below.refl _ _).alloc (Nat.le_refl _) _)
  · obtain ⟨g, rfl, _, hg⟩ := hr.2.2.2 a e
    show g ≠ _; omega
  · obtain ⟨g, rfl, _, hg⟩ := hr.2.2.2 a e
    exact ⟨g, 0, rfl⟩
  · obtain ⟨g, rfl, hg, hg2⟩ := hr.2.2.2 a e
    refine ⟨hg, ?_, ?_⟩
    · show g < _; simp; omega
    · show g ≠ _; omega

theorem pBadN (P : Nat) (s : M.Rdr) (A0 : Option Addr) (w : World) (h : PrgN w P s A0) : Calls Try.prog 109 #[.pointer (some ⟨P, 0, none⟩)] w fun e w' => e = .returned (.bool s.isNone) ∧ w = w' := by
  obtain ⟨l, A, n, c, h⟩ := h
  cases s with
  | none => exact pBad_bad P A n c w h
  | some l' => exact pBad_any P l A n c false w h.1
theorem pDone_bad (p : Option Addr) (w : World) (hbad : Calls Try.prog 109 #[.pointer p] w fun e w' => e = .returned (.bool true) ∧ w = w') : Calls Try.prog 73 #[.pointer p] w fun e w' => e = .returned (.bool false) ∧ w = w' := by
  go_enter Try.func73, Try.ntmps73
  go_wp2_with fail
  refine hbad.mono ?_
  rintro e w1 ⟨rfl, rfl⟩
  go_wp2
  go_ret
  exact ⟨rfl, rfl⟩
theorem pDone_good (P : Nat) (l : List (BitVec 8)) (A : Option Addr) (n c : Nat) (w : World) (h : PrgR w P l A n c true false) : Calls Try.prog 73 #[.pointer (some ⟨P, 0, none⟩)] w fun e w' => e = .returned (.bool ((n : Int) == 0)) ∧ w = w' := by
  have c0 : w.cell? ⟨P, 0, none⟩ = some (.slice A n c) := h.cell rfl
  have H := Lib.hid h
  clear h
  go_enter Try.func73, Try.ntmps73
  go_wp2_with fail
  refine (pBad_any P l A n c false w H.out).mono ?_
  rintro e w1 ⟨rfl, rfl⟩
  go_wp2
  go_ret
  exact ⟨rfl, rfl⟩
theorem pDoneN (P : Nat) (s : M.Rdr) (A0 : Option Addr) (w : World) (h : PrgN w P s A0) : Calls Try.prog 73 #[.pointer (some ⟨P, 0, none⟩)] w fun e w' => e = .returned (.bool (decide (s = some []))) ∧ w = w' := by
  have hb := pBadN P s A0 w h
  obtain ⟨l, A, n, c, h⟩ := h
  cases s with
  | none => exact (pDone_bad _ w hb).mono fun e w' ⟨h1, h2⟩ => ⟨by rw [h1]; rfl, h2⟩
  | some l' =>
    obtain ⟨hp, rfl, _⟩ := h
    refine (pDone_good P l A n c w hp).mono fun e w' ⟨h1, h2⟩ => ⟨?_, h2⟩
    have hl := hp.len
    have e2 : ((n : Int) == 0) = decide (some l = some []) := by
      rw [Bool.eq_iff_iff, decide_eq_true_iff, beq_iff_eq]
      constructor
      · intro h0
        rw [List.eq_nil_of_length_eq_zero (by omega : l.length = 0)]
      · intro h0
        have h1 : l = [] := Option.some.inj h0
        rw [h1] at hl; simp at hl; omega
    rw [h1, e2]
end Go.Proofs.Ytdmpphioflcofaa.K
