/- The contracts of store's Sync and Cell. -/
import Derived.Test.YtfpjmeknjhhakaaSqStoLift
import Derived.Deep.MidRow
namespace Go.Proofs.Ytfpjmeknjhhakaa.K
open Go Go.RowKit Go.Maps

def osync : Option Fil → Option Fil
  | none => none
  | some f => some { f with safe := f.n }
set_option maxHeartbeats 2000000 in
set_option maxRecDepth 100000 in
theorem sSync_any (w0 w : World) (D R : Nat) (room : Int) (o : Option Fil) (Z : Nat) (c : S.Cl) (A : Option Addr) (cE : Nat) (xs : List EV) (L : List Acc) (h : SK w0 w D R room o Z c A cE xs L) :
    Calls Try.prog 37 #[.pointer (some ⟨Z, 0, none⟩)] w fun e w' => e = .returned (.int .i64 0) ∧ SK w0 w' D R room (osync o) Z c A cE xs L := by
  have c0 := h.box.c0
  have HTH := Lib.hid (there_any Z D w c0)
  cases o with
  | none =>
    have HC := Lib.hid (dSync_none w0 w D R room _ h.dk)
    have HFIN := Lib.hid h
    clear h
    unfold storeS at HC
    go_enter Try.func37, Try.ntmps37
    go_wp2_with (first
      | (go_at_call 66; refine HTH.out.mono ?_; rintro e w' ⟨rfl, rfl⟩)
      | (go_at_call 76; refine HC.out.mono ?_; rintro e w' ⟨rfl, rfl⟩)
      | fail "arm")
    go_ret
    exact ⟨rfl, HFIN.out⟩
  | some f =>
    have HC := Lib.hid (dSync_some w0 w D R room f _ h.dk)
    clear h
    unfold storeS at HC
    go_enter Try.func37, Try.ntmps37
    go_wp2_with (go_at_call 66; refine HTH.out.mono ?_; rintro e w' ⟨rfl, rfl⟩)
    refine HC.out.mono ?_
    rintro e w1 ⟨rfl, hz⟩
    have HFIN := Lib.hid hz
    clear hz HC HTH
    go_wp2
    go_ret
    exact ⟨rfl, HFIN.out⟩
def clV (c : S.Cl) : Value := .agg #[.int .i64 c.term, .int .i64 c.vote, .int .i64 c.applied, .int .i64 c.active]
set_option maxHeartbeats 2000000 in
set_option maxRecDepth 100000 in
theorem sCell_any (w : World) (Z D : Nat) (c : S.Cl) (A : Option Addr) (n cE : Nat) (h : StBox w Z D c A n cE) :
    Calls Try.prog 39 #[.pointer (some ⟨Z, 0, none⟩)] w fun e w' => e = .returned (.agg #[.int .i64 c.term, .int .i64 c.vote, .int .i64 c.applied, .int .i64 c.active]) ∧ Since w w' := by
  have hs := Since.alloc (Below.refl w.heap.size w) (.cells #[.int .i64 0, .int .i64 0, .int .i64 0, .int .i64 0] 65)
  have h2 := h.since hs
  have c0 := h2.c0
  obtain ⟨c1, c2, c3, c4⟩ := h2.c1
  have hlt := h.lt
  have hne := Nat.ne_of_lt hlt
  have hne2 := Ne.symm hne
  have HTH := Lib.hid (there_any Z D _ c0)
  clear h h2
  go_enter Try.func39, Try.ntmps39
  go_wp2_with (go_at_call 66; refine HTH.out.mono ?_; rintro e w' ⟨rfl, rfl⟩)
  refine bodyPost_ret (v := .agg #[.int .i64 c.term, .int .i64 c.vote, .int .i64 c.applied, .int .i64 c.active]) ?_ rfl ⟨rfl, Since.alloc (Below.refl _ _) _⟩
  exact results_cell_row rfl _ _ w.heap.size 65 _ (0, 0) _ rfl (heap_alloc_new w _) Try.underlying65 rfl (by kernel_rfl)
set_option maxHeartbeats 2000000 in
set_option maxRecDepth 100000 in
theorem sSync_nil (w : World) :
    Calls Try.prog 37 #[.pointer none] w fun e w' => e = .returned (.int .i64 1) ∧ w = w' := by
  have HTH := Lib.hid (there_nil w)
  go_enter Try.func37, Try.ntmps37
  go_wp2_with (go_at_call 66; refine HTH.out.mono ?_; rintro e w' ⟨rfl, rfl⟩)
  go_ret
  exact ⟨rfl, rfl⟩
set_option maxHeartbeats 2000000 in
set_option maxRecDepth 100000 in
theorem sCell_nil (w : World) :
    Calls Try.prog 39 #[.pointer none] w fun e w' => e = .returned (.agg #[.int .i64 0, .int .i64 0, .int .i64 0, .int .i64 0]) ∧ Since w w' := by
  have HTH := Lib.hid (show Calls Try.prog 66 #[.pointer none] (w.alloc (.cells #[.int .i64 0, .int .i64 0, .int .i64 0, .int .i64 0] 65)) _ from there_nil _)
  go_enter Try.func39, Try.ntmps39
  go_wp2_with (go_at_call 66; refine HTH.out.mono ?_; rintro e w' ⟨rfl, rfl⟩)
  refine bodyPost_ret (v := .agg #[.int .i64 0, .int .i64 0, .int .i64 0, .int .i64 0]) ?_ rfl ⟨rfl, Since.alloc (Below.refl _ _) _⟩
  exact results_cell_row rfl _ _ w.heap.size 65 _ (0, 0) _ rfl (heap_alloc_new w _) Try.underlying65 rfl (by kernel_rfl)
set_option maxHeartbeats 2000000 in
set_option maxRecDepth 100000 in
theorem sEnts_nil (w : World) :
    Calls Try.prog 38 #[.pointer none] w fun e w' => e = .returned (.slice none 0 0) ∧ w = w' := by
  have HTH := Lib.hid (there_nil w)
  go_enter Try.func38, Try.ntmps38
  go_wp2_with (go_at_call 66; refine HTH.out.mono ?_; rintro e w' ⟨rfl, rfl⟩)
  go_ret
  exact ⟨rfl, rfl⟩
set_option maxHeartbeats 2000000 in
set_option maxRecDepth 100000 in
theorem sApp_nil (w : World) (i : Int) (v : Value) :
    Calls Try.prog 36 #[.pointer none, .int .i64 i, v] w fun e w' => e = .returned (.int .i64 1) ∧ w = w' := by
  have HTH := Lib.hid (there_nil w)
  go_enter Try.func36, Try.ntmps36
  go_wp2_with (go_at_call 66; refine HTH.out.mono ?_; rintro e w' ⟨rfl, rfl⟩)
  go_ret
  exact ⟨rfl, rfl⟩
set_option maxHeartbeats 2000000 in
set_option maxRecDepth 100000 in
theorem sSync_empty (Z : Nat) (w : World) (h : w.cell? ⟨Z, 0, none⟩ = some (.pointer none)) :
    Calls Try.prog 37 #[.pointer (some ⟨Z, 0, none⟩)] w fun e w' => e = .returned (.int .i64 1) ∧ w = w' := by
  have HTH := Lib.hid (there_empty Z w h)
  clear h
  go_enter Try.func37, Try.ntmps37
  go_wp2_with (go_at_call 66; refine HTH.out.mono ?_; rintro e w' ⟨rfl, rfl⟩)
  go_ret
  exact ⟨rfl, rfl⟩
set_option maxHeartbeats 2000000 in
set_option maxRecDepth 100000 in
theorem sCell_empty (Z : Nat) (w : World) (h : w.cell? ⟨Z, 0, none⟩ = some (.pointer none)) :
    Calls Try.prog 39 #[.pointer (some ⟨Z, 0, none⟩)] w fun e w' => e = .returned (.agg #[.int .i64 0, .int .i64 0, .int .i64 0, .int .i64 0]) ∧ Since w w' := by
  have HTH := Lib.hid (show Calls Try.prog 66 #[.pointer (some ⟨Z, 0, none⟩)] (w.alloc (.cells #[.int .i64 0, .int .i64 0, .int .i64 0, .int .i64 0] 65)) _ from there_empty Z _ (cell_old _ h))
  clear h
  go_enter Try.func39, Try.ntmps39
  go_wp2_with (go_at_call 66; refine HTH.out.mono ?_; rintro e w' ⟨rfl, rfl⟩)
  refine bodyPost_ret (v := .agg #[.int .i64 0, .int .i64 0, .int .i64 0, .int .i64 0]) ?_ rfl ⟨rfl, Since.alloc (Below.refl _ _) _⟩
  exact results_cell_row rfl _ _ w.heap.size 65 _ (0, 0) _ rfl (heap_alloc_new w _) Try.underlying65 rfl (by kernel_rfl)
set_option maxHeartbeats 2000000 in
set_option maxRecDepth 100000 in
theorem sEnts_empty (Z : Nat) (w : World) (h : w.cell? ⟨Z, 0, none⟩ = some (.pointer none)) :
    Calls Try.prog 38 #[.pointer (some ⟨Z, 0, none⟩)] w fun e w' => e = .returned (.slice none 0 0) ∧ w = w' := by
  have HTH := Lib.hid (there_empty Z w h)
  clear h
  go_enter Try.func38, Try.ntmps38
  go_wp2_with (go_at_call 66; refine HTH.out.mono ?_; rintro e w' ⟨rfl, rfl⟩)
  go_ret
  exact ⟨rfl, rfl⟩
set_option maxHeartbeats 2000000 in
set_option maxRecDepth 100000 in
theorem sApp_empty (Z : Nat) (w : World) (i : Int) (v : Value) (h : w.cell? ⟨Z, 0, none⟩ = some (.pointer none)) :
    Calls Try.prog 36 #[.pointer (some ⟨Z, 0, none⟩), .int .i64 i, v] w fun e w' => e = .returned (.int .i64 1) ∧ w = w' := by
  have HTH := Lib.hid (there_empty Z w h)
  clear h
  go_enter Try.func36, Try.ntmps36
  go_wp2_with (go_at_call 66; refine HTH.out.mono ?_; rintro e w' ⟨rfl, rfl⟩)
  go_ret
  exact ⟨rfl, rfl⟩
end Go.Proofs.Ytfpjmeknjhhakaa.K
