/- The contracts of frame.four, the reference's four, and frame.check. -/
import Derived.Test.YtfpjmeknjhhakaaFrSum
import Derived.Test.YtfpjmeknjhhakaaBank
import Derived.WalkLawsBesides
namespace Go.Proofs.Ytfpjmeknjhhakaa.K
open Go Go.RowKit

def FourPost (w : World) (n : F.W) (e : Ending) (w' : World) : Prop := e = .returned (.agg (bv (F.be4 n)).toArray) ∧ Since w w'
theorem infoFour (l : List (BitVec 8)) (h : l.length = 4) : (Try.prog.info? 157).map (·.size) = some (bv l).toArray.size := by
  rw [show (bv l).toArray.size = 4 by rw [List.size_toArray, bv_length, h]]; kernel_rfl
set_option maxHeartbeats 1000000 in
theorem four_any (x : BitVec 32) (w : World) : Calls Try.prog 79 #[W32 x] w (FourPost w x) := by
  have hcv := fun w (x : BitVec 32) => conv_W32_B8 (P := Try.prog) w 40 5 x Try.underlying40 Try.underlying5
  go_enter Try.func79, Try.ntmps79
  go_wp2
  refine bodyPost_ret (v := .agg (bv (F.be4 x)).toArray) ?_ ?_ ?_
  · exact results_cell_row rfl _ _ w.heap.size 157 (bv (F.be4 x)).toArray (0, 0) _ rfl (heap_alloc_new w _) Try.underlying157 rfl (infoFour _ rfl)
  · rfl
  · exact ⟨rfl, (Below.refl _ _).alloc (Nat.le_refl _) _⟩
set_option maxHeartbeats 1000000 in
theorem rfour_any (x : BitVec 32) (w : World) : Calls Try.prog 80 #[W32 x] w (Made w (F.be4 x)) := by
  have hcv := fun w (x : BitVec 32) => conv_W32_B8 (P := Try.prog) w 40 5 x Try.underlying40 Try.underlying5
  have HFIN := Lib.hid (show Made w (F.be4 x) (.returned (.slice (some ⟨w.heap.size, 0, none⟩) 4 4)) (w.alloc (.cells (bv (F.be4 x)).toArray 5)) from
    ⟨w.heap.size, 4, 4, rfl, rfl, by have := World.ownsRow_lit (base := w.heap.size) (size := 1) (e := 5) w (bv (F.be4 x)).toArray 4 (Nat.le_refl _) (by unfold maxLen; omega) rfl; exact this, (Below.refl _ _).alloc (Nat.le_refl _) _⟩)
  go_enter Try.func80, Try.ntmps80
  go_wp2
  go_ret
  exact HFIN.out

/-- the error that a frame's check throws -/
def errP (n : Int) : List PanicEntry := [{ v := .iface 28 (.int .i64 n), recovered := false }]
def CheckPost (w : World) (f : F.Fr) (e : Ending) (w' : World) : Prop := e = (if F.errOf f = 0 then .returned (.tuple #[]) else .panicked (errP (F.errOf f))) ∧ Since w w'
set_option maxHeartbeats 1000000 in
theorem check_any (k : Int) (A : Option Addr) (n c : Nat) (bs : List (BitVec 8)) (w : World) (hn : bs.length = n) :
    Calls Try.prog 44 #[.agg #[.int .i64 k, .slice A n c]] w (CheckPost w ⟨k, bs⟩) := by
  have hb : Since w (w.alloc (.cells #[.int .i64 k, .slice A n c] 36)) := (Below.refl _ _).alloc (Nat.le_refl _) _
  have HB := Lib.hid hb
  clear hb
  by_cases h1 : k < 0
  · have HE := Lib.hid (show F.errOf ⟨k, bs⟩ = 2 by unfold F.errOf; rw [if_pos (.inl h1)])
    have d1 : decide (k < 0) = true := by simpa using h1
    go_enter Try.func44, Try.ntmps44
    go_wp2
    exact ⟨rfl, by rw [HE.out]; rfl, HB.out⟩
  · have d1 : decide (k < 0) = false := by simpa using h1
    by_cases h2 : 255 < k
    · have HE := Lib.hid (show F.errOf ⟨k, bs⟩ = 2 by unfold F.errOf; rw [if_pos (.inr h2)])
      go_enter Try.func44, Try.ntmps44
      go_wp2
      exact ⟨rfl, by rw [HE.out]; rfl, HB.out⟩
    · by_cases h3 : 262144 < n
      · have HE := Lib.hid (show F.errOf ⟨k, bs⟩ = 3 by unfold F.errOf; rw [if_neg (by show ¬ (k < 0 ∨ 255 < k); omega), if_pos (by show _ < bs.length; omega)])
        have i3 : (262144 : Int) < (n : Int) := by omega
        go_enter Try.func44, Try.ntmps44
        go_wp2
        exact ⟨rfl, by rw [HE.out]; rfl, HB.out⟩
      · have HE := Lib.hid (show F.errOf ⟨k, bs⟩ = 0 by unfold F.errOf; rw [if_neg (by show ¬ (k < 0 ∨ 255 < k); omega), if_neg (by show ¬ _ < bs.length; omega)])
        have i3 : ¬ (262144 : Int) < (n : Int) := by omega
        go_enter Try.func44, Try.ntmps44
        go_wp2
        go_end0
        exact ⟨by rw [HE.out]; rfl, HB.out⟩
end Go.Proofs.Ytfpjmeknjhhakaa.K
