/- The contract of barbicankit.CopyBytes (with the bank of rows). -/
import Derived.Test.YtdmpphioflcofaaGreatLz9
namespace Go.Proofs.YtdmpphioflcofaaGreat.K
open Go Go.RowKit

set_option maxHeartbeats 1000000 in
set_option maxRecDepth 100000 in
theorem CopyBytes_any (A : Option Addr) (n c : Nat) (bs : List (BitVec 8)) (w : World) (hx : RowRd w ⟨A, n, c⟩ bs) (hn2 : n ≤ 100000000000000) :
    Calls Tryz.prog 18 #[.slice A n c] w fun e w' => ∃ B c', e = .returned (.slice B n c') ∧ w'.ownsRow w.heap.size 5 1 (.slice B n c') n (bv bs) ∧ Below w.heap.size w w' := by
  have HX := Lib.hid hx
  have BK0 := Lib.hid (Bank.none (Bank.nil (Below.refl w.heap.size w)) 5 1)
  clear hx
  go_enter Tryz.func18, Tryz.ntmps18
  go_wp2_with (at_builtin; refine wpList_append_bytes BK0.out rfl _ _ 22 rfl 5 infoByte Tryz.underlying22 0 none 0 0 [] rfl rfl _ _ _ _ rfl HX.out (by omega) ?_; intro A2 n2 c2 w2 hn2' hB2; dsimp only [List.set] at hB2; rw [Nat.zero_add] at hn2'; subst hn2'; have BK2 := Lib.hid hB2; clear hB2)
  go_ret
  exact ⟨A2, c2, rfl, BK2.out.at 0 rfl, BK2.out.since⟩
end Go.Proofs.YtdmpphioflcofaaGreat.K
