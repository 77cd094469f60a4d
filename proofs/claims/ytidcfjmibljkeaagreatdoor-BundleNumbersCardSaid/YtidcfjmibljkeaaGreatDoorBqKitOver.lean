/- The contract of barbicankit.OverBytes: what was lent is written over; nothing else. -/
import Derived.Test.YtidcfjmibljkeaaGreatDoorBq9
namespace Go.Proofs.YtidcfjmibljkeaaGreatDoor.K
open Go Go.RowKit

set_option maxHeartbeats 1000000 in
set_option maxRecDepth 100000 in
theorem OverBytes_any (g n : Nat) (bs : List (BitVec 8)) (t : TypeId) (w : World) (hg : w.heap[g]? = some (.cells (bv bs).toArray t (0, 0))) (hn : bs.length = n + 12) (hn2 : n ≤ 140737488000000) :
    Calls Tryz.prog 13 #[.slice (some ⟨g, 0, none⟩) n (n + 12)] w fun e w' => e = .returned (.tuple #[]) ∧ w.grownBy w' (some g) := by
  have HG := Lib.hid hg; have HN := Lib.hid hn
  clear hg hn
  have i0 : (0 : Int) ≤ (n : Int) + 12 := by omega
  go_enter Tryz.func13, Tryz.ntmps13
  go_wp2
  go_loopw [3] (fun i wr => ∃ (k : Nat) (xs : List (BitVec 8)), k ≤ n + 12 ∧ i = .int .i64 (k : Int) ∧ xs.length = n + 12 ∧ wr.heap[g]? = some (.cells (bv xs).toArray t (0, 0)) ∧ w.grownBy wr (some g)) (fun i _ => n + 12 - (intOf i).toNat)
  case atStart => exact ⟨0, bs, by omega, rfl, HN.out, HG.out, World.grownBy.refl _ _⟩
  case round =>
    clear HG HN
    obtain ⟨k, xs, hk, rfl, hl, hb, hgr⟩ := hrel
    have k0 : (0 : Int) ≤ (k : Int) := by omega
    rcases Nat.lt_or_ge k (n + 12) with h1 | h1
    · have i1 : (k : Int) < (n : Int) + 12 := by omega
      have hc : wr.cell? ⟨g, k, none⟩ = some (B8 (xs.getD k 0)) := block_cell hb (by simp [bv, show k < xs.length by omega])
      have hf : wr.frozen? ⟨g, k, none⟩ = false := frozen_of_row wr g k _ _ hb
      have HB := Lib.hid (block_set hb k (B8 (markB 2 (k : Int)))); have HGR := Lib.hid hgr; have HL := Lib.hid hl
      clear hb hgr hl
      go_wp2_with (first
        | (go_at_call 30; refine (markByte_any _ _ _).mono ?_; rintro e w' ⟨rfl, rfl⟩)
        | (with_reducible refine wpList_store_one rfl 5 (.tmp 19) (.tmp 18) rfl ⟨g, k, none⟩ (B8 (markB 2 (k : Int))) _ rfl rfl rfl (by kernel_rfl) hc hf ?_))
      go_roundw
      case rel =>
        refine ⟨k + 1, xs.set k (markB 2 (k : Int)), by omega, by go_num, by rw [List.length_set]; exact HL.out, ?_, ?_⟩
        · have e2 : bv (xs.set k (markB 2 (k : Int))) = (bv xs).set k (B8 (markB 2 (k : Int))) := by simp [bv]
          rw [e2]; exact HB.out
        · have h := HGR.out
          have h2 := grownBy_setCell wr g k (B8 (markB 2 (k : Int)))
          exact ⟨h2.os.trans h.os, h2.tape.trans h.tape, h2.output.trans h.output, Nat.le_trans h.size h2.size, fun j hj hne => (h2.block j (Nat.lt_of_lt_of_le hj h.size) hne).trans (h.block j hj hne)⟩
      case measure => simp [intOf]; omega
    · have i1 : ¬ (k : Int) < (n : Int) + 12 := by omega
      have HGR := Lib.hid hgr
      clear hb hgr hl
      go_wp2
      go_end0
      exact ⟨rfl, HGR.out⟩
end Go.Proofs.YtidcfjmibljkeaaGreatDoor.K
