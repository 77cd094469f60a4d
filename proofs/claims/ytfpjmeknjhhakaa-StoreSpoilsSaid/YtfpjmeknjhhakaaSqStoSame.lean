/- The contracts of slices.Equal for bytes and of store's same, at what is alike. -/
import Derived.Test.YtfpjmeknjhhakaaSq8
import Derived.WalkLawsBesides
namespace Go.Proofs.Ytfpjmeknjhhakaa.K
open Go Go.RowKit Go.Maps

set_option maxHeartbeats 2000000 in
set_option maxRecDepth 100000 in
theorem equal8_any (A B : Option Addr) (n c d : Nat) (bs : List (BitVec 8)) (w : World) (hx : RowRd w ⟨A, n, c⟩ bs) (hy : RowRd w ⟨B, n, d⟩ bs) (hn : n ≤ 1000000000000) :
    Calls Try.prog 126 #[.slice A n c, .slice B n d] w fun e w' => e = .returned (.bool true) ∧ ∃ k, w' = w.drewN k := by
  have HX := Lib.hid hx; have HY := Lib.hid hy
  have HL := Lib.hid (show bs.length = n from hx.len)
  clear hx hy
  go_enter Try.func126, Try.ntmps126
  go_wp2
  go_loopw [13] (fun i wr => ∃ k : Nat, k ≤ n ∧ i = .int .i64 (k : Int) ∧ ∃ q, wr = w.drewN q) (fun i _ => n - (intOf i).toNat)
  case atStart => exact ⟨0, Nat.zero_le _, rfl, 0, rfl⟩
  case round =>
    obtain ⟨k, hk, rfl, q, rfl⟩ := hrel
    have k0 : (0 : Int) ≤ (k : Int) := by omega
    by_cases hlt : k < n
    · have i1 : (k : Int) < (n : Int) := by omega
      have hkl : k < bs.length := by rw [HL.out]; exact hlt
      obtain ⟨b, o, hA, hcx⟩ := HX.out.rd k hkl
      obtain ⟨b', o', hB, hcy⟩ := HY.out.rd k hkl
      have hA' : A = some ⟨b, o, none⟩ := hA
      have hB' : B = some ⟨b', o', none⟩ := hB
      subst hA' hB'
      generalize bs[k] = y at *
      clear hA hB
      go_wp2
      go_quiet (fail)
      go_wp2
      go_roundw
      case rel => exact ⟨k + 1, by omega, by go_num, _, rfl⟩
      case measure => simp [intOf]; omega
    · have i1 : ¬ (k : Int) < (n : Int) := by omega
      go_wp2
      go_ret
      exact ⟨rfl, _, rfl⟩
set_option maxHeartbeats 4000000 in
set_option maxRecDepth 100000 in
theorem same_any (e : M.Ent) (A B : Option Addr) (n c d : Nat) (w : World) (hx : RowRd w ⟨A, n, c⟩ e.data) (hy : RowRd w ⟨B, n, d⟩ e.data) (hn : n ≤ 1000000000000) :
    Calls Try.prog 75 #[.agg #[.int .i64 e.term, B8 e.kind, .int .i64 e.version, .int .i64 e.server, .bool e.good, .slice A n c], .agg #[.int .i64 e.term, B8 e.kind, .int .i64 e.version, .int .i64 e.server, .bool e.good, .slice B n d]] w fun e' w' => e' = .returned (.bool true) ∧ Since w w' := by
  have hs1 := Since.alloc (Below.refl w.heap.size w) (.cells #[.int .i64 e.term, B8 e.kind, .int .i64 e.version, .int .i64 e.server, .bool e.good, .slice A n c] 81)
  have hs2 := Since.alloc hs1 (.cells #[.int .i64 e.term, B8 e.kind, .int .i64 e.version, .int .i64 e.server, .bool e.good, .slice B n d] 81)
  have HEQ := Lib.hid (equal8_any A B n c d e.data _ (Since.row hs2 hx) (Since.row hs2 hy) hn)
  have S2 := Lib.hid hs2
  clear hs1 hs2 hx hy
  have b1 : ∀ w, (binOp .eql 79 (B8 e.kind) (B8 e.kind)).run Try.prog w = .ok (.bool true) w := fun w => by
    simp [B8, go_sem]
  go_enter Try.func75, Try.ntmps75
  go_wp2_with fail
  refine HEQ.out.mono ?_
  rintro e' w3 ⟨rfl, q, rfl⟩
  have HFIN := Lib.hid (Since.drewN S2.out q)
  clear HEQ S2
  go_wp2
  go_ret
  exact ⟨rfl, HFIN.out⟩
end Go.Proofs.Ytfpjmeknjhhakaa.K
