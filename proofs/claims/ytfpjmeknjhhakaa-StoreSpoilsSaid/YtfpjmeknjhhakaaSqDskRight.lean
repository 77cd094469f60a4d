/- The contract of disk.right at the file's name. -/
import Derived.Test.YtfpjmeknjhhakaaSqDskNew
import Derived.Lib.ConvBytes
namespace Go.Proofs.Ytfpjmeknjhhakaa.K
open Go Go.RowKit Go.Maps

def signsS : ByteArray := { data := #[97, 98, 99, 100, 101, 102, 103, 104, 105, 106, 107, 108, 109, 110, 111, 112, 113, 114, 115, 116, 117, 118, 119, 120, 121, 122, 48, 49, 50, 51, 52, 53, 54, 55, 56, 57, 46, 95] }
def oddV (c : Int) : Bool := decide (Lib.indexByte signsS.data.toList c.toNat.toUInt8 < 0)
set_option maxRecDepth 100000 in
theorem lite_any (s : ByteArray) (c : Int) (w : World) :
    Calls Try.prog 152 #[.string s, .int .u8 c] w fun e w' => e = .returned (.int .i64 (Lib.indexByte s.data.toList c.toNat.toUInt8)) ∧ w = w' := by
  go_enter Try.func152, Try.ntmps152
  go_wp2
  rw [run_callFunc_extern Try.func165 (by kernel_rfl) (by kernel_rfl) (by kernel_rfl) (e := Extern.BytealgIndexByte.indexByte) (by kernel_rfl), Lib.run_indexByteString]
  simp only [Result.andThen]
  rw [Oper.upon_value]
  go_wp2
  go_ret
  exact ⟨rfl, rfl⟩
set_option maxRecDepth 100000 in
theorem sidx_any (s : ByteArray) (c : Int) (w : World) :
    Calls Try.prog 108 #[.string s, .int .u8 c] w fun e w' => e = .returned (.int .i64 (Lib.indexByte s.data.toList c.toNat.toUInt8)) ∧ w = w' := by
  go_enter Try.func108, Try.ntmps108
  go_wp2_with (go_at_call 152; refine (lite_any _ _ _).mono ?_; rintro e w' ⟨rfl, rfl⟩)
  go_ret
  exact ⟨rfl, rfl⟩
set_option maxRecDepth 100000 in
theorem right1_any (c : Int) (w : World) :
    Calls Try.prog 107 #[.int .u8 c] w fun e w' => e = .returned (.bool (oddV c)) ∧ w = w' := by
  have hs : ∀ w, Calls Try.prog 108 #[.string signsS, .int .u8 c] w fun e w' => e = .returned (.int .i64 (Lib.indexByte signsS.data.toList c.toNat.toUInt8)) ∧ w = w' := sidx_any _ _
  unfold oddV
  generalize Lib.indexByte signsS.data.toList c.toNat.toUInt8 = y at *
  have HS := Lib.hid hs
  clear hs
  unfold signsS at HS
  go_enter Try.func107, Try.ntmps107
  go_wp2_with fail
  refine (HS.out _).mono ?_
  rintro e w' ⟨rfl, rfl⟩
  clear HS
  go_wp2
  go_ret
  exact ⟨rfl, rfl⟩
set_option maxHeartbeats 1000000 in
set_option maxRecDepth 100000 in
/-- no byte is odd -/
theorem noOdd_any (g n c : Nat) (v : Nat → Int) (w : World) (hr : ∀ i, i < n → w.cell? ⟨g, i, none⟩ = some (.int .u8 (v i)) ∧ oddV (v i) = false) (hn : n ≤ 1000) :
    Calls Try.prog 153 #[.slice (some ⟨g, 0, none⟩) n c, .func (.func 107) #[] #[]] w fun e w' => e = .returned (.int .i64 (-1)) ∧ w = w' := by
  have HR := Lib.hid hr
  clear hr
  go_enter Try.func153, Try.ntmps153
  go_wp2
  go_loop [8] (fun i => ∃ k : Nat, k ≤ n ∧ i = .int .i64 (k : Int)) (fun i => n - (intOf i).toNat)
  case atStart => exact ⟨0, by omega, rfl⟩
  case round =>
    obtain ⟨k, hk, rfl⟩ := hrel
    have k0 : (0 : Int) ≤ (k : Int) := by omega
    by_cases hlt : k < n
    · have i1 : (k : Int) < (n : Int) := by omega
      obtain ⟨hc, ho⟩ := HR.out k hlt
      have HO := Lib.hid ho
      clear ho
      go_wp2_with fail
      refine (right1_any _ _).mono ?_
      rintro e w' ⟨rfl, rfl⟩
      rw [HO.out]
      go_wp2
      go_round
      case rel => exact ⟨k + 1, by omega, by go_num⟩
      case measure => simp [intOf]; omega
    · have i1 : ¬ (k : Int) < (n : Int) := by omega
      go_wp2
      go_ret
      exact ⟨rfl, rfl⟩
set_option maxRecDepth 100000 in
theorem noOddC_any (g n c : Nat) (v : Nat → Int) (w : World) (hr : ∀ i, i < n → w.cell? ⟨g, i, none⟩ = some (.int .u8 (v i)) ∧ oddV (v i) = false) (hn : n ≤ 1000) :
    Calls Try.prog 109 #[.slice (some ⟨g, 0, none⟩) n c, .func (.func 107) #[] #[]] w fun e w' => e = .returned (.bool false) ∧ w = w' := by
  have HR := Lib.hid (noOdd_any g n c v w hr hn)
  clear hr
  go_enter Try.func109, Try.ntmps109
  go_wp2_with (go_at_call 153; refine HR.out.mono ?_; rintro e w' ⟨rfl, rfl⟩)
  go_ret
  exact ⟨rfl, rfl⟩
theorem since_bytesWorld (w : World) (e : TypeId) (s : ByteArray) : Since w (Lib.bytesWorld w e s) := by
  refine ⟨?_, ?_, ?_, by rw [Lib.bytesWorld_size]; omega, fun k hk => Lib.bytesWorld_at_old w e s k hk⟩ <;> rfl
theorem noOdd_store : ∀ i, i < 5 → oddV (storeS.data.toList.getD i 0).toNat = false := by decide +kernel
set_option maxHeartbeats 1000000 in
set_option maxRecDepth 100000 in
theorem right_store (g c : Nat) (w : World) (h : w.cell? ⟨g, 0, none⟩ = some (.string storeS)) :
    Calls Try.prog 54 #[.slice (some ⟨g, 0, none⟩) 1 c] w fun e w' => e = .returned (.bool true) ∧ Since w w' := by
  have hcv : ∀ w, (convert 9 27 (.string storeS)).run Try.prog w = _ := fun w => Lib.run_convert_string_bytes w 9 27 5 storeS Try.underlying9 Try.underlying27 Try.underlying5
  have hsz : storeS.size = 5 := rfl
  rw [hsz] at hcv
  have HC := Lib.hid (fun w => noOddC_any w.heap.size 5 (grownCap w 5 0 5) (fun i => (storeS.data.toList.getD i 0).toNat) (Lib.bytesWorld w 5 storeS) (fun i hi => ⟨Lib.bytesWorld_cell w _ _ i (show i < storeS.size from hi), noOdd_store i hi⟩) (by omega))
  have HS := Lib.hid (fun w => since_bytesWorld w 5 storeS)
  generalize hbw : (fun w => Lib.bytesWorld w 5 storeS) = bw at *
  have hbw' : ∀ w, Lib.bytesWorld w 5 storeS = bw w := fun w => by rw [← hbw]
  simp only [hbw'] at hcv HC HS
  clear hbw hbw' hsz
  have HH := Lib.hid h
  clear h
  unfold storeS at hcv HH
  go_enter Try.func54, Try.ntmps54
  go_wp2
  go_loopw [8] (fun i wr => (i = .int .i64 0 ∧ wr = w) ∨ (i = .int .i64 1 ∧ Since w wr)) (fun i _ => 1 - (intOf i).toNat)
  case atStart => exact .inl ⟨rfl, rfl⟩
  case round =>
    rcases hrel with ⟨rfl, rfl⟩ | ⟨rfl, hs⟩
    · have h := HH.out
      go_wp2_with fail
      refine (HC.out _).mono ?_
      rintro e w' ⟨rfl, rfl⟩
      go_wp2
      go_roundw
      case rel => exact .inr ⟨rfl, HS.out _⟩
      case measure => simp [intOf]
    · have HFIN := Lib.hid hs
      clear hs
      go_wp2
      go_ret
      exact ⟨rfl, HFIN.out⟩
end Go.Proofs.Ytfpjmeknjhhakaa.K
