/- The contracts of slices.Clone for bytes and of disk's with. -/
import Derived.Test.YtfpjmeknjhhakaaSqDskUsed
import Derived.WalkLawsBesides
namespace Go.Proofs.Ytfpjmeknjhhakaa.K
open Go Go.RowKit Go.Maps

set_option maxHeartbeats 2000000 in
set_option maxRecDepth 100000 in
theorem clone8_any (A : Option Addr) (n c : Nat) (bs : List (BitVec 8)) (w : World) (hr : RowRd w ⟨A, n, c⟩ bs) (hn : n ≤ 100000000000) :
    Calls Try.prog 63 #[.slice A n c] w (MadeO w bs) := by
  have HR := Lib.hid hr
  cases A with
  | none =>
    have hb : bs = [] := Rd.empty hr.rd
    have hn0 : n = 0 := by have h := hr.len; rw [hb] at h; exact h.symm
    have hc0 : c = 0 := hr.none rfl
    subst hb hn0 hc0
    clear hr
    have hnil := fun w => Lib.run_eql_slice_nil (P := Try.prog) w 27 5 Option.none 0 0 0 0 Try.underlying27
    go_enter Try.func63, Try.ntmps63
    go_wp2
    go_ret
    exact ⟨none, 0, 0, rfl, rfl, World.ownsRow_nil _ _ _ _, Below.refl _ _⟩
  | some a =>
    have BKL := Lib.hid (Bank.lit0 (Bank.nil (Below.refl w.heap.size w)) 5)
    have RL := Lib.hid (Since.row BKL.out.since HR.out)
    clear hr
    have hnil := fun w => Lib.run_eql_slice_nil (P := Try.prog) w 27 5 (some a) n c 0 0 Try.underlying27
    go_enter Try.func63, Try.ntmps63
    go_wp2_with (at_builtin; refine wpList_append_bytes BKL.out rfl _ _ 27 rfl 5 infoByte Try.underlying27 0 _ _ _ [] rfl rfl _ _ _ _ rfl RL.out (by omega) ?_; intro A4 n4 c4 w4 hn4 hB4; dsimp only [List.set] at hB4; rw [List.nil_append] at hB4; have HB4 := Lib.hid hB4; clear hn4 hB4)
    go_ret
    exact ⟨A4, n4, c4, rfl, (RowRd.of_row (HB4.out.at 0 rfl)).len.symm, HB4.out.at 0 rfl, HB4.out.since⟩
set_option maxRecDepth 100000 in
theorem with_nil (w : World) (s : ByteArray) (v : Value) : Calls Try.prog 61 #[.pointer none, .string s, v] w fun e w' => e = .returned (.int .i64 1) ∧ w = w' := by
  go_enter Try.func61, Try.ntmps61
  go_wp2_with (go_at_call 53; refine (known_nil _).mono ?_; rintro e w' ⟨rfl, rfl⟩)
  go_ret
  exact ⟨rfl, rfl⟩
set_option maxHeartbeats 1000000 in
set_option maxRecDepth 100000 in
theorem with_none (w0 w : World) (D R : Nat) (room : Int) (L : List Acc) (v : Value) (h : Dk w0 w D R room none L) :
    Calls Try.prog 61 #[.pointer (some ⟨D, 0, none⟩), .string storeS, v] w fun e w' => e = .returned (.int .i64 6) ∧ w = w' := by
  have c0 := h.c0
  have HD := Lib.hid h.disk
  have l1 := look_nothing (P := Try.prog) Try.underlying129 Try.underlying9 (s := storeS) (by decide) (z := .pointer none) (by kernel_rfl) h.one
  clear h
  generalize storeS = s at *
  go_enter Try.func61, Try.ntmps61
  go_wp2_with (go_at_call 53; refine (known_any D R room _ HD.out).mono ?_; rintro e w' ⟨rfl, rfl⟩)
  go_ret
  exact ⟨rfl, rfl⟩
set_option maxHeartbeats 2000000 in
set_option maxRecDepth 100000 in
theorem with_some (w0 w : World) (D R : Nat) (room : Int) (f : Fil) (L : List Acc) (h : Dk w0 w D R room (some f) L) (fid : FuncId) (cap : Array Value) (v : Value) (Z : World → Prop)
    (hfc : (fid = 127 ∧ cap = #[]) ∨ (fid = 62 ∧ ∃ p, cap = #[p]) ∨ (fid = 113 ∧ ∃ p, cap = #[p]))
    (hc : Calls Try.prog fid (#[.pointer (some ⟨f.g, 0, none⟩)] ++ cap) w fun e w' => e = .returned v ∧ Z w') :
    Calls Try.prog 61 #[.pointer (some ⟨D, 0, none⟩), .string storeS, .func (.func fid) #[] cap] w fun e w' => e = .returned v ∧ Z w' := by
  have c0 := h.c0
  have HD := Lib.hid h.disk
  have l1 := look_one (P := Try.prog) Try.underlying129 Try.underlying9 (s := storeS) (by decide) (v := f.ptr) h.one
  clear h
  unfold Fil.ptr at l1
  have HC := Lib.hid hc
  clear hc
  generalize storeS = s at *
  rcases hfc with ⟨rfl, rfl⟩ | ⟨rfl, p, rfl⟩ | ⟨rfl, p, rfl⟩
  all_goals
    simp only [List.append_toArray, List.cons_append, List.nil_append, List.append_nil] at HC
    go_enter Try.func61, Try.ntmps61
    go_wp2_with (go_at_call 53; refine (known_any D R room _ HD.out).mono ?_; rintro e w' ⟨rfl, rfl⟩)
    refine HC.out.mono ?_
    rintro e w' ⟨rfl, hz⟩
    have HZ := Lib.hid hz
    clear hz
    go_wp2
    go_ret
    exact ⟨rfl, HZ.out⟩
end Go.Proofs.Ytfpjmeknjhhakaa.K
