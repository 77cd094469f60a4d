/- The contracts of the reference's reader: New, Number, Bad, Done. -/
import Derived.Test.YtjnhfmicadcmnaaWireRdMath
import Derived.Test.YtjnhfmicadcmnaaRowRead
namespace Go.Proofs.Ytjnhfmicadcmnaa.K
open Go Go.RowKit

def readL (A : Option Addr) (n c : Nat) (at' : Int) (bad : Bool) : List Value := [.slice A n c, .int .i64 at', .bool bad]
/-- the block R is a reader of the document's: s is what is left, or none if it is bad -/
structure RefR (w : World) (R : Nat) (s : M.Rdr) (A : Option Addr) (n c at' : Nat) (bad : Bool) (D : List (BitVec 8)) : Prop where
  blk : ∃ t, w.heap[R]? = some (.cells (readL A n c at' bad).toArray t (0, 0))
  rd : Rd w A D
  len : D.length = n
  none : A = Option.none → c = 0
  at_le : at' ≤ n
  is : s = if bad then Option.none else some (D.drop at')
  n_le : n ≤ 1000000000000
  cap : n ≤ c ∧ c ≤ 9223372036854775807
  ne : ∀ a, A = some a → a.block ≠ R
  form : ∀ a, A = some a → ∃ g, a = ⟨g, 0, Option.none⟩
/-- wherever it stands -/
def RefN (w : World) (R : Nat) (s : M.Rdr) (A : Option Addr) (n c : Nat) (D : List (BitVec 8)) : Prop := ∃ at' bad, RefR w R s A n c at' bad D
theorem RefR.cell {w : World} {R : Nat} {s : M.Rdr} {A : Option Addr} {n c at' : Nat} {bad : Bool} {D : List (BitVec 8)} (h : RefR w R s A n c at' bad D) {i : Nat} {v : Value} (hv : (readL A n c at' bad)[i]? = some v) : w.cell? ⟨R, i, Option.none⟩ = some v := by
  obtain ⟨t, hb⟩ := h.blk
  exact block_cell hb hv
theorem RefR.free {w : World} {R : Nat} {s : M.Rdr} {A : Option Addr} {n c at' : Nat} {bad : Bool} {D : List (BitVec 8)} (h : RefR w R s A n c at' bad D) (i : Nat) : w.frozen? ⟨R, i, Option.none⟩ = false := by
  obtain ⟨t, hb⟩ := h.blk
  exact frozen_of_row w R i _ t hb
theorem Rd.setCell' {w : World} {A : Option Addr} {l : List (BitVec 8)} (h : Rd w A l) {b i : Nat} (hb : ∀ a, A = some a → a.block ≠ b) (v : Value) : Rd (w.setCell ⟨b, i, none⟩ v) A l := fun k hk => by
  obtain ⟨g', o, e, hc⟩ := h k hk
  exact ⟨g', o, e, by rw [cell_setCell_ne _ (hb _ e)]; exact hc⟩
theorem RefR.bad {w : World} {R : Nat} {s : M.Rdr} {A : Option Addr} {n c at' : Nat} {bad : Bool} {D : List (BitVec 8)} (h : RefR w R s A n c at' bad D) : RefR (w.setCell ⟨R, 2, Option.none⟩ (.bool true)) R Option.none A n c at' true D := by
  obtain ⟨t, hb⟩ := h.blk
  exact ⟨⟨t, block_set hb 2 _⟩, h.rd.setCell' h.ne _, h.len, h.none, h.at_le, rfl, h.n_le, h.cap, h.ne, h.form⟩
theorem RefR.move {w : World} {R : Nat} {s : M.Rdr} {A : Option Addr} {n c at' : Nat} {D : List (BitVec 8)} (h : RefR w R s A n c at' false D) (k : Nat) (hk : at' + k ≤ n) : RefR (w.setCell ⟨R, 1, Option.none⟩ (.int .i64 ((at' + k : Nat) : Int))) R (some (D.drop (at' + k))) A n c (at' + k) false D := by
  obtain ⟨t, hb⟩ := h.blk
  exact ⟨⟨t, block_set hb 1 _⟩, h.rd.setCell' h.ne _, h.len, h.none, hk, rfl, h.n_le, h.cap, h.ne, h.form⟩
theorem RefR.drewN {w : World} {R : Nat} {s : M.Rdr} {A : Option Addr} {n c at' : Nat} {bad : Bool} {D : List (BitVec 8)} (h : RefR w R s A n c at' bad D) (q : Nat) : RefR (w.drewN q) R s A n c at' bad D :=
  ⟨h.blk, h.rd, h.len, h.none, h.at_le, h.is, h.n_le, h.cap, h.ne, h.form⟩
theorem conv_W64_int {P : Program} (w : World) (src dst : TypeId) (x : BitVec 64) (hs : P.underlying src = some (.int .u64)) (hd : P.underlying dst = some (.int .i64)) : (convert src dst (W64 x)).run P w = .ok (.int .i64 x.toInt) w := by
  have h : IntKind.i64.wrap (x.toNat : Int) = x.toInt := by
    rw [BitVec.toInt_eq_toNat_bmod]
    simp [IntKind.wrap, IntKind.bits, IntKind.signed, Int.bmod]
    split <;> split <;> omega
  simp [convert, run_underlying hs, run_underlying hd, Conv.intToInt, W64, h]
theorem grown_set {w : World} {g i : Nat} (v : Value) : w.grownBy (w.setCell ⟨g, i, none⟩ v) (some g) := grownBy_setCell w g i v
theorem grown_drew {w w' : World} {row : Option Nat} (h : w.grownBy w' row) (q : Nat) : w.grownBy (w'.drewN q) row := ⟨h.os, h.tape, h.output, h.size, h.block⟩

set_option maxHeartbeats 1000000 in
set_option maxRecDepth 100000 in
theorem rNumber_any (R : Nat) (s : M.Rdr) (A : Option Addr) (n c at' : Nat) (bad : Bool) (D : List (BitVec 8)) (w : World) (h : RefR w R s A n c at' bad D) :
    Calls Try.prog 27 #[.pointer (some ⟨R, 0, none⟩)] w fun e w' => e = .returned (.int .i64 (M.rdNumber s).1) ∧ RefN w' R (M.rdNumber s).2 A n c D ∧ w.grownBy w' (some R) := by
  have c0 : w.cell? ⟨R, 0, none⟩ = some (.slice A n c) := h.cell rfl
  have c1 : w.cell? ⟨R, 1, none⟩ = some (.int .i64 (at' : Int)) := h.cell rfl
  have c2 : w.cell? ⟨R, 2, none⟩ = some (.bool bad) := h.cell rfl
  have f1 := h.free 1
  have f2 := h.free 2
  have hal := h.at_le
  have hnl := h.n_le
  have hcap := h.cap
  have H := Lib.hid h
  cases bad with
  | true =>
    have hs : s = none := h.is
    have HS := Lib.hid hs
    clear h hs
    go_enter Try.func27, Try.ntmps27
    go_wp2
    go_quiet (fail)
    go_wp2
    go_ret
    exact ⟨by rw [HS.out]; rfl, ⟨_, _, by rw [HS.out]; exact (H.out.bad).drewN _⟩, grown_drew (grown_set _) _⟩
  | false =>
    have hs : s = some (D.drop at') := h.is
    have hlen := h.len
    have hdl : (D.drop at').length = n - at' := by rw [List.length_drop, hlen]
    have HS := Lib.hid hs
    rcases Nat.lt_or_ge (n - at') 8 with h8 | h8
    · have d1 : decide ((n : Int) - (at' : Int) < 8) = true := by simp; omega
      have hr : M.rdNumber s = (0, none) := by rw [hs]; simp only [M.rdNumber]; rw [if_pos (by rw [hdl]; exact h8)]
      have HR := Lib.hid hr
      clear h hs hlen hdl hr
      have p1 : (n : Int) - (at' : Int) < 8 := by omega
      go_enter Try.func27, Try.ntmps27
      go_wp2
      go_quiet (fail)
      go_wp2
      go_ret
      exact ⟨by rw [HR.out]; rfl, ⟨_, _, by rw [HR.out]; exact (H.out.bad).drewN _⟩, grown_drew (grown_set _) _⟩
    · have p1 : ¬ (n : Int) - (at' : Int) < 8 := by omega
      have d1 : decide ((n : Int) - (at' : Int) < 8) = false := by simpa using p1
      have hr : M.rdNumber s = (M.val ((D.drop at').take 8), some (D.drop (at' + 8))) := by rw [hs]; simp only [M.rdNumber]; rw [if_neg (by rw [hdl]; omega), List.drop_drop]
      obtain ⟨b, o, hA, _, hD⟩ := h.rd.lay (by omega)
      subst hA
      have hneR : b ≠ R := h.ne _ rfl
      have HR := Lib.hid hr; have HD := Lib.hid hD; have HLEN := Lib.hid hlen
      clear h hs hdl hr hD hlen
      have mc : ∀ (t : TypeId) (x : BitVec 64), binOp .mul t (.int .u64 256) (W64 x) = pure (W64 (256 * x)) := fun t x => W64_mul t 256 x
      go_enter Try.func27, Try.ntmps27
      go_wp2
      go_quiet (fail)
      go_wp2
      go_loopw [3, 4] (fun v i wr => ∃ k : Nat, k ≤ 8 ∧ i = .int .i64 (k : Int) ∧ v = W64 (M.w64 ((D.drop at').take k)) ∧ ∃ q, wr = w.drewN q) (fun _ i _ => 8 - (intOf i).toNat)
      case atStart => exact ⟨0, by omega, rfl, rfl, _, rfl⟩
      case round =>
        obtain ⟨k, hk, rfl, rfl, q, rfl⟩ := hrel
        have k0 : (0 : Int) ≤ (k : Int) := by omega
        rcases Nat.lt_or_ge k 8 with h9 | h9
        · have k1 : (k : Int) < 8 := by omega
          have cx : w.cell? ⟨b, o + (at' + k), none⟩ = some (B8 (D.getD (at' + k) 0)) := HD.out (at' + k) (by have := HLEN.out; omega)
          have w1 : IntKind.i64.wrap ((at' : Int) + (k : Int)) = (at' : Int) + (k : Int) := IntWalk.i64_in _ (by omega)
          have w2 : (0 : Int) ≤ (at' : Int) + (k : Int) := by omega
          have w3 : ((at' : Int) + (k : Int)).toNat = at' + k := by omega
          have w4 : (at' : Int) + (k : Int) < (n : Int) := by omega
          have w5 : at' + k < n := by omega
          go_wp2
          go_quiet (fail)
          clear w1 w2 w3 w4 w5
          go_wp2
          go_roundw
          case rel =>
            refine ⟨k + 1, by omega, by go_num, ?_, _, rfl⟩
            have hl := HLEN.out
            rw [List.take_succ_eq_append_getElem (by rw [List.length_drop]; omega), M.w64_snoc, List.getElem_drop]
            rw [List.getElem?_eq_getElem (by omega)]
            rfl
          case measure => simp [intOf]; omega
        · have hk8 : k = 8 := by omega
          have k1 : ¬ (k : Int) < 8 := by omega
          have hcv := fun w => conv_W64_int (P := Try.prog) w 59 3 (M.w64 ((D.drop at').take k)) Try.underlying59 Try.underlying3
          have HK8 := Lib.hid hk8
          clear hk8 mc
          go_wp2
          go_ret
          have ev : (M.rdNumber s).1 = (M.w64 ((D.drop at').take k)).toInt := by rw [HR.out, HK8.out]; rfl
          have es : (M.rdNumber s).2 = some (D.drop (at' + 8)) := by rw [HR.out]
          refine ⟨by rw [ev]; rfl, ⟨at' + 8, false, ?_⟩, grown_drew (grown_set _) q⟩
          rw [es]
          exact (H.out.move 8 (by omega)).drewN q
end Go.Proofs.Ytjnhfmicadcmnaa.K
