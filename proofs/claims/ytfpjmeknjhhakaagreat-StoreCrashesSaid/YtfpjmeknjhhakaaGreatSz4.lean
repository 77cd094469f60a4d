/- Merged: WireReadsB, RefReader, RefReader2, RefReader3, WireEnt, WireEnt2, WireCatchE, WireReadsE, WireReadsF. -/
import Derived.Test.YtfpjmeknjhhakaaGreatSz3
import Derived.Deep.RegionHeld3
import Derived.Laws.Pointers
set_option linter.unusedVariables false
/- The contracts of the program's reader: Bytes. -/
namespace Go.Proofs.YtfpjmeknjhhakaaGreat.K
open Go Go.RowKit

theorem own_low {w : World} {base base' : Nat} {e : TypeId} {size : Nat} {v : Value} {n : Nat} {xs : List Value} (h : w.ownsRow base e size v n xs) (hb : base' ≤ base) : w.ownsRow base' e size v n xs :=
  ⟨h.1, h.2.imp id fun ⟨g, cap, cur, h1, h2, h3⟩ => ⟨g, cap, cur, h1, Nat.le_trans hb h2, h3⟩⟩
theorem prdBytes_none {l : List (BitVec 8)} (h : (M.rdBytes (some l)).2 = none) : M.rdBytes (some l) = ([], none) := by
  unfold M.rdBytes at *
  split
  · rfl
  · rename_i hq
    simp only [hq] at h
    split at h
    · rename_i hc; rw [if_pos hc]
    · cases h

/-- bytes were got, or nothing -/
def GotByt (w : World) (P : Nat) (s : M.Rdr) (A0 : Option Addr) (e : Ending) (w' : World) : Prop := ∃ B m c, e = .returned (.slice B m c) ∧ w'.ownsRow w.heap.size 5 1 (.slice B m c) m (bv (M.rdBytes s).1) ∧ PrgN w' P (M.rdBytes s).2 A0 ∧ w.grownBy w' (some P)




end Go.Proofs.YtfpjmeknjhhakaaGreat.K

/- The contracts of the reference's reader: New, Number, Bad, Done. -/
namespace Go.Proofs.YtfpjmeknjhhakaaGreat.K
open Go Go.RowKit

def readL (A : Option Addr) (n c : Nat) (at' : Int) (bad : Bool) : List Value := [.slice A n c, .int .i64 at', .bool bad]
/-- the block R is a reader of the document's: s is what is left, or none if it is bad -/
structure RefR (w : World) (R : Nat) (s : M.Rdr) (A : Option Addr) (n c at' : Nat) (bad : Bool) (D : List (BitVec 8)) : Prop where
  blk : ∃ t, w.heap[R]? = some (.cells (readL A n c at' bad).toArray t (0, 0))
  rd : Rd w A D
  len : D.length = n
  none : A = Option.none → c = 0
  at_le : at' ≤ n
  is : s = if bad then Option.none else some (D.drop at')
  n_le : n ≤ 1000000000000
  cap : n ≤ c ∧ c ≤ 9223372036854775807
  ne : ∀ a, A = some a → a.block ≠ R
  form : ∀ a, A = some a → ∃ g, a = ⟨g, 0, Option.none⟩
/-- wherever it stands -/
def RefN (w : World) (R : Nat) (s : M.Rdr) (A : Option Addr) (n c : Nat) (D : List (BitVec 8)) : Prop := ∃ at' bad, RefR w R s A n c at' bad D
theorem RefR.cell {w : World} {R : Nat} {s : M.Rdr} {A : Option Addr} {n c at' : Nat} {bad : Bool} {D : List (BitVec 8)} (h : RefR w R s A n c at' bad D) {i : Nat} {v : Value} (hv : (readL A n c at' bad)[i]? = some v) : w.cell? ⟨R, i, Option.none⟩ = some v := by
  obtain ⟨t, hb⟩ := h.blk
  exact block_cell hb hv
theorem RefR.free {w : World} {R : Nat} {s : M.Rdr} {A : Option Addr} {n c at' : Nat} {bad : Bool} {D : List (BitVec 8)} (h : RefR w R s A n c at' bad D) (i : Nat) : w.frozen? ⟨R, i, Option.none⟩ = false := by
  obtain ⟨t, hb⟩ := h.blk
  exact frozen_of_row w R i _ t hb
theorem Rd.setCell' {w : World} {A : Option Addr} {l : List (BitVec 8)} (h : Rd w A l) {b i : Nat} (hb : ∀ a, A = some a → a.block ≠ b) (v : Value) : Rd (w.setCell ⟨b, i, none⟩ v) A l := fun k hk => by
  obtain ⟨g', o, e, hc⟩ := h k hk
  exact ⟨g', o, e, by rw [cell_setCell_ne _ (hb _ e)]; exact hc⟩
theorem RefR.bad {w : World} {R : Nat} {s : M.Rdr} {A : Option Addr} {n c at' : Nat} {bad : Bool} {D : List (BitVec 8)} (h : RefR w R s A n c at' bad D) : RefR (w.setCell ⟨R, 2, Option.none⟩ (.bool true)) R Option.none A n c at' true D := by
  obtain ⟨t, hb⟩ := h.blk
  exact ⟨⟨t, block_set hb 2 _⟩, h.rd.setCell' h.ne _, h.len, h.none, h.at_le, rfl, h.n_le, h.cap, h.ne, h.form⟩
theorem RefR.move {w : World} {R : Nat} {s : M.Rdr} {A : Option Addr} {n c at' : Nat} {D : List (BitVec 8)} (h : RefR w R s A n c at' false D) (k : Nat) (hk : at' + k ≤ n) : RefR (w.setCell ⟨R, 1, Option.none⟩ (.int .i64 ((at' + k : Nat) : Int))) R (some (D.drop (at' + k))) A n c (at' + k) false D := by
  obtain ⟨t, hb⟩ := h.blk
  exact ⟨⟨t, block_set hb 1 _⟩, h.rd.setCell' h.ne _, h.len, h.none, hk, rfl, h.n_le, h.cap, h.ne, h.form⟩
theorem RefR.drewN {w : World} {R : Nat} {s : M.Rdr} {A : Option Addr} {n c at' : Nat} {bad : Bool} {D : List (BitVec 8)} (h : RefR w R s A n c at' bad D) (q : Nat) : RefR (w.drewN q) R s A n c at' bad D :=
  ⟨h.blk, h.rd, h.len, h.none, h.at_le, h.is, h.n_le, h.cap, h.ne, h.form⟩
theorem conv_W64_int {P : Program} (w : World) (src dst : TypeId) (x : BitVec 64) (hs : P.underlying src = some (.int .u64)) (hd : P.underlying dst = some (.int .i64)) : (convert src dst (W64 x)).run P w = .ok (.int .i64 x.toInt) w := by
  have h : IntKind.i64.wrap (x.toNat : Int) = x.toInt := by
    rw [BitVec.toInt_eq_toNat_bmod]
    simp [IntKind.wrap, IntKind.bits, IntKind.signed, Int.bmod]
    split <;> split <;> omega
  simp [convert, run_underlying hs, run_underlying hd, Conv.intToInt, W64, h]
theorem grown_set {w : World} {g i : Nat} (v : Value) : w.grownBy (w.setCell ⟨g, i, none⟩ v) (some g) := grownBy_setCell w g i v
theorem grown_drew {w w' : World} {row : Option Nat} (h : w.grownBy w' row) (q : Nat) : w.grownBy (w'.drewN q) row := ⟨h.os, h.tape, h.output, h.size, h.block⟩

set_option maxHeartbeats 1000000 in
set_option maxRecDepth 100000 in
theorem rNumber_any (R : Nat) (s : M.Rdr) (A : Option Addr) (n c at' : Nat) (bad : Bool) (D : List (BitVec 8)) (w : World) (h : RefR w R s A n c at' bad D) :
    Calls Tryz.prog 39 #[.pointer (some ⟨R, 0, none⟩)] w fun e w' => e = .returned (.int .i64 (M.rdNumber s).1) ∧ RefN w' R (M.rdNumber s).2 A n c D ∧ w.grownBy w' (some R) := by
  have c0 : w.cell? ⟨R, 0, none⟩ = some (.slice A n c) := h.cell rfl
  have c1 : w.cell? ⟨R, 1, none⟩ = some (.int .i64 (at' : Int)) := h.cell rfl
  have c2 : w.cell? ⟨R, 2, none⟩ = some (.bool bad) := h.cell rfl
  have f1 := h.free 1
  have f2 := h.free 2
  have hal := h.at_le
  have hnl := h.n_le
  have hcap := h.cap
  have H := Lib.hid h
  cases bad with
  | true =>
    have hs : s = none := h.is
    have HS := Lib.hid hs
    clear h hs
    go_enter Tryz.func39, Tryz.ntmps39
    go_wp2
    go_quiet (fail)
    go_wp2
    go_ret
    exact ⟨by rw [HS.out]; rfl, ⟨_, _, by rw [HS.out]; exact (H.out.bad).drewN _⟩, grown_drew (grown_set _) _⟩
  | false =>
    have hs : s = some (D.drop at') := h.is
    have hlen := h.len
    have hdl : (D.drop at').length = n - at' := by rw [List.length_drop, hlen]
    have HS := Lib.hid hs
    rcases Nat.lt_or_ge (n - at') 8 with h8 | h8
    · have d1 : decide ((n : Int) - (at' : Int) < 8) = true := by simp; omega
      have hr : M.rdNumber s = (0, none) := by rw [hs]; simp only [M.rdNumber]; rw [if_pos (by rw [hdl]; exact h8)]
      have HR := Lib.hid hr
      clear h hs hlen hdl hr
      have p1 : (n : Int) - (at' : Int) < 8 := by omega
      go_enter Tryz.func39, Tryz.ntmps39
      go_wp2
      go_quiet (fail)
      go_wp2
      go_ret
      exact ⟨by rw [HR.out]; rfl, ⟨_, _, by rw [HR.out]; exact (H.out.bad).drewN _⟩, grown_drew (grown_set _) _⟩
    · have p1 : ¬ (n : Int) - (at' : Int) < 8 := by omega
      have d1 : decide ((n : Int) - (at' : Int) < 8) = false := by simpa using p1
      have hr : M.rdNumber s = (M.val ((D.drop at').take 8), some (D.drop (at' + 8))) := by rw [hs]; simp only [M.rdNumber]; rw [if_neg (by rw [hdl]; omega), List.drop_drop]
      obtain ⟨b, o, hA, _, hD⟩ := h.rd.lay (by omega)
      subst hA
      have hneR : b ≠ R := h.ne _ rfl
      have HR := Lib.hid hr; have HD := Lib.hid hD; have HLEN := Lib.hid hlen
      clear h hs hdl hr hD hlen
      have mc : ∀ (t : TypeId) (x : BitVec 64), binOp .mul t (.int .u64 256) (W64 x) = pure (W64 (256 * x)) := fun t x => W64_mul t 256 x
      go_enter Tryz.func39, Tryz.ntmps39
      go_wp2
      go_quiet (fail)
      go_wp2
      go_loopw [3, 4] (fun v i wr => ∃ k : Nat, k ≤ 8 ∧ i = .int .i64 (k : Int) ∧ v = W64 (M.w64 ((D.drop at').take k)) ∧ ∃ q, wr = w.drewN q) (fun _ i _ => 8 - (intOf i).toNat)
      case atStart => exact ⟨0, by omega, rfl, rfl, _, rfl⟩
      case round =>
        obtain ⟨k, hk, rfl, rfl, q, rfl⟩ := hrel
        have k0 : (0 : Int) ≤ (k : Int) := by omega
        rcases Nat.lt_or_ge k 8 with h9 | h9
        · have k1 : (k : Int) < 8 := by omega
          have cx : w.cell? ⟨b, o + (at' + k), none⟩ = some (B8 (D.getD (at' + k) 0)) := HD.out (at' + k) (by have := HLEN.out; omega)
          have w1 : IntKind.i64.wrap ((at' : Int) + (k : Int)) = (at' : Int) + (k : Int) := IntWalk.i64_in _ (by omega)
          have w2 : (0 : Int) ≤ (at' : Int) + (k : Int) := by omega
          have w3 : ((at' : Int) + (k : Int)).toNat = at' + k := by omega
          have w4 : (at' : Int) + (k : Int) < (n : Int) := by omega
          have w5 : at' + k < n := by omega
          go_wp2
          go_quiet (fail)
          clear w1 w2 w3 w4 w5
          go_wp2
          go_roundw
          case rel =>
            refine ⟨k + 1, by omega, by go_num, ?_, _, rfl⟩
            have hl := HLEN.out
            rw [List.take_succ_eq_append_getElem (by rw [List.length_drop]; omega), M.w64_snoc, List.getElem_drop]
            rw [List.getElem?_eq_getElem (by omega)]
            rfl
          case measure => simp [intOf]; omega
        · have hk8 : k = 8 := by omega
          have k1 : ¬ (k : Int) < 8 := by omega
          have hcv := fun w => conv_W64_int (P := Tryz.prog) w 132 3 (M.w64 ((D.drop at').take k)) Tryz.underlying132 Tryz.underlying3
          have HK8 := Lib.hid hk8
          clear hk8 mc
          go_wp2
          go_ret
          have ev : (M.rdNumber s).1 = (M.w64 ((D.drop at').take k)).toInt := by rw [HR.out, HK8.out]; rfl
          have es : (M.rdNumber s).2 = some (D.drop (at' + 8)) := by rw [HR.out]
          refine ⟨by rw [ev]; rfl, ⟨at' + 8, false, ?_⟩, grown_drew (grown_set _) q⟩
          rw [es]
          exact (H.out.move 8 (by omega)).drewN q
end Go.Proofs.YtfpjmeknjhhakaaGreat.K

/- The contracts of the reference's reader: New, Bad, Done, Bytes. -/
namespace Go.Proofs.YtfpjmeknjhhakaaGreat.K
open Go Go.RowKit

theorem RefR.grown {w w' : World} {R : Nat} {s : M.Rdr} {A : Option Addr} {n c at' : Nat} {bad : Bool} {D : List (BitVec 8)} (h : RefR w R s A n c at' bad D) {row : Option Nat} (hg : w.grownBy w' row) (hR : row ≠ some R) (hA : ∀ a, A = some a → row ≠ some a.block) : RefR w' R s A n c at' bad D := by
  obtain ⟨t, hb⟩ := h.blk
  refine ⟨⟨t, (hg.block R (Array.getElem?_eq_some_iff.1 hb).1 (Ne.symm hR)).trans hb⟩, fun k hk => ?_, h.len, h.none, h.at_le, h.is, h.n_le, h.cap, h.ne, h.form⟩
  obtain ⟨b, o, e, hc⟩ := h.rd k hk
  exact ⟨b, o, e, hg.cell hc (Ne.symm (hA ⟨b, o, Option.none⟩ e))⟩
theorem RefR.lt {w : World} {R : Nat} {s : M.Rdr} {A : Option Addr} {n c at' : Nat} {bad : Bool} {D : List (BitVec 8)} (h : RefR w R s A n c at' bad D) : R < w.heap.size := by
  obtain ⟨t, hb⟩ := h.blk
  exact (Array.getElem?_eq_some_iff.1 hb).1
theorem grown_trans {w w1 w2 : World} {row : Option Nat} (h : w.grownBy w1 row) (h' : w1.grownBy w2 row) : w.grownBy w2 row :=
  ⟨h'.os.trans h.os, h'.tape.trans h.tape, h'.output.trans h.output, Nat.le_trans h.size h'.size, fun k hk hne => (h'.block k (Nat.lt_of_lt_of_le hk h.size) hne).trans (h.block k hk hne)⟩
theorem grown_weak {w w1 : World} {row : Option Nat} (h : w.grownBy w1 none) : w.grownBy w1 row := ⟨h.os, h.tape, h.output, h.size, fun k hk _ => h.block k hk (by simp)⟩
theorem grown_of_below {w w1 : World} {row : Option Nat} (h : Below w.heap.size w w1) : w.grownBy w1 row := ⟨h.os, h.tape, h.output, h.size, fun k hk _ => h.block k hk⟩

/-- a new reader -/
def RNew (w : World) (n : Nat) (bs : List (BitVec 8)) (e : Ending) (w' : World) : Prop := ∃ R B c', e = .returned (.pointer (some ⟨R, 0, none⟩)) ∧ w.heap.size ≤ R ∧ RefR w' R (some bs) B n c' 0 false bs ∧ (∀ a, B = some a → w.heap.size ≤ a.block ∧ a.block < w'.heap.size) ∧ Below w.heap.size w w'
set_option maxHeartbeats 1000000 in
set_option maxRecDepth 100000 in
theorem rNew_any (A : Option Addr) (n c : Nat) (bs : List (BitVec 8)) (w : World) (hx : RowRd w ⟨A, n, c⟩ bs) (hn2 : n ≤ 1000000000000) :
    Calls Tryz.prog 38 #[.slice A n c] w (RNew w n bs) := by
  obtain ⟨i0, hi, hz0, hz1, hz2⟩ := info_parts infoByte
  have hlen : bs.length = n := hx.len
  have hl2 : (bv bs).length = n * 1 := by rw [bv_length]; omega
  have hnn : A = none → n = 0 ∧ c = 0 := fun h => ⟨by
    have hrd : Rd w A bs := hx.rd
    rw [h] at hrd
    rw [hrd.empty] at hlen; exact hlen.symm, hx.none h⟩
  have hcs := hx.rd.cells
  have HL2 := Lib.hid hl2; have HNN := Lib.hid hnn; have HCS := Lib.hid hcs; have HLEN := Lib.hid hlen
  clear hx hlen hl2 hnn hcs
  go_enter Tryz.func38, Tryz.ntmps38
  go_wp2_with (at_builtin; refine wpList_append_any _ rfl _ _ 37 rfl w.heap.size 5 i0 (.int .u8 0) 1 1 Tryz.underlying37 hi hz0 hz1 hz2 rfl (by decide) _ 0 (bv []) rfl (own_lit0 (Nat.le_refl _)) A n c (bv bs) rfl HNN.out HL2.out (fun ad had j u hu => cell_old _ (HCS.out ad had j u hu)) (bv_one _) (by unfold maxLen; omega) (by omega) (by simp) ?_; intro v3 w3 hown3 hgrow3; rw [← bv_append, List.nil_append, Nat.zero_add] at hown3; obtain ⟨B3, d3, rfl⟩ := row_slice hown3; have hb3 : Below w.heap.size w w3 := ((Below.refl w.heap.size w).alloc (Nat.le_refl _) _).grown hgrow3 (by simp) (fun k hk => ((own_lit0 (e := 5) (Nat.le_refl w.heap.size)).lt k hk).1); have HB3 := Lib.hid hb3; have HO3 := Lib.hid hown3; clear hb3 hown3 hgrow3)
  go_ret
  have hr := row_room HO3.out
  have hb := HB3.out
  have hsz := hb.size
  refine ⟨w3.heap.size, B3, d3, rfl, hsz, ⟨⟨_, by exact heap_alloc_new w3 (.cells (readL B3 n d3 0 false).toArray 131)⟩, ?_, HLEN.out, fun e => (hr.2.2.1 e).2, Nat.zero_le _, rfl, hn2, ⟨hr.1, hr.2.1⟩, fun a e => ?_, fun a e => (hr.2.2.2 a e).imp fun g hg => hg.1⟩, fun a e => ?_, hb.alloc hsz _⟩
  · exact (Rd.of_own HO3.out).below ((Below.refl _ _).alloc (Nat.le_refl _) _)
  · obtain ⟨g, rfl, _, hg⟩ := hr.2.2.2 a e
    show g ≠ _; omega
  · obtain ⟨g, rfl, hg, hg2⟩ := hr.2.2.2 a e
    exact ⟨hg, by show g < _; simp; omega⟩

set_option maxHeartbeats 1000000 in
theorem rDone_any (R : Nat) (s : M.Rdr) (A : Option Addr) (n c at' : Nat) (bad : Bool) (D : List (BitVec 8)) (w : World) (h : RefR w R s A n c at' bad D) :
    Calls Tryz.prog 40 #[.pointer (some ⟨R, 0, none⟩)] w fun e w' => e = .returned (.bool (decide (s = some []))) ∧ ∃ q, w' = w.drewN q := by
  have c0 : w.cell? ⟨R, 0, none⟩ = some (.slice A n c) := h.cell rfl
  have c1 : w.cell? ⟨R, 1, none⟩ = some (.int .i64 (at' : Int)) := h.cell rfl
  have c2 : w.cell? ⟨R, 2, none⟩ = some (.bool bad) := h.cell rfl
  have hal := h.at_le
  have hnl := h.n_le
  have his := h.is
  have hlen := h.len
  clear h
  cases bad with
  | true =>
    have hs : decide (s = some []) = false := by rw [his]; rfl
    have HS := Lib.hid hs
    clear his hs hlen
    go_enter Tryz.func40, Tryz.ntmps40
    go_wp2
    go_quiet (fail)
    go_wp2
    go_ret
    exact ⟨by rw [HS.out]; rfl, _, rfl⟩
  | false =>
    have hs : decide (s = some []) = ((at' : Int) == (n : Int)) := by
      rw [his, Bool.eq_iff_iff, decide_eq_true_iff, beq_iff_eq]
      constructor
      · intro e
        have e2 : D.drop at' = [] := Option.some.inj e
        have := congrArg List.length e2
        rw [List.length_drop] at this; simp at this; omega
      · intro e
        have : D.drop at' = [] := List.drop_eq_nil_of_le (by omega)
        show some (D.drop at') = some []
        rw [this]
    have HS := Lib.hid hs
    clear his hs hlen
    go_enter Tryz.func40, Tryz.ntmps40
    go_wp2
    go_quiet (fail)
    go_wp2
    go_ret
    exact ⟨by rw [HS.out]; rfl, _, rfl⟩

theorem src_old {W : World} {ad0 : Addr} {news : List Value} (h : ∀ j u, news[j]? = some u → W.cell? (ad0.add j) = some u) (o : Obj) : ∀ ad, some ad0 = some ad → ∀ j u, news[j]? = some u → (W.alloc o).cell? (ad.add j) = some u := by
  intro ad had j u hu
  cases had
  exact cell_old o (h j u hu)
theorem grown_new {W w3 : World} {o : Obj} {row : Option Nat} (hg : ((W.alloc o).drew).grownBy w3 (some W.heap.size)) : W.grownBy w3 row :=
  ⟨hg.os, hg.tape, hg.output, Nat.le_trans (by simp) hg.size, fun k hk _ => (hg.block k (by simp; omega) (by simp; omega)).trans (heap_alloc_old W o hk)⟩
/-- bytes that were read: they lie in memory of their own -/
def RBytes (w : World) (R : Nat) (s : M.Rdr) (A : Option Addr) (n c : Nat) (D : List (BitVec 8)) (e : Ending) (w' : World) : Prop :=
  ∃ B m c', e = .returned (.slice B m c') ∧ w'.ownsRow w.heap.size 5 1 (.slice B m c') m (bv (M.rdBytes s).1) ∧ RefN w' R (M.rdBytes s).2 A n c D ∧ w.grownBy w' (some R)
theorem rdBytes_none {s : M.Rdr} {n : Int} (h : M.rdNumber s = (n, none)) : M.rdBytes s = ([], none) := by simp [M.rdBytes, h]
theorem rdBytes_some {s : M.Rdr} {n : Int} {l : List (BitVec 8)} (h : M.rdNumber s = (n, some l)) : M.rdBytes s = if n < 0 ∨ (l.length : Int) < n then ([], none) else (l.take n.toNat, some (l.drop n.toNat)) := by simp [M.rdBytes, h]

set_option maxHeartbeats 2000000 in
set_option maxRecDepth 100000 in
theorem rBytes_any (R : Nat) (s : M.Rdr) (A : Option Addr) (n c at' : Nat) (bad : Bool) (D : List (BitVec 8)) (w : World) (h : RefR w R s A n c at' bad D) :
    Calls Tryz.prog 76 #[.pointer (some ⟨R, 0, none⟩)] w (RBytes w R s A n c D) := by
  obtain ⟨i0, hi, hz0, hz1, hz2⟩ := info_parts infoByte
  have H0 := Lib.hid h
  clear h
  go_enter Tryz.func76, Tryz.ntmps76
  go_wp2_with fail
  refine (rNumber_any R s A n c at' bad D w H0.out).mono ?_
  rintro e w1 ⟨rfl, ⟨at1, bad1, h1⟩, hg1⟩
  have c0 : w1.cell? ⟨R, 0, none⟩ = some (.slice A n c) := h1.cell rfl
  have c1 : w1.cell? ⟨R, 1, none⟩ = some (.int .i64 (at1 : Int)) := h1.cell rfl
  have c2 : w1.cell? ⟨R, 2, none⟩ = some (.bool bad1) := h1.cell rfl
  have f1 := h1.free 1
  have f2 := h1.free 2
  have hal := h1.at_le
  have hnl := h1.n_le
  have hcap := h1.cap
  have hlen := h1.len
  obtain ⟨⟨z, s1⟩, hzs⟩ : ∃ p : Int × M.Rdr, p = M.rdNumber s := ⟨_, rfl⟩
  rw [← hzs] at h1
  have h1' : RefR w1 R s1 A n c at1 bad1 D := h1
  have HG1 := Lib.hid hg1; have H1 := Lib.hid h1'; have HZ := Lib.hid hzs; have HLEN := Lib.hid hlen
  rw [← hzs]
  have his := h1'.is
  clear h1 h1' hg1 hzs hlen
  cases bad1 with
  | true =>
    have hs1 : s1 = none := his
    have hb : M.rdBytes s = ([], none) := rdBytes_none (n := z) (by rw [← HZ.out, hs1])
    have HB := Lib.hid hb; have HS1 := Lib.hid hs1
    clear his hs1 hb
    go_wp2
    go_quiet (fail)
    go_wp2
    go_ret
    refine ⟨none, 0, 0, rfl, by rw [HB.out]; exact World.ownsRow_nil _ _ _ _, by rw [HB.out]; exact ⟨_, _, (H1.out.bad).drewN _⟩, grown_drew (grown_trans HG1.out (grown_set _)) _⟩
  | false =>
    have hs1 : s1 = some (D.drop at1) := his
    have hdl : (D.drop at1).length = n - at1 := by rw [List.length_drop, HLEN.out]
    have hb : M.rdBytes s = if z < 0 ∨ (((D.drop at1).length : Nat) : Int) < z then ([], none) else ((D.drop at1).take z.toNat, some ((D.drop at1).drop z.toNat)) := rdBytes_some (by rw [← HZ.out, hs1])
    rw [hdl] at hb
    have HB := Lib.hid hb
    clear his hs1 hb hdl
    by_cases hz : z < 0
    · have hb2 : M.rdBytes s = ([], none) := by rw [HB.out, if_pos (.inl hz)]
      have HB2 := Lib.hid hb2
      have d1 : decide (z < 0) = true := by simpa using hz
      clear hb2
      go_wp2
      go_quiet (fail)
      go_wp2
      go_ret
      refine ⟨none, 0, 0, rfl, by rw [HB2.out]; exact World.ownsRow_nil _ _ _ _, by rw [HB2.out]; exact ⟨_, _, (H1.out.bad).drewN _⟩, grown_drew (grown_trans HG1.out (grown_set _)) _⟩
    · have d1 : decide (z < 0) = false := by simpa using hz
      have z0 : 0 ≤ z := by omega
      by_cases hzl : (n : Int) - (at1 : Int) < z
      · have hb2 : M.rdBytes s = ([], none) := by rw [HB.out, if_pos (.inr (by omega))]
        have HB2 := Lib.hid hb2
        have d2 : decide ((n : Int) - (at1 : Int) < z) = true := by simpa using hzl
        clear hb2
        go_wp2
        go_quiet (fail)
        go_wp2
        go_ret
        refine ⟨none, 0, 0, rfl, by rw [HB2.out]; exact World.ownsRow_nil _ _ _ _, by rw [HB2.out]; exact ⟨_, _, (H1.out.bad).drewN _⟩, grown_drew (grown_trans HG1.out (grown_set _)) _⟩
      · obtain ⟨m, rfl⟩ : ∃ m : Nat, z = (m : Int) := ⟨z.toNat, by omega⟩
        have hm : at1 + m ≤ n := by omega
        have hb2 : M.rdBytes s = ((D.drop at1).take m, some (D.drop (at1 + m))) := by
          rw [HB.out, if_neg (by omega), List.drop_drop]; simp
        have HB2 := Lib.hid hb2
        have d2 : decide ((n : Int) - (at1 : Int) < (m : Int)) = false := by simpa using hzl
        clear hb2
        go_wp2
        go_quiet (fail)
        go_wp2_with fail
        obtain ⟨at2, hat2⟩ : ∃ at2, at2 = at1 + m := ⟨_, rfl⟩
        have hmv0 := (H1.out.move m (by omega)).drewN nq
        rw [← hat2] at hmv0
        have hmv : RefR ((w1.drewN nq).setCell ⟨R, 1, none⟩ (.int .i64 (at2 : Int))) R (some (D.drop at2)) A n c at2 false D := hmv0
        clear hmv0
        have ea : ((at1 : Int) + (m : Int)) = (at2 : Int) := by omega
        rw [ea]
        obtain ⟨W, hW⟩ : ∃ W, W = (w1.drewN nq).setCell ⟨R, 1, none⟩ (.int .i64 (at2 : Int)) := ⟨_, rfl⟩
        rw [← hW] at hmv
        rw [← hW]
        have hgW : w.grownBy W (some R) := by rw [hW]; exact grown_trans (grown_drew HG1.out _) (grown_set _)
        have e0 : W.cell? ⟨R, 0, none⟩ = some (.slice A n c) := hmv.cell rfl
        have e1 : W.cell? ⟨R, 1, none⟩ = some (.int .i64 (at2 : Int)) := hmv.cell rfl
        have hRW := hmv.lt
        have hrd := hmv.rd
        have hform := hmv.form
        have hnone := hmv.none
        have HMV := Lib.hid hmv; have HGW := Lib.hid hgW; have HW := Lib.hid hW
        clear hmv hgW hW f1 f2 c0 c1 c2 d1 d2
        have hl2 : (bv ((D.drop at1).take m)).length = m * 1 := by
          have := HLEN.out
          rw [bv_length, List.length_take, List.length_drop]; omega
        have HL2 := Lib.hid hl2
        have s1' : IntKind.i64.wrap ((at2 : Int) - (m : Int)) = (at2 : Int) - (m : Int) := IntWalk.i64_in _ (by omega)
        have s2 : (0 : Int) ≤ (at2 : Int) - (m : Int) := by omega
        have s3 : ((at2 : Int) - (m : Int)).toNat = at1 := by omega
        have s4 : (at2 : Int) - (m : Int) ≤ (at2 : Int) := by omega
        have s5 : (at2 : Int) ≤ (c : Int) := by omega
        have s6 : at2 - at1 = m := by omega
        have s7 : at1 ≤ at2 := by omega
        have s8 : at2 ≤ c := by omega
        have s9 : (m : Int) ≤ (at2 : Int) := by omega
        have HAT2 := Lib.hid hat2
        have HRD := Lib.hid hrd
        clear hl2 hat2 ea hrd
        by_cases hac : c = at1
        · have hm0 : m = 0 := by omega
          have hnil : bv ((D.drop at1).take m) = [] := by rw [hm0]; rfl
          have hcs : ∀ ad, A = some ad → ∀ j u, (bv ((D.drop at1).take m))[j]? = some u → (W.alloc (.cells #[] 5)).cell? (ad.add j) = some u := fun ad _ j u hu => by rw [hnil] at hu; simp at hu
          have hnn : A = none → m = 0 ∧ 0 = 0 := fun _ => ⟨hm0, rfl⟩
          have HCS := Lib.hid hcs; have HNN := Lib.hid hnn
          clear hm0 hnil hcs hnn hform hnone
          subst hac
          go_region_held3 (fun w' => w'.cell? ⟨R, 0, none⟩ = some (.slice A n c) ∧ w'.cell? ⟨R, 1, none⟩ = some (.int .i64 (at2 : Int)))
            (first
              | (go_split_ands; refine ⟨?_, ?_⟩ <;> assumption)
              | (go_split_ands; refine ⟨?_, ?_⟩ <;> (refine (hgrow3.cell_far _ (by simp; omega) (by simp [Value.ownBlock]; omega)).trans ?_; assumption))
              | go_keep)
            ((refine step_append_any _ (by rfl) _ _ _ (by rfl) W.heap.size 5 i0 _ 1 1 Tryz.underlying37 hi hz0 hz1 hz2 rfl (by omega) _ 0 (bv []) (by rfl) ((own_lit0 (w := W) (Nat.le_refl _)).drew)
                A m 0 (bv ((D.drop c).take m)) (by rfl) HNN.out HL2.out HCS.out (bv_one _) (by unfold maxLen; omega) (by omega) (by simp) ?_; intro v3 w3 hown3 hgrow3))
          rw [← bv_append, List.nil_append, Nat.zero_add] at hown3
          obtain ⟨B, c', rfl⟩ := row_slice hown3
          have hg3 : W.grownBy w3 (some R) := grown_new hgrow3
          have hg3' : W.grownBy w3 none := grown_new hgrow3
          have hfin : RBytes w R s A n c D (.returned (.slice B m c')) w3 := by
            refine ⟨B, m, c', rfl, ?_, ?_, grown_trans HGW.out hg3⟩
            · rw [HB2.out]; exact row_weaken hown3 HGW.out.size
            · rw [HB2.out]
              have h2 := HMV.out.grown hg3' (by simp) (fun _ _ => by simp)
              rw [HAT2.out] at h2
              exact ⟨_, _, h2⟩
          have HFIN := Lib.hid hfin
          clear hown3 hgrow3 hg3 hg3' hfin
          go_wp2
          go_ret
          exact HFIN.out
        · obtain ⟨ad, rfl⟩ : ∃ ad, A = some ad := by
            cases A with
            | some ad => exact ⟨ad, rfl⟩
            | none =>
              have h1 := hnone rfl
              omega
          obtain ⟨b, rfl⟩ := hform ad rfl
          have hcs : ∀ j u, (bv ((D.drop at1).take m))[j]? = some u → W.cell? ((⟨b, at1, none⟩ : Addr).add j) = some u := by
            intro j u hu
            have hj : j < m := by
              have := (List.getElem?_eq_some_iff.1 hu).1
              simp [bv] at this; omega
            have hl := HLEN.out
            obtain ⟨b', o', e', hc'⟩ := HRD.out (at1 + j) (by omega)
            obtain ⟨rfl, rfl⟩ : b = b' ∧ 0 = o' := by simpa using e'
            rw [Addr.add_lit, ← hu, ← Nat.zero_add (at1 + j), hc']
            simp [bv, hj, show at1 + j < D.length by omega]
          have HCS := Lib.hid hcs
          clear hform hnone hcs
          go_region_held3 (fun w' => w'.cell? ⟨R, 0, none⟩ = some (.slice (some ⟨b, 0, none⟩) n c) ∧ w'.cell? ⟨R, 1, none⟩ = some (.int .i64 (at2 : Int)))
            (first
              | (go_split_ands; refine ⟨?_, ?_⟩ <;> assumption)
              | (go_split_ands; refine ⟨?_, ?_⟩ <;> (refine (hgrow3.cell_far _ (by simp; omega) (by simp [Value.ownBlock]; omega)).trans ?_; assumption))
              | go_keep)
            ((refine step_append_any _ (by rfl) _ _ _ (by rfl) W.heap.size 5 i0 _ 1 1 Tryz.underlying37 hi hz0 hz1 hz2 rfl (by omega) _ 0 (bv []) (by rfl) ((own_lit0 (w := W) (Nat.le_refl _)).drew)
                (some ⟨b, at1, none⟩) m (c - at1) (bv ((D.drop at1).take m)) (by rfl) (fun h => by cases h) HL2.out (src_old HCS.out _) (bv_one _) (by unfold maxLen; omega) (by omega) (by simp) ?_; intro v3 w3 hown3 hgrow3))
          rw [← bv_append, List.nil_append, Nat.zero_add] at hown3
          obtain ⟨B, c', rfl⟩ := row_slice hown3
          have hg3 : W.grownBy w3 (some R) := grown_new hgrow3
          have hg3' : W.grownBy w3 none := grown_new hgrow3
          have hfin : RBytes w R s (some ⟨b, 0, none⟩) n c D (.returned (.slice B m c')) w3 := by
            refine ⟨B, m, c', rfl, ?_, ?_, grown_trans HGW.out hg3⟩
            · rw [HB2.out]; exact row_weaken hown3 HGW.out.size
            · rw [HB2.out]
              have h2 := HMV.out.grown hg3' (by simp) (fun _ _ => by simp)
              rw [HAT2.out] at h2
              exact ⟨_, _, h2⟩
          have HFIN := Lib.hid hfin
          clear hown3 hgrow3 hg3 hg3' hfin
          go_wp2
          go_ret
          exact HFIN.out
end Go.Proofs.YtfpjmeknjhhakaaGreat.K

/- The contract of the reference's reader: Entry. -/
namespace Go.Proofs.YtfpjmeknjhhakaaGreat.K
open Go Go.RowKit

/-- an entry that was read -/
def REntry (w : World) (R : Nat) (s : M.Rdr) (A : Option Addr) (n c : Nat) (D : List (BitVec 8)) (e : Ending) (w' : World) : Prop :=
  ∃ B m c', e = .returned (.agg (entL (M.rdEntry s).1.term (M.rdEntry s).1.version (M.rdEntry s).1.server (M.rdEntry s).1.kind (M.rdEntry s).1.good B m c').toArray) ∧
    w'.ownsRow w.heap.size 5 1 (.slice B m c') m (bv (M.rdEntry s).1.data) ∧ RefN w' R (M.rdEntry s).2 A n c D ∧ w.grownBy w' (some R)
theorem grown_setRow {w W : World} {R g : Nat} (h : w.grownBy W (some R)) (hg : w.heap.size ≤ g) (cs : Array Value) : w.grownBy (W.setRow g cs) (some R) :=
  ⟨h.os, h.tape, h.output, by have := h.size; simp [World.setRow]; exact this, fun k hk hne => (setRow_other W g k cs (by omega)).trans (h.block k hk hne)⟩
theorem RefR.setRow {w : World} {R : Nat} {s : M.Rdr} {A : Option Addr} {n c at' : Nat} {bad : Bool} {D : List (BitVec 8)} (h : RefR w R s A n c at' bad D) (g : Nat) (hR : R ≠ g) (hA : ∀ a, A = some a → a.block ≠ g) (cs : Array Value) : RefR (w.setRow g cs) R s A n c at' bad D :=
  h.grown (row := some g) ⟨rfl, rfl, rfl, by simp [World.setRow], fun k _ hk => setRow_other w g k cs (fun e => hk (by rw [e]))⟩ (fun e => hR (by cases e; rfl)) (fun a e e' => hA a e (by cases e'; rfl))
theorem RefR.lt_row {w : World} {R : Nat} {s : M.Rdr} {A : Option Addr} {n c at' : Nat} {bad : Bool} {D : List (BitVec 8)} (h : RefR w R s A n c at' bad D) (hD : 0 < D.length) : ∀ a, A = some a → a.block < w.heap.size := by
  intro a e
  obtain ⟨b, o, e', hlt, _⟩ := h.rd.lay hD
  rw [e] at e'; cases e'; exact hlt
theorem row_setRow {w : World} {base : Nat} {e : TypeId} {B : Option Addr} {m c : Nat} {xs : List Value} (h : w.ownsRow base e 1 (.slice B m c) m xs) (g : Nat) (hg : (Value.slice B m c).ownBlock ≠ some g) (cs : Array Value) : (w.setRow g cs).ownsRow base e 1 (.slice B m c) m xs :=
  h.kept (row := some g) ⟨rfl, rfl, rfl, by simp [World.setRow], fun k _ hk => setRow_other w g k cs (fun e => hk (by rw [e]))⟩ (.inr hg)

set_option maxHeartbeats 4000000 in
set_option maxRecDepth 100000 in
theorem rEntry_any (R : Nat) (s : M.Rdr) (A : Option Addr) (n c at' : Nat) (bad : Bool) (D : List (BitVec 8)) (w : World) (h : RefR w R s A n c at' bad D) (hA : ∀ a, A = some a → a.block < w.heap.size) :
    Calls Tryz.prog 41 #[.pointer (some ⟨R, 0, none⟩)] w (REntry w R s A n c D) := by
  have hRl := h.lt
  have hga : w.grownBy (w.alloc (.cells (entL 0 0 0 0#8 false none 0 0).toArray 62)) (some R) := World.grownBy_alloc w _ _
  have h0 := h.grown (World.grownBy_alloc w (.cells (entL 0 0 0 0#8 false none 0 0).toArray 62) none) (by simp) (fun _ _ => by simp)
  have hblk := heap_alloc_new w (.cells (entL 0 0 0 0#8 false none 0 0).toArray 62)
  have H0 := Lib.hid h0; have HGA := Lib.hid hga; have HBLK := Lib.hid hblk; have HAB := Lib.hid hA
  clear h h0 hga hblk hA
  go_enter Tryz.func41, Tryz.ntmps41
  go_wp2_with fail
  refine (rNumber_any R s A n c at' bad D _ H0.out).mono ?_
  rintro e w1 ⟨rfl, ⟨at1, bad1, h1⟩, hg1⟩
  obtain ⟨⟨x1, s1⟩, hp1⟩ : ∃ p : Int × M.Rdr, p = M.rdNumber s := ⟨_, rfl⟩
  rw [← hp1] at h1 ⊢
  have H1 := Lib.hid (show RefR w1 R s1 A n c at1 bad1 D from h1); have HG1 := Lib.hid (grown_trans HGA.out hg1); have HP1 := Lib.hid hp1
  have HK1 := Lib.hid ((hg1.block w.heap.size (by simp) (by simp; omega)).trans HBLK.out)
  clear h1 hg1 hp1
  go_wp2_with fail
  refine (rNumber_any R s1 A n c at1 bad1 D _ H1.out).mono ?_
  rintro e w2 ⟨rfl, ⟨at2, bad2, h2⟩, hg2⟩
  obtain ⟨⟨x2, s2⟩, hp2⟩ : ∃ p : Int × M.Rdr, p = M.rdNumber s1 := ⟨_, rfl⟩
  rw [← hp2] at h2 ⊢
  have H2 := Lib.hid (show RefR w2 R s2 A n c at2 bad2 D from h2); have HG2 := Lib.hid (grown_trans HG1.out hg2); have HP2 := Lib.hid hp2
  have HK2 := Lib.hid ((hg2.block w.heap.size ((Array.getElem?_eq_some_iff.1 HK1.out).1) (by simp; omega)).trans HK1.out)
  clear h2 hg2 hp2 H1 HG1 HK1
  go_wp2_with fail
  refine (rNumber_any R s2 A n c at2 bad2 D _ H2.out).mono ?_
  rintro e w3 ⟨rfl, ⟨at3, bad3, h3⟩, hg3⟩
  obtain ⟨⟨x3, s3⟩, hp3⟩ : ∃ p : Int × M.Rdr, p = M.rdNumber s2 := ⟨_, rfl⟩
  rw [← hp3] at h3 ⊢
  have H3 := Lib.hid (show RefR w3 R s3 A n c at3 bad3 D from h3); have HG3 := Lib.hid (grown_trans HG2.out hg3); have HP3 := Lib.hid hp3
  have HK3 := Lib.hid ((hg3.block w.heap.size ((Array.getElem?_eq_some_iff.1 HK2.out).1) (by simp; omega)).trans HK2.out)
  clear h3 hg3 hp3 H2 HG2 HK2
  go_wp2_with fail
  refine (rNumber_any R s3 A n c at3 bad3 D _ H3.out).mono ?_
  rintro e w4 ⟨rfl, ⟨at4, bad4, h4⟩, hg4⟩
  obtain ⟨⟨x4, s4⟩, hp4⟩ : ∃ p : Int × M.Rdr, p = M.rdNumber s3 := ⟨_, rfl⟩
  rw [← hp4] at h4 ⊢
  have H4 := Lib.hid (show RefR w4 R s4 A n c at4 bad4 D from h4); have HG4 := Lib.hid (grown_trans HG3.out hg4); have HP4 := Lib.hid hp4
  have HK4 := Lib.hid ((hg4.block w.heap.size ((Array.getElem?_eq_some_iff.1 HK3.out).1) (by simp; omega)).trans HK3.out)
  clear h4 hg4 hp4 H3 HG3 HK3
  go_wp2_with fail
  refine (rNumber_any R s4 A n c at4 bad4 D _ H4.out).mono ?_
  rintro e w5 ⟨rfl, ⟨at5, bad5, h5⟩, hg5⟩
  obtain ⟨⟨x5, s5⟩, hp5⟩ : ∃ p : Int × M.Rdr, p = M.rdNumber s4 := ⟨_, rfl⟩
  rw [← hp5] at h5 ⊢
  have H5 := Lib.hid (show RefR w5 R s5 A n c at5 bad5 D from h5); have HG5 := Lib.hid (grown_trans HG4.out hg5); have HP5 := Lib.hid hp5
  have HK5 := Lib.hid ((hg5.block w.heap.size ((Array.getElem?_eq_some_iff.1 HK4.out).1) (by simp; omega)).trans HK4.out)
  clear h5 hg5 hp5 H4 HG4 HK4
  go_wp2_with fail
  refine (rBytes_any R s5 A n c at5 bad5 D _ H5.out).mono ?_
  rintro e w6 ⟨B, m, c', rfl, ho6, ⟨at6, bad6, h6⟩, hg6⟩
  obtain ⟨⟨x6, s6⟩, hp6⟩ : ∃ p : List (BitVec 8) × M.Rdr, p = M.rdBytes s5 := ⟨_, rfl⟩
  rw [← hp6] at h6 ho6
  have hk6 := (hg6.block w.heap.size ((Array.getElem?_eq_some_iff.1 HK5.out).1) (by simp; omega)).trans HK5.out
  have hsz5 : w.heap.size < w5.heap.size := (Array.getElem?_eq_some_iff.1 HK5.out).1
  have hg06 := grown_trans HG5.out hg6
  have hne6 : (Value.slice B m c').ownBlock ≠ some w.heap.size := fun e => by
    have := (ho6.lt _ e).1; omega
  have ho6' : w6.ownsRow w.heap.size 5 1 (.slice B m c') m (bv x6) := row_weaken ho6 (by omega)
  have h6' : RefR w6 R s6 A n c at6 bad6 D := h6
  have his := h6'.is
  have d2 : w6.cell? ⟨R, 2, none⟩ = some (.bool bad6) := h6'.cell rfl
  have f2 := h6'.free 2
  have hent : M.rdEntry s = if s6 = none ∨ x2 < 0 ∨ 255 < x2 ∨ x5 < 0 ∨ 1 < x5 then (M.zeroEnt, none) else (⟨x1, BitVec.ofInt 8 x2, x3, x4, x5 == 1, x6⟩, s6) := by
    simp only [M.rdEntry, ← HP1.out, ← HP2.out, ← HP3.out, ← HP4.out, ← HP5.out, ← hp6]
  have H6 := Lib.hid h6'; have HG6 := Lib.hid hg06; have HK6 := Lib.hid hk6; have HO6 := Lib.hid ho6'; have HNE6 := Lib.hid hne6; have HENT := Lib.hid hent; have HIS := Lib.hid his
  clear h6 h6' hg6 hg06 hk6 ho6 ho6' hne6 hent hp6 his H5 HG5 HK5
  have hcases : (bad6 = true ∨ (bad6 = false ∧ x2 < 0) ∨ (bad6 = false ∧ 0 ≤ x2 ∧ 255 < x2) ∨ (bad6 = false ∧ 0 ≤ x2 ∧ x2 ≤ 255 ∧ x5 < 0) ∨ (bad6 = false ∧ 0 ≤ x2 ∧ x2 ≤ 255 ∧ 0 ≤ x5 ∧ 1 < x5)) ∨ (bad6 = false ∧ 0 ≤ x2 ∧ x2 ≤ 255 ∧ 0 ≤ x5 ∧ x5 ≤ 1) := by
    cases bad6
    · simp; omega
    · simp
  rcases hcases with hc | hc
  · have hf : M.rdEntry s = (M.zeroEnt, none) := by
      rw [HENT.out, if_pos]
      rcases hc with h | h | h | h | h
      · left; rw [HIS.out, h]; rfl
      · right; left; exact h.2
      · right; right; left; exact h.2.2
      · right; right; right; left; exact h.2.2.2
      · right; right; right; right; exact h.2.2.2.2
    have hk7 := (heap_setCell_other w6 ⟨R, 2, none⟩ w.heap.size (.bool true) (by simp; omega)).trans HK6.out
    have HF := Lib.hid hf; have HK7 := Lib.hid hk7
    clear hf hk7
    rcases hc with h | h | h | h | h
    · subst h
      go_wp2_with (refine wpList_store_row rfl 62 (.tmp 2) (.tmp 44) rfl w.heap.size (entL 0 0 0 0#8 false none 0 0).toArray rfl rfl 62 _ HK7.out (infoEntL 0 0 0 0#8 false none 0 0) (entL_size _ _ _ _ _ _ _ _ _ _ _ _ _ _ _ _) (entL_one _ _ _ _ _ _ _ _) ?_)
      refine bodyPost_ret (v := .agg (entL 0 0 0 0#8 false none 0 0).toArray) ?_ ?_ ?_
      · exact results_cell_row rfl _ _ w.heap.size 62 _ (0, 0) _ rfl (setRow_heap _ _ _ _ _ _ HK7.out) Tryz.underlying62 rfl (infoEntL 0 0 0 0#8 false none 0 0)
      · rfl
      · refine ⟨none, 0, 0, by rw [HF.out]; rfl, by rw [HF.out]; exact World.ownsRow_nil _ _ _ _, ?_, grown_setRow (grown_trans HG6.out (grown_set _)) (Nat.le_refl _) _⟩
        rw [HF.out]
        exact ⟨_, _, (H6.out.bad).setRow w.heap.size (by omega) (fun a e => Nat.ne_of_lt (HAB.out a e)) _⟩
    · obtain ⟨rfl, hx⟩ := h
      go_wp2_with (refine wpList_store_row rfl 62 (.tmp 2) (.tmp 44) rfl w.heap.size (entL 0 0 0 0#8 false none 0 0).toArray rfl rfl 62 _ HK7.out (infoEntL 0 0 0 0#8 false none 0 0) (entL_size _ _ _ _ _ _ _ _ _ _ _ _ _ _ _ _) (entL_one _ _ _ _ _ _ _ _) ?_)
      refine bodyPost_ret (v := .agg (entL 0 0 0 0#8 false none 0 0).toArray) ?_ ?_ ?_
      · exact results_cell_row rfl _ _ w.heap.size 62 _ (0, 0) _ rfl (setRow_heap _ _ _ _ _ _ HK7.out) Tryz.underlying62 rfl (infoEntL 0 0 0 0#8 false none 0 0)
      · rfl
      · refine ⟨none, 0, 0, by rw [HF.out]; rfl, by rw [HF.out]; exact World.ownsRow_nil _ _ _ _, ?_, grown_setRow (grown_trans HG6.out (grown_set _)) (Nat.le_refl _) _⟩
        rw [HF.out]
        exact ⟨_, _, (H6.out.bad).setRow w.heap.size (by omega) (fun a e => Nat.ne_of_lt (HAB.out a e)) _⟩
    · obtain ⟨rfl, hx0, hx⟩ := h
      have g0 : ¬ x2 < 0 := by omega
      go_wp2_with (refine wpList_store_row rfl 62 (.tmp 2) (.tmp 44) rfl w.heap.size (entL 0 0 0 0#8 false none 0 0).toArray rfl rfl 62 _ HK7.out (infoEntL 0 0 0 0#8 false none 0 0) (entL_size _ _ _ _ _ _ _ _ _ _ _ _ _ _ _ _) (entL_one _ _ _ _ _ _ _ _) ?_)
      refine bodyPost_ret (v := .agg (entL 0 0 0 0#8 false none 0 0).toArray) ?_ ?_ ?_
      · exact results_cell_row rfl _ _ w.heap.size 62 _ (0, 0) _ rfl (setRow_heap _ _ _ _ _ _ HK7.out) Tryz.underlying62 rfl (infoEntL 0 0 0 0#8 false none 0 0)
      · rfl
      · refine ⟨none, 0, 0, by rw [HF.out]; rfl, by rw [HF.out]; exact World.ownsRow_nil _ _ _ _, ?_, grown_setRow (grown_trans HG6.out (grown_set _)) (Nat.le_refl _) _⟩
        rw [HF.out]
        exact ⟨_, _, (H6.out.bad).setRow w.heap.size (by omega) (fun a e => Nat.ne_of_lt (HAB.out a e)) _⟩
    · obtain ⟨rfl, hx0, hx1, hx⟩ := h
      have g0 : ¬ x2 < 0 := by omega
      have g1 : ¬ 255 < x2 := by omega
      go_wp2_with (refine wpList_store_row rfl 62 (.tmp 2) (.tmp 44) rfl w.heap.size (entL 0 0 0 0#8 false none 0 0).toArray rfl rfl 62 _ HK7.out (infoEntL 0 0 0 0#8 false none 0 0) (entL_size _ _ _ _ _ _ _ _ _ _ _ _ _ _ _ _) (entL_one _ _ _ _ _ _ _ _) ?_)
      refine bodyPost_ret (v := .agg (entL 0 0 0 0#8 false none 0 0).toArray) ?_ ?_ ?_
      · exact results_cell_row rfl _ _ w.heap.size 62 _ (0, 0) _ rfl (setRow_heap _ _ _ _ _ _ HK7.out) Tryz.underlying62 rfl (infoEntL 0 0 0 0#8 false none 0 0)
      · rfl
      · refine ⟨none, 0, 0, by rw [HF.out]; rfl, by rw [HF.out]; exact World.ownsRow_nil _ _ _ _, ?_, grown_setRow (grown_trans HG6.out (grown_set _)) (Nat.le_refl _) _⟩
        rw [HF.out]
        exact ⟨_, _, (H6.out.bad).setRow w.heap.size (by omega) (fun a e => Nat.ne_of_lt (HAB.out a e)) _⟩
    · obtain ⟨rfl, hx0, hx1, hx2, hx⟩ := h
      have g0 : ¬ x2 < 0 := by omega
      have g1 : ¬ 255 < x2 := by omega
      have g2 : ¬ x5 < 0 := by omega
      go_wp2_with (refine wpList_store_row rfl 62 (.tmp 2) (.tmp 44) rfl w.heap.size (entL 0 0 0 0#8 false none 0 0).toArray rfl rfl 62 _ HK7.out (infoEntL 0 0 0 0#8 false none 0 0) (entL_size _ _ _ _ _ _ _ _ _ _ _ _ _ _ _ _) (entL_one _ _ _ _ _ _ _ _) ?_)
      refine bodyPost_ret (v := .agg (entL 0 0 0 0#8 false none 0 0).toArray) ?_ ?_ ?_
      · exact results_cell_row rfl _ _ w.heap.size 62 _ (0, 0) _ rfl (setRow_heap _ _ _ _ _ _ HK7.out) Tryz.underlying62 rfl (infoEntL 0 0 0 0#8 false none 0 0)
      · rfl
      · refine ⟨none, 0, 0, by rw [HF.out]; rfl, by rw [HF.out]; exact World.ownsRow_nil _ _ _ _, ?_, grown_setRow (grown_trans HG6.out (grown_set _)) (Nat.le_refl _) _⟩
        rw [HF.out]
        exact ⟨_, _, (H6.out.bad).setRow w.heap.size (by omega) (fun a e => Nat.ne_of_lt (HAB.out a e)) _⟩
  · obtain ⟨rfl, hx0, hx1, hx2, hx3⟩ := hc
    have g0 : ¬ x2 < 0 := by omega
    have g1 : ¬ 255 < x2 := by omega
    have g2 : ¬ x5 < 0 := by omega
    have g3 : ¬ 1 < x5 := by omega
    obtain ⟨K, rfl⟩ : ∃ K : BitVec 8, x2 = (K.toNat : Int) := ⟨BitVec.ofInt 8 x2, by rw [BitVec.toNat_ofInt]; omega⟩
    have hf : M.rdEntry s = (⟨x1, K, x3, x4, x5 == 1, x6⟩, s6) := by
      rw [HENT.out, if_neg, ofInt_B8]
      rintro (h | h | h | h | h)
      · rw [HIS.out] at h; cases h
      · exact g0 h
      · exact g1 h
      · exact g2 h
      · exact g3 h
    have HF := Lib.hid hf
    clear hf
    go_wp2_with (refine wpList_store_row rfl 62 (.tmp 2) (.tmp 53) rfl w.heap.size (entL x1 x3 x4 K (x5 == 1) B m c').toArray rfl rfl 62 _ HK6.out (infoEntL x1 x3 x4 K (x5 == 1) B m c') (entL_size _ _ _ _ _ _ _ _ _ _ _ _ _ _ _ _) (entL_one _ _ _ _ _ _ _ _) ?_)
    refine bodyPost_ret (v := .agg (entL x1 x3 x4 K (x5 == 1) B m c').toArray) ?_ ?_ ?_
    · exact results_cell_row rfl _ _ w.heap.size 62 _ (0, 0) _ rfl (setRow_heap _ _ _ _ _ _ HK6.out) Tryz.underlying62 rfl (infoEntL x1 x3 x4 K (x5 == 1) B m c')
    · rfl
    · refine ⟨B, m, c', by rw [HF.out], by rw [HF.out]; exact row_setRow HO6.out _ HNE6.out _, ?_, grown_setRow HG6.out (Nat.le_refl _) _⟩
      rw [HF.out]
      exact ⟨_, _, H6.out.setRow w.heap.size (by omega) (fun a e => Nat.ne_of_lt (HAB.out a e)) _⟩
end Go.Proofs.YtfpjmeknjhhakaaGreat.K

/- The contract of the program's rest.entry: an entry is read, or it panics. -/
namespace Go.Proofs.YtfpjmeknjhhakaaGreat.K
open Go Go.RowKit

/-- the one's block is the other's -/
def SameBlk (A A' : Option Addr) : Prop := ∀ a', A' = some a' → ∃ a, A = some a ∧ a'.block = a.block
theorem SameBlk.trans {A B C : Option Addr} (h : SameBlk A B) (h' : SameBlk B C) : SameBlk A C := fun a e => by
  obtain ⟨b, e1, h1⟩ := h' a e
  obtain ⟨c, e2, h2⟩ := h b e1
  exact ⟨c, e2, h1.trans h2⟩
theorem SameBlk.lt {A B : Option Addr} {n : Nat} (h : SameBlk A B) (hA : ∀ a, A = some a → a.block < n) : ∀ a, B = some a → a.block < n := fun a e => by
  obtain ⟨b, e1, h1⟩ := h a e
  rw [h1]; exact hA b e1

def PNumU (w : World) (P : Nat) (l : List (BitVec 8)) (A : Option Addr) (made bad : Bool) (e : Ending) (w' : World) : Prop :=
  (PBad w P made bad e w' ∧ M.rdNumber (some l) = (0, none)) ∨
    (∃ x l' A' n' c', e = .returned (.int .i64 x) ∧ M.rdNumber (some l) = (x, some l') ∧ PrgR w' P l' A' n' c' made bad ∧ SameBlk A A' ∧ w.grownBy w' (some P))
def PSmallU (w : World) (P : Nat) (l : List (BitVec 8)) (A : Option Addr) (made bad : Bool) (most : Int) (e : Ending) (w' : World) : Prop :=
  (PBad w P made bad e w' ∧ (M.rdNumber (some l) = (0, none) ∨ ∃ x l', M.rdNumber (some l) = (x, some l') ∧ (x < 0 ∨ most < x))) ∨
    (∃ x l' A' n' c', e = .returned (.int .i64 x) ∧ M.rdNumber (some l) = (x, some l') ∧ 0 ≤ x ∧ x ≤ most ∧ PrgR w' P l' A' n' c' made bad ∧ SameBlk A A' ∧ w.grownBy w' (some P))
def PBytU (w : World) (P : Nat) (l : List (BitVec 8)) (A : Option Addr) (made bad : Bool) (e : Ending) (w' : World) : Prop :=
  (PBad w P made bad e w' ∧ M.rdBytes (some l) = ([], none)) ∨
    (∃ B m c' d l' A' n' c2, e = .returned (.slice B m c') ∧ M.rdBytes (some l) = (d, some l') ∧ w'.ownsRow w.heap.size 5 1 (.slice B m c') m (bv d) ∧ PrgR w' P l' A' n' c2 made bad ∧ SameBlk A A' ∧ w.grownBy w' (some P))
theorem prdNumber_lt {l : List (BitVec 8)} (h : l.length < 8) : M.rdNumber (some l) = (0, none) := by simp only [M.rdNumber]; rw [if_pos h]
theorem prdNumber_ge {l : List (BitVec 8)} (h : ¬ l.length < 8) : M.rdNumber (some l) = (M.val (l.take 8), some (l.drop 8)) := by simp only [M.rdNumber]; rw [if_neg h]
theorem pnum_u (P : Nat) (l : List (BitVec 8)) (A : Option Addr) (n c : Nat) (made bad : Bool) (w : World) (h : PrgR w P l A n c made bad) :
    Calls Tryz.prog 102 #[.pointer (some ⟨P, 0, none⟩)] w (PNumU w P l A made bad) := by
  have hl := h.len
  rcases Nat.lt_or_ge n 8 with h8 | h8
  · exact (pnum_bad' P l A n c made bad w h h8).mono fun e w' hb => .inl ⟨hb, prdNumber_lt (by omega)⟩
  · exact (pnum_ok P l A n c made bad w h h8).mono fun e w' ⟨he, ⟨A', hp, hA⟩, hg⟩ => .inr ⟨_, _, A', _, _, he, prdNumber_ge (by omega), hp, hA, hg⟩
theorem small_u (P : Nat) (l : List (BitVec 8)) (A : Option Addr) (n c : Nat) (made bad : Bool) (most : Int) (w : World) (h : PrgR w P l A n c made bad) :
    Calls Tryz.prog 103 #[.pointer (some ⟨P, 0, none⟩), .int .i64 most] w (PSmallU w P l A made bad most) := by
  have hl := h.len
  rcases Nat.lt_or_ge n 8 with h8 | h8
  · exact (small_bad P l A n c made bad most w h (.inl h8)).mono fun e w' hb => .inl ⟨hb, .inl (prdNumber_lt (by omega))⟩
  · by_cases hx : M.val (l.take 8) < 0 ∨ most < M.val (l.take 8)
    · exact (small_bad P l A n c made bad most w h (.inr ⟨h8, hx⟩)).mono fun e w' hb => .inl ⟨hb, .inr ⟨_, _, prdNumber_ge (by omega), hx⟩⟩
    · exact (small_ok P l A n c made bad most w h h8 (by omega) (by omega)).mono fun e w' ⟨he, ⟨A', hp, hA⟩, hg⟩ => .inr ⟨_, _, A', _, _, he, prdNumber_ge (by omega), by omega, by omega, hp, hA, hg⟩
theorem bytes_u (P : Nat) (l : List (BitVec 8)) (A : Option Addr) (n c : Nat) (made bad : Bool) (w : World) (h : PrgR w P l A n c made bad) (hAB : ∀ a, A = some a → a.block < w.heap.size) :
    Calls Tryz.prog 104 #[.pointer (some ⟨P, 0, none⟩)] w (PBytU w P l A made bad) := by
  cases hb : (M.rdBytes (some l)).2 with
  | none => exact (bytes_bad P l A n c made bad w h hb).mono fun e w' hp => .inl ⟨hp, prdBytes_none hb⟩
  | some l' => exact (bytes_ok P l A n c made bad w l' h hAB hb).mono fun e w' ⟨B, m, c', A', n2, c2, l2, he, ho, hl2, hp, hA, hg⟩ => .inr ⟨B, m, c', _, l2, A', n2, c2, he, by rw [← hl2], ho, hp, hA, hg⟩

/-- an entry was read, or it panicked -/
def PEnt (w : World) (P : Nat) (l : List (BitVec 8)) (A : Option Addr) (made bad : Bool) (e : Ending) (w' : World) : Prop :=
  (PBad w P made bad e w' ∧ M.rdEntry (some l) = (M.zeroEnt, none)) ∨
    (∃ x B m c' l' A' n' c2, e = .returned (.agg (entL x.term x.version x.server x.kind x.good B m c').toArray) ∧ M.rdEntry (some l) = (x, some l') ∧ w'.ownsRow w.heap.size 5 1 (.slice B m c') m (bv x.data) ∧ PrgR w' P l' A' n' c2 made bad ∧ SameBlk A A' ∧ w.grownBy w' (some P))
theorem prdNumber_none : M.rdNumber none = (0, none) := rfl
theorem prdBytes_none' : M.rdBytes none = ([], none) := rfl
theorem PBad.from {w w1 w' : World} {P : Nat} {made bad : Bool} {e : Ending} (hg : w.grownBy w1 (some P)) (h : PBad w1 P made bad e w') : PBad w P made bad e w' := ⟨h.1, h.2.1, grown_trans' hg h.2.2⟩
theorem grown_alloc {w w1 : World} {P : Nat} (h : w.grownBy w1 (some P)) (o : Obj) : w.grownBy (w1.alloc o) (some P) := grown_trans' h (World.grownBy_alloc w1 _ _)
end Go.Proofs.YtfpjmeknjhhakaaGreat.K

/- The walk of the program's rest.entry. -/
namespace Go.Proofs.YtfpjmeknjhhakaaGreat.K
open Go Go.RowKit

theorem PrgR.set {w : World} {P : Nat} {l : List (BitVec 8)} {A : Option Addr} {n c : Nat} {made bad : Bool} (h : PrgR w P l A n c made bad) (g i : Nat) (v : Value) (hR : P ≠ g) (hA : ∀ a, A = some a → a.block ≠ g) : PrgR (w.setCell ⟨g, i, Option.none⟩ v) P l A n c made bad :=
  h.grown (grownBy_setCell w g i v) (fun e => hR (by cases e; rfl)) (fun a e e' => hA a e (by cases e'; rfl))
theorem PrgR.setRow {w : World} {P : Nat} {l : List (BitVec 8)} {A : Option Addr} {n c : Nat} {made bad : Bool} (h : PrgR w P l A n c made bad) (g : Nat) (hR : P ≠ g) (hA : ∀ a, A = some a → a.block ≠ g) (cs : Array Value) : PrgR (w.setRow g cs) P l A n c made bad :=
  h.grown (row := some g) ⟨rfl, rfl, rfl, by simp [World.setRow], fun k _ hk => setRow_other w g k cs (fun e => hk (by rw [e]))⟩ (fun e => hR (by cases e; rfl)) (fun a e e' => hA a e (by cases e'; rfl))
theorem lt_of_row {w : World} {g : Nat} {o : Obj} (h : w.heap[g]? = some o) : g < w.heap.size := (Array.getElem?_eq_some_iff.1 h).1

set_option maxHeartbeats 4000000 in
set_option maxRecDepth 100000 in
theorem pentry_u (P : Nat) (l : List (BitVec 8)) (A : Option Addr) (n c : Nat) (made bad : Bool) (w : World) (h : PrgR w P l A n c made bad) (hAB : ∀ a, A = some a → a.block < w.heap.size) :
    Calls Tryz.prog 83 #[.pointer (some ⟨P, 0, none⟩)] w (PEnt w P l A made bad) := by
  have hPl := h.lt
  have hga : w.grownBy (w.alloc (.cells (entL 0 0 0 0#8 false none 0 0).toArray 62)) (some P) := World.grownBy_alloc w _ _
  have h0 := h.grown (World.grownBy_alloc w (.cells (entL 0 0 0 0#8 false none 0 0).toArray 62) none) (by simp) (fun _ _ => by simp)
  have hblk := heap_alloc_new w (.cells (entL 0 0 0 0#8 false none 0 0).toArray 62)
  have H0 := Lib.hid h0; have HGA := Lib.hid hga; have HBLK := Lib.hid hblk; have HAB := Lib.hid hAB
  clear h h0 hga hblk hAB
  go_enter Tryz.func83, Tryz.ntmps83
  -- the term
  go_wp2_with fail
  refine (pnum_u P l A n c made bad _ H0.out).mono ?_
  rintro e w1 (⟨⟨rfl, hp, hg⟩, hr⟩ | ⟨x1, l1, A1, n1, c1, rfl, hr1, h1, hs1, hg1⟩)
  · have hf : M.rdEntry (some l) = (M.zeroEnt, none) := by
      simp only [M.rdEntry, hr, prdNumber_none, prdBytes_none', true_or, if_true]
    have HFIN := Lib.hid (show PEnt w P l A made bad (.panicked shortP) w1 from .inl ⟨⟨rfl, hp, grown_trans' HGA.out hg⟩, hf⟩)
    clear hp hg hr hf
    go_wp2
    exact ⟨rfl, HFIN.out⟩
  have hk1 := (hg1.block w.heap.size (by simp) (by simp; omega)).trans HBLK.out
  have hlt1 := lt_of_row hk1
  have hg01 := grown_trans' HGA.out hg1
  obtain ⟨g, hgg⟩ : ∃ g, g = w1.heap.size := ⟨_, rfl⟩
  have he1 : (w1.alloc (.cells (entL x1 0 0 0#8 false none 0 0).toArray 62)).heap[g]? = some (.cells (entL x1 0 0 0#8 false none 0 0).toArray 62 (0, 0)) := by rw [hgg]; exact heap_alloc_new w1 (.cells (entL x1 0 0 0#8 false none 0 0).toArray 62)
  have H1 := Lib.hid (h1.grown (World.grownBy_alloc w1 (.cells (entL x1 0 0 0#8 false none 0 0).toArray 62) none) (by simp) (fun _ _ => by simp))
  have HK1 := Lib.hid ((heap_alloc_old w1 (.cells (entL x1 0 0 0#8 false none 0 0).toArray 62) hlt1).trans hk1)
  have HG1 := Lib.hid (grown_alloc hg01 (.cells (entL x1 0 0 0#8 false none 0 0).toArray 62))
  have HE1 := Lib.hid he1; have HS1 := Lib.hid hs1; have HR1 := Lib.hid hr1
  have HLT := Lib.hid (show w.heap.size < g by omega)
  have HSZ1 := Lib.hid (show g < (w1.alloc (.cells (entL x1 0 0 0#8 false none 0 0).toArray 62)).heap.size by rw [hgg]; simp)
  have HGG := Lib.hid hgg
  clear h1 hk1 hlt1 hg01 hg1 he1 hs1 hr1 H0 HGA HBLK hgg
  -- the kind
  go_wp2_with fail
  change Calls _ _ _ (w1.alloc (.cells (entL x1 0 0 0#8 false none 0 0).toArray 62)) _
  generalize w1.alloc (.cells (entL x1 0 0 0#8 false none 0 0).toArray 62) = w1' at *
  rw [← HGG.out]
  clear HGG
  refine (small_u P l1 A1 n1 c1 made bad 255 w1' H1.out).mono ?_
  rintro e w2 (⟨⟨rfl, hp, hg⟩, hr⟩ | ⟨x2, l2, A2, n2, c2, rfl, hr2, hx20, hx21, h2, hs2, hg2⟩)
  · have hf : M.rdEntry (some l) = (M.zeroEnt, none) := by
      rcases hr with hr | ⟨x, l', hr, hx⟩
      · simp only [M.rdEntry, HR1.out, hr, prdNumber_none, prdBytes_none', true_or, if_true]
      · simp only [M.rdEntry, HR1.out, hr]
        exact if_pos (by omega)
    have HFIN := Lib.hid (show PEnt w P l A made bad (.panicked shortP) w2 from .inl ⟨⟨rfl, hp, grown_trans' HG1.out hg⟩, hf⟩)
    clear hp hg hr hf
    go_wp2
    exact ⟨rfl, HFIN.out⟩
  obtain ⟨K, rfl⟩ : ∃ K : BitVec 8, x2 = (K.toNat : Int) := ⟨BitVec.ofInt 8 x2, by rw [BitVec.toNat_ofInt]; omega⟩
  have hk2 := (hg2.block w.heap.size (lt_of_row HK1.out) (by simp; omega)).trans HK1.out
  have he2 := (hg2.block g HSZ1.out (by have := HLT.out; simp; omega)).trans HE1.out
  have e21 : w2.cell? ⟨g, 1, none⟩ = some (B8 0#8) := block_cell (xs := entL x1 0 0 0#8 false none 0 0) he2 rfl
  have f21 : w2.frozen? ⟨g, 1, none⟩ = false := frozen_of_row w2 _ 1 _ _ he2
  have hsz2 : g < w2.heap.size := lt_of_row he2
  have hs02 := HS1.out.trans hs2
  have hPg : P ≠ g := by have := HLT.out; omega
  have hAg : ∀ B, SameBlk A B → ∀ a, B = some a → a.block ≠ g := fun B hB a e => by have := hB.lt HAB.out a e; have := HLT.out; omega
  have H2 := Lib.hid (h2.set g 1 (B8 K) hPg (hAg _ hs02))
  have HE2 := Lib.hid (show (w2.setCell ⟨g, 1, none⟩ (B8 K)).heap[g]? = some (.cells (entL x1 0 0 K false none 0 0).toArray 62 (0, 0)) from block_set he2 1 _)
  have HK2 := Lib.hid ((heap_setCell_other w2 ⟨g, 1, none⟩ w.heap.size (B8 K) (by have := HLT.out; simp; omega)).trans hk2)
  have HG2 := Lib.hid (grown_more (grown_trans' HG1.out hg2) (grownBy_setCell w2 g 1 (B8 K)) (by have := HLT.out; omega))
  have HS2 := Lib.hid hs02; have HR2 := Lib.hid hr2; have HPG := Lib.hid hPg; have HAG := Lib.hid hAg
  clear h2 hk2 he2 hs02 hr2 hPg hAg hg2 hs2 hsz2 H1 HK1 HE1 HG1 HSZ1 HS1
  go_wp2_with (with_reducible refine wpList_store_one rfl 60 (.tmp 10) (.tmp 9) rfl ⟨g, 1, none⟩ (B8 K) _ rfl rfl rfl (by kernel_rfl) e21 f21 ?_)
  -- the version
  refine (pnum_u P l2 A2 n2 c2 made bad _ H2.out).mono ?_
  rintro e w3 (⟨⟨rfl, hp, hg⟩, hr⟩ | ⟨x3, l3, A3, n3, c3, rfl, hr3, h3, hs3, hg3⟩)
  · have hf : M.rdEntry (some l) = (M.zeroEnt, none) := by
      simp only [M.rdEntry, HR1.out, HR2.out, hr, prdNumber_none, prdBytes_none', true_or, if_true]
    have HFIN := Lib.hid (show PEnt w P l A made bad (.panicked shortP) w3 from .inl ⟨⟨rfl, hp, grown_trans' HG2.out hg⟩, hf⟩)
    clear hp hg hr hf
    go_wp2
    exact ⟨rfl, HFIN.out⟩
  have HK3 := Lib.hid ((hg3.block w.heap.size (lt_of_row HK2.out) (by simp; omega)).trans HK2.out)
  have HE3 := Lib.hid ((hg3.block g (lt_of_row HE2.out) (fun e => HPG.out (by cases e; rfl))).trans HE2.out)
  have HG3 := Lib.hid (grown_trans' HG2.out hg3)
  have H3 := Lib.hid h3; have HS3 := Lib.hid (HS2.out.trans hs3); have HR3 := Lib.hid hr3
  clear h3 hg3 hs3 hr3 H2 HK2 HE2 HG2 HS2
  -- the server
  go_wp2_with fail
  refine (pnum_u P l3 A3 n3 c3 made bad _ H3.out).mono ?_
  rintro e w4 (⟨⟨rfl, hp, hg⟩, hr⟩ | ⟨x4, l4, A4, n4, c4, rfl, hr4, h4, hs4, hg4⟩)
  · have hf : M.rdEntry (some l) = (M.zeroEnt, none) := by
      simp only [M.rdEntry, HR1.out, HR2.out, HR3.out, hr, prdNumber_none, prdBytes_none', true_or, if_true]
    have HFIN := Lib.hid (show PEnt w P l A made bad (.panicked shortP) w4 from .inl ⟨⟨rfl, hp, grown_trans' HG3.out hg⟩, hf⟩)
    clear hp hg hr hf
    go_wp2
    exact ⟨rfl, HFIN.out⟩
  have hk4 := (hg4.block w.heap.size (lt_of_row HK3.out) (by simp; omega)).trans HK3.out
  have he4 := (hg4.block g (lt_of_row HE3.out) (fun e => HPG.out (by cases e; rfl))).trans HE3.out
  have e42 : w4.cell? ⟨g, 2, none⟩ = some (.int .i64 0) := block_cell (xs := entL x1 0 0 K false none 0 0) he4 rfl
  have f42 : w4.frozen? ⟨g, 2, none⟩ = false := frozen_of_row w4 _ 2 _ _ he4
  have he4' : (w4.setCell ⟨g, 2, none⟩ (.int .i64 x3)).heap[g]? = some (.cells (entL x1 x3 0 K false none 0 0).toArray 62 (0, 0)) := block_set he4 2 _
  have e43 : (w4.setCell ⟨g, 2, none⟩ (.int .i64 x3)).cell? ⟨g, 3, none⟩ = some (.int .i64 0) := block_cell (xs := entL x1 x3 0 K false none 0 0) he4' rfl
  have f43 : (w4.setCell ⟨g, 2, none⟩ (.int .i64 x3)).frozen? ⟨g, 3, none⟩ = false := frozen_of_row _ _ 3 _ _ he4'
  have hs04 := HS3.out.trans hs4
  have H4 := Lib.hid (PrgR.set (PrgR.set h4 g 2 (.int .i64 x3) HPG.out (HAG.out _ hs04)) g 3 (.int .i64 x4) HPG.out (HAG.out _ hs04))
  have HE4 := Lib.hid (show ((w4.setCell ⟨g, 2, none⟩ (.int .i64 x3)).setCell ⟨g, 3, none⟩ (.int .i64 x4)).heap[g]? = some (.cells (entL x1 x3 x4 K false none 0 0).toArray 62 (0, 0)) from block_set he4' 3 _)
  have HK4 := Lib.hid ((heap_setCell_other _ ⟨g, 3, none⟩ w.heap.size (.int .i64 x4) (by have := HLT.out; simp; omega)).trans ((heap_setCell_other w4 ⟨g, 2, none⟩ w.heap.size (.int .i64 x3) (by have := HLT.out; simp; omega)).trans hk4))
  have HG4 := Lib.hid (grown_more (grown_more (grown_trans' HG3.out hg4) (grownBy_setCell w4 g 2 (.int .i64 x3)) (by have := HLT.out; omega)) (grownBy_setCell _ g 3 (.int .i64 x4)) (by have := HLT.out; omega))
  have HS4 := Lib.hid hs04; have HR4 := Lib.hid hr4
  clear h4 hk4 he4 he4' hs04 hr4 hg4 hs4 H3 HK3 HE3 HG3 HS3
  go_wp2_with fail
  -- good
  generalize (w4.setCell ⟨g, 2, none⟩ (.int .i64 x3)).setCell ⟨g, 3, none⟩ (.int .i64 x4) = w4' at *
  clear e42 f42 e43 f43
  refine (small_u P l4 A4 n4 c4 made bad 1 w4' H4.out).mono ?_
  rintro e w5 (⟨⟨rfl, hp, hg⟩, hr⟩ | ⟨x5, l5, A5, n5, c5, rfl, hr5, hx50, hx51, h5, hs5, hg5⟩)
  · have hf : M.rdEntry (some l) = (M.zeroEnt, none) := by
      rcases hr with hr | ⟨x, l', hr, hx⟩
      · simp only [M.rdEntry, HR1.out, HR2.out, HR3.out, HR4.out, hr, prdBytes_none', true_or, if_true]
      · simp only [M.rdEntry, HR1.out, HR2.out, HR3.out, HR4.out, hr]
        exact if_pos (by omega)
    have HFIN := Lib.hid (show PEnt w P l A made bad (.panicked shortP) w5 from .inl ⟨⟨rfl, hp, grown_trans' HG4.out hg⟩, hf⟩)
    clear hp hg hr hf
    go_wp2
    exact ⟨rfl, HFIN.out⟩
  have hk5 := (hg5.block w.heap.size (lt_of_row HK4.out) (by simp; omega)).trans HK4.out
  have he5 := (hg5.block g (lt_of_row HE4.out) (fun e => HPG.out (by cases e; rfl))).trans HE4.out
  have e54 : w5.cell? ⟨g, 4, none⟩ = some (.bool false) := block_cell (xs := entL x1 x3 x4 K false none 0 0) he5 rfl
  have f54 : w5.frozen? ⟨g, 4, none⟩ = false := frozen_of_row w5 _ 4 _ _ he5
  have hs05 := HS4.out.trans hs5
  have H5 := Lib.hid (PrgR.set h5 g 4 (.bool (x5 == 1)) HPG.out (HAG.out _ hs05))
  have HE5 := Lib.hid (show (w5.setCell ⟨g, 4, none⟩ (.bool (x5 == 1))).heap[g]? = some (.cells (entL x1 x3 x4 K (x5 == 1) none 0 0).toArray 62 (0, 0)) from block_set he5 4 _)
  have HK5 := Lib.hid ((heap_setCell_other _ ⟨g, 4, none⟩ w.heap.size (.bool (x5 == 1)) (by have := HLT.out; simp; omega)).trans hk5)
  have HG5 := Lib.hid (grown_more (grown_trans' HG4.out hg5) (grownBy_setCell w5 g 4 (.bool (x5 == 1))) (by have := HLT.out; omega))
  have HS5 := Lib.hid hs05; have HR5 := Lib.hid hr5
  clear h5 hk5 he5 hs05 hr5 hg5 hs5 H4 HK4 HE4 HG4 HS4
  go_wp2_with fail
  -- the bytes
  refine (bytes_u P l5 A5 n5 c5 made bad _ H5.out (fun a e => by have := HS5.out.lt HAB.out a e; have := HLT.out; have := lt_of_row HE5.out; omega)).mono ?_
  rintro e w6 (⟨⟨rfl, hp, hg⟩, hr⟩ | ⟨B, m, c', x6, l6, A6, n6, c6, rfl, hr6, ho6, h6, hs6, hg6⟩)
  · have hf : M.rdEntry (some l) = (M.zeroEnt, none) := by
      simp only [M.rdEntry, HR1.out, HR2.out, HR3.out, HR4.out, HR5.out, hr, true_or, if_true]
    have HFIN := Lib.hid (show PEnt w P l A made bad (.panicked shortP) w6 from .inl ⟨⟨rfl, hp, grown_trans' HG5.out hg⟩, hf⟩)
    clear hp hg hr hf
    go_wp2
    exact ⟨rfl, HFIN.out⟩
  have hk6 := (hg6.block w.heap.size (lt_of_row HK5.out) (by simp; omega)).trans HK5.out
  have he6 := (hg6.block g (lt_of_row HE5.out) (fun e => HPG.out (by cases e; rfl))).trans HE5.out
  have e65 : w6.cell? ⟨g, 5, none⟩ = some (.slice none 0 0) := block_cell (xs := entL x1 x3 x4 K (x5 == 1) none 0 0) he6 rfl
  have f65 : w6.frozen? ⟨g, 5, none⟩ = false := frozen_of_row w6 _ 5 _ _ he6
  have hs06 := HS5.out.trans hs6
  have hg5l : g < (w5.setCell ⟨g, 4, none⟩ (.bool (x5 == 1))).heap.size := lt_of_row HE5.out
  have hneg : (Value.slice B m c').ownBlock ≠ some g := fun e => by have := (ho6.lt _ e).1; omega
  have hnew : (Value.slice B m c').ownBlock ≠ some w.heap.size := fun e => by have := (ho6.lt _ e).1; have := HLT.out; omega
  have H6 := Lib.hid (PrgR.set h6 g 5 (.slice B m c') HPG.out (HAG.out _ hs06))
  have HE6 := Lib.hid (show (w6.setCell ⟨g, 5, none⟩ (.slice B m c')).heap[g]? = some (.cells (entL x1 x3 x4 K (x5 == 1) B m c').toArray 62 (0, 0)) from block_set he6 5 _)
  have HK6 := Lib.hid ((heap_setCell_other _ ⟨g, 5, none⟩ w.heap.size (.slice B m c') (by have := HLT.out; simp; omega)).trans hk6)
  have HG6 := Lib.hid (grown_more (grown_trans' HG5.out hg6) (grownBy_setCell w6 g 5 (.slice B m c')) (by have := HLT.out; omega))
  have HO6 := Lib.hid (own_low (World.ownsRow.kept ho6 (grownBy_setCell w6 g 5 (.slice B m c')) (.inr hneg)) (show w.heap.size ≤ _ by have := HLT.out; omega))
  have hf : M.rdEntry (some l) = (⟨x1, K, x3, x4, x5 == 1, x6⟩, some l6) := by
    simp only [M.rdEntry, HR1.out, HR2.out, HR3.out, HR4.out, HR5.out, hr6]
    rw [if_neg, ofInt_B8]
    have := K.isLt
    rintro (h | h | h | h | h)
    · cases h
    all_goals omega
  have HS6 := Lib.hid hs06; have HF := Lib.hid hf; have HNEW := Lib.hid hnew
  clear h6 hk6 he6 hs06 hr6 hg6 hs6 ho6 hneg hf hnew hg5l H5 HK5 HE5 HG5 HS5
  go_wp2_with (first
    | (with_reducible refine wpList_store_one rfl 37 (.tmp 23) (.tmp 22) rfl ⟨g, 5, none⟩ (.slice B m c') _ rfl rfl rfl (by kernel_rfl) e65 f65 ?_)
    | (with_reducible refine wpList_load_row rfl 62 (.tmp 3) rfl g rfl 62 _ (0, 0) _ HE6.out Tryz.underlying62 rfl (infoEntL _ _ _ _ _ _ _ _) ?_)
    | (with_reducible refine wpList_store_row rfl 62 (.tmp 2) (.tmp 24) rfl w.heap.size (entL x1 x3 x4 K (x5 == 1) B m c').toArray rfl rfl 62 _ HK6.out (infoEntL x1 x3 x4 K (x5 == 1) B m c') (entL_size _ _ _ _ _ _ _ _ _ _ _ _ _ _ _ _) (entL_one _ _ _ _ _ _ _ _) ?_))
  refine bodyPost_ret (v := .agg (entL x1 x3 x4 K (x5 == 1) B m c').toArray) ?_ ?_ ?_
  · exact results_cell_row rfl _ _ w.heap.size 62 _ (0, 0) _ rfl (setRow_heap _ _ _ _ _ _ HK6.out) Tryz.underlying62 rfl (infoEntL x1 x3 x4 K (x5 == 1) B m c')
  · rfl
  · exact .inr ⟨⟨x1, K, x3, x4, x5 == 1, x6⟩, B, m, c', l6, A6, n6, c6, rfl, HF.out, row_setRow HO6.out _ HNEW.out _, H6.out.setRow w.heap.size (by omega) (fun a e => Nat.ne_of_lt (HS6.out.lt HAB.out a e)) _, HS6.out, grown_setRow HG6.out (Nat.le_refl _) _⟩
end Go.Proofs.YtfpjmeknjhhakaaGreat.K

/- The closures of the program's reader's Entry. -/
namespace Go.Proofs.YtfpjmeknjhhakaaGreat.K
open Go Go.RowKit

theorem catchEnt_idle (p q : Addr) (w : World) :
    CallsD Tryz.prog 101 #[.pointer (some p), .pointer (some q)] .returning w fun e u' w' => e = .returned (.tuple #[]) ∧ u' = .returning ∧ w' = w := by
  refine callsD_of_wpS Tryz.func101 rfl fun c₀ cs hu => ?_
  apply wpS_seq
  apply wpS_region
  simp [wpOpsS, go_sem, recoverD, hu, Tryz.ntmps101, Exit.thenS]
  refine wpS_of_wp ?_
  rw [tmps21]
  go_wp2
  cases c₀
  simp_all [bodyPostS, results, Tryz.results101]
abbrev zeroL : List Value := entL 0 0 0 0#8 false none 0 0
set_option maxHeartbeats 1000000 in
set_option maxRecDepth 100000 in
theorem catchEnt_panicking (O R P : Nat) (A : Option Addr) (l : List (BitVec 8)) (n c : Nat) (w : World) (ho : w.heap[O]? = some (.cells zeroL.toArray 62 (0, 0))) (hr : w.cell? ⟨R, 0, none⟩ = some (.pointer (some ⟨P, 0, none⟩))) (hp : PrgR w P l A n c true false) (hOP : O ≠ P) :
    CallsD Tryz.prog 101 #[.pointer (some ⟨O, 0, none⟩), .pointer (some ⟨R, 0, none⟩)] (.panicking shortP) w fun e u' w' =>
      e = .returned (.tuple #[]) ∧ u' = .panicking [{ v := .iface 153 (.agg #[]), recovered := true }] ∧ w' = (((w.alloc (.cells #[] 153)).alloc (.cells zeroL.toArray 62)).setRow O zeroL.toArray).setCell ⟨P, 2, none⟩ (.bool true) := by
  have hta : ∀ w, (Instr.typeAssert (.iface 153 (.agg #[])) 20 153 true).run Tryz.prog w = .ok (.tuple #[.agg #[], .bool true]) w := fun _ => by kernel_rfl
  refine callsD_of_wpS Tryz.func101 rfl fun c₀ cs hu => ?_
  unfold shortP at hu
  have hOl := lt_of_row ho
  have hPl := hp.lt
  have hr' := cell_old (.cells #[.int .i64 0, .int .u8 0, .int .i64 0, .int .i64 0, .bool false, .slice none 0 0] 62) (cell_old (.cells #[] 153) hr)
  have ho2 := (heap_alloc_old (w.alloc (.cells #[] 153)) (.cells zeroL.toArray 62) (by simp; omega)).trans ((heap_alloc_old w (.cells #[] 153) hOl).trans ho)
  have hz2 := heap_alloc_new (w.alloc (.cells #[] 153)) (.cells zeroL.toArray 62)
  obtain ⟨t, hb⟩ := hp.blk
  have hb3 := (setRow_other ((w.alloc (.cells #[] 153)).alloc (.cells zeroL.toArray 62)) O P zeroL.toArray (fun e => hOP e.symm)).trans ((heap_alloc_old (w.alloc (.cells #[] 153)) (.cells zeroL.toArray 62) (by simp; omega)).trans ((heap_alloc_old w (.cells #[] 153) hPl).trans hb))
  have d2 : (((w.alloc (.cells #[] 153)).alloc (.cells #[.int .i64 0, .int .u8 0, .int .i64 0, .int .i64 0, .bool false, .slice none 0 0] 62)).setRow O (entL 0 0 0 0#8 false none 0 0).toArray).cell? ⟨P, 2, none⟩ = some (.bool false) := block_cell hb3 rfl
  have f2 : (((w.alloc (.cells #[] 153)).alloc (.cells #[.int .i64 0, .int .u8 0, .int .i64 0, .int .i64 0, .bool false, .slice none 0 0] 62)).setRow O (entL 0 0 0 0#8 false none 0 0).toArray).frozen? ⟨P, 2, none⟩ = false := frozen_of_row _ P 2 _ _ hb3
  have HO2 := Lib.hid ho2; have HZ2 := Lib.hid hz2
  clear hp hr ho hb hb3 ho2 hz2
  apply wpS_seq
  apply wpS_region
  simp [wpOpsS, go_sem, recoverD, hu, Tryz.ntmps101, Exit.thenS]
  refine wpS_of_wp ?_
  rw [tmps21]
  go_wp2_with (first
    | (with_reducible refine wpList_load_row rfl 62 (.tmp 5) rfl (w.alloc (.cells #[] 153)).heap.size rfl 62 _ (0, 0) _ HZ2.out Tryz.underlying62 rfl (infoEntL 0 0 0 0#8 false none 0 0) ?_)
    | (refine wpList_store_row rfl 62 (.tmp 0) (.tmp 18) rfl O (entL 0 0 0 0#8 false none 0 0).toArray rfl rfl 62 _ HO2.out (infoEntL 0 0 0 0#8 false none 0 0) (entL_size _ _ _ _ _ _ _ _ _ _ _ _ _ _ _ _) (entL_one _ _ _ _ _ _ _ _) ?_))
  cases c₀
  simp_all [bodyPostS, results, Tryz.results101, zeroL, entL, B8]
theorem closEnt_u (Bx P : Nat) (l : List (BitVec 8)) (A : Option Addr) (n c : Nat) (made bad : Bool) (w : World) (h : PrgR w P l A n c made bad) (hAB : ∀ a, A = some a → a.block < w.heap.size) (hb : w.cell? ⟨Bx, 0, none⟩ = some (.pointer (some ⟨P, 0, none⟩))) :
    Calls Tryz.prog 82 #[.pointer (some ⟨Bx, 0, none⟩)] w (PEnt w P l A made bad) := by
  have hPl := h.lt
  have hb' := cell_old (.cells #[.int .i64 0, .int .u8 0, .int .i64 0, .int .i64 0, .bool false, .slice none 0 0] 62) hb
  have H := Lib.hid (h.grown (World.grownBy_alloc w (.cells zeroL.toArray 62) none) (by simp) (fun _ _ => by simp))
  have HG := Lib.hid (show w.grownBy (w.alloc (.cells zeroL.toArray 62)) (some P) from World.grownBy_alloc w _ _)
  have HZ := Lib.hid (heap_alloc_new w (.cells zeroL.toArray 62))
  have HAB := Lib.hid hAB
  clear h hAB hb
  go_enter Tryz.func82, Tryz.ntmps82
  go_wp2_with fail
  change Calls _ _ _ (w.alloc (.cells zeroL.toArray 62)) _
  refine (pentry_u P l A n c made bad _ H.out (fun a e => by have := HAB.out a e; simp; omega)).mono ?_
  rintro e w1 (⟨hp, hr⟩ | ⟨x, B, m, c', l', A', n', c2, rfl, hr, ho, hp, hs, hg⟩)
  · obtain ⟨rfl, hp, hg⟩ := hp
    have HFIN := Lib.hid (show PEnt w P l A made bad (.panicked shortP) w1 from .inl ⟨⟨rfl, hp, grown_trans' HG.out hg⟩, hr⟩)
    clear hp hg hr
    go_wp2
    exact ⟨rfl, HFIN.out⟩
  have HK := Lib.hid ((hg.block w.heap.size (by simp) (by simp; omega)).trans HZ.out)
  have hnew : (Value.slice B m c').ownBlock ≠ some w.heap.size := fun e => by
    have h1 := (ho.lt _ e).1
    have h2 : (w.alloc (.cells zeroL.toArray 62)).heap.size = w.heap.size + 1 := by simp
    omega
  have HNEW := Lib.hid hnew; have HO := Lib.hid (own_low ho (show w.heap.size ≤ _ by simp)); have HP := Lib.hid hp; have HS := Lib.hid hs; have HGG := Lib.hid (grown_trans' HG.out hg); have HR := Lib.hid hr
  clear hnew ho hp hs hg hr H HZ
  go_wp2_with (with_reducible refine wpList_store_row rfl 62 (.tmp 1) (.tmp 5) rfl w.heap.size (entL x.term x.version x.server x.kind x.good B m c').toArray rfl rfl 62 _ HK.out (infoEntL x.term x.version x.server x.kind x.good B m c') (entL_size _ _ _ _ _ _ _ _ _ _ _ _ _ _ _ _) (entL_one _ _ _ _ _ _ _ _) ?_)
  refine bodyPost_ret (v := .agg (entL x.term x.version x.server x.kind x.good B m c').toArray) ?_ ?_ ?_
  · exact results_cell_row rfl _ _ w.heap.size 62 _ (0, 0) _ rfl (setRow_heap _ _ _ _ _ _ HK.out) Tryz.underlying62 rfl (infoEntL x.term x.version x.server x.kind x.good B m c')
  · rfl
  · exact .inr ⟨x, B, m, c', l', A', n', c2, rfl, HR.out, row_setRow HO.out _ HNEW.out _, HP.out.setRow w.heap.size (by omega) (fun a e => Nat.ne_of_lt (HS.out.lt HAB.out a e)) _, HS.out, grown_setRow HGG.out (Nat.le_refl _) _⟩
end Go.Proofs.YtfpjmeknjhhakaaGreat.K

/- The contracts of the program's reader: Entry. -/
namespace Go.Proofs.YtfpjmeknjhhakaaGreat.K
open Go Go.RowKit

theorem rdEntry_none : M.rdEntry none = (M.zeroEnt, none) := rfl
/-- an entry was got, or nothing -/
def GotEnt (w : World) (P : Nat) (s : M.Rdr) (A0 : Option Addr) (e : Ending) (w' : World) : Prop :=
  ∃ B m c, e = .returned (.agg (entL (M.rdEntry s).1.term (M.rdEntry s).1.version (M.rdEntry s).1.server (M.rdEntry s).1.kind (M.rdEntry s).1.good B m c).toArray) ∧ w'.ownsRow w.heap.size 5 1 (.slice B m c) m (bv (M.rdEntry s).1.data) ∧ PrgN w' P (M.rdEntry s).2 A0 ∧ w.grownBy w' (some P)

set_option maxHeartbeats 2000000 in
set_option maxRecDepth 100000 in
theorem readsEnt_u (Bx P : Nat) (l : List (BitVec 8)) (A : Option Addr) (n c : Nat) (w : World) (h : PrgR w P l A n c true false) (hb : w.cell? ⟨Bx, 0, none⟩ = some (.pointer (some ⟨P, 0, none⟩))) (hAB : ∀ a, A = some a → a.block < w.heap.size) (hBP : Bx ≠ P) :
    Calls Tryz.prog 81 #[.pointer (some ⟨P, 0, none⟩), .func (.func 82) #[] #[.pointer (some ⟨Bx, 0, none⟩)]] w (GotEnt w P (some l) A) := by
  have hmf : ∀ (fn : Fn) (first cap : Array Value) (w : World), (Instr.makeFunc fn first cap).run Tryz.prog w = .ok (.func fn first cap) w := fun _ _ _ _ => rfl
  have hPl := h.lt
  have hBl := block_lt_of_cell hb
  have hga : w.grownBy ((w.alloc (.cells #[.pointer (some ⟨P, 0, none⟩)] 105)).alloc (.cells zeroL.toArray 62)) none := ⟨rfl, rfl, rfl, by simp; omega, fun k hk _ => (heap_alloc_old _ _ (by simp; omega)).trans (heap_alloc_old w _ hk)⟩
  have h2 := h.grown hga (by simp) (fun _ _ => by simp)
  have hb2 := hga.cell hb (by simp)
  have ho2 : ((w.alloc (.cells #[.pointer (some ⟨P, 0, none⟩)] 105)).alloc (.cells zeroL.toArray 62)).heap[w.heap.size + 1]? = some (.cells zeroL.toArray 62 (0, 0)) := heap_alloc2_new w _ _
  have hr2 : ((w.alloc (.cells #[.pointer (some ⟨P, 0, none⟩)] 105)).alloc (.cells zeroL.toArray 62)).heap[w.heap.size]? = some (.cells #[.pointer (some ⟨P, 0, none⟩)] 105 (0, 0)) := heap_alloc2_old w _ _
  have hsz2 : ((w.alloc (.cells #[.pointer (some ⟨P, 0, none⟩)] 105)).alloc (.cells zeroL.toArray 62)).heap.size = w.heap.size + 2 := by simp
  have H := Lib.hid h2; have HB := Lib.hid hb2; have HGA := Lib.hid hga; have HO2 := Lib.hid ho2; have HR2 := Lib.hid hr2; have HSZ2 := Lib.hid hsz2; have HAB := Lib.hid hAB
  clear h hb h2 hb2 hga ho2 hr2 hsz2 hAB
  go_enter_defers Tryz.func81, Tryz.ntmps81
  go_wp2_with fail
  refine (pBad_any P l A n c false _ H.out).mono ?_
  rintro e w1 ⟨rfl, rfl⟩
  go_wp2_with fail
  refine (closEnt_u Bx P l A n c true false _ H.out (fun a e => by have := HAB.out a e; rw [HSZ2.out]; omega) HB.out).mono ?_
  rintro e w1 (⟨⟨rfl, ⟨l1, A1, n1, c1, hp⟩, hg⟩, hr⟩ | ⟨x, B, m, c', l', A', n', c2, rfl, hr, ho, hp, hs, hg⟩)
  · have hob : w1.heap[w.heap.size + 1]? = some (.cells zeroL.toArray 62 (0, 0)) := (hg.block _ (by rw [HSZ2.out]; omega) (by simp; omega)).trans HO2.out
    have hrb : w1.heap[w.heap.size]? = some (.cells #[.pointer (some ⟨P, 0, none⟩)] 105 (0, 0)) := (hg.block _ (by rw [HSZ2.out]; omega) (by simp; omega)).trans HR2.out
    have hrc : w1.cell? ⟨w.heap.size, 0, none⟩ = some (.pointer (some ⟨P, 0, none⟩)) := block_cell (xs := [.pointer (some ⟨P, 0, none⟩)]) hrb rfl
    have HP := Lib.hid hp; have HG := Lib.hid hg; have HOB := Lib.hid hob; have HRC := Lib.hid hrc; have HR := Lib.hid hr
    clear hp hg hob hrb hrc hr
    go_wp2
    refine leaves_cons (f := 101) (args := #[.pointer (some ⟨w.heap.size + 1, 0, none⟩), .pointer (some ⟨w.heap.size, 0, none⟩)]) (by simp) (by simp [go_sem]) ?_
    refine (catchEnt_panicking (w.heap.size + 1) w.heap.size P A1 l1 n1 c1 _ HOB.out HRC.out HP.out (by omega)).mono ?_
    rintro e u' w'' ⟨rfl, rfl, rfl⟩
    have hPl1 := HP.out.lt
    have hlt1 := lt_of_row HOB.out
    have ho3 := (heap_alloc_old (w1.alloc (.cells #[] 153)) (.cells zeroL.toArray 62) (by simp; omega)).trans ((heap_alloc_old w1 (.cells #[] 153) hlt1).trans HOB.out)
    have ho4 : (((w1.alloc (.cells #[] 153)).alloc (.cells zeroL.toArray 62)).setRow (w.heap.size + 1) zeroL.toArray).heap[w.heap.size + 1]? = some (.cells zeroL.toArray 62 (0, 0)) := setRow_heap _ _ _ _ _ _ ho3
    have ho5 := (heap_setCell_other _ ⟨P, 2, none⟩ (w.heap.size + 1) (.bool true) (by simp; omega)).trans ho4
    obtain ⟨t, hblk⟩ := HP.out.blk
    have hblk2 := (setRow_other ((w1.alloc (.cells #[] 153)).alloc (.cells zeroL.toArray 62)) (w.heap.size + 1) P zeroL.toArray (by omega)).trans ((heap_alloc_old (w1.alloc (.cells #[] 153)) (.cells zeroL.toArray 62) (by simp; omega)).trans ((heap_alloc_old w1 (.cells #[] 153) hPl1).trans hblk))
    refine ⟨.agg zeroL.toArray, results_cell_row rfl _ _ (w.heap.size + 1) 62 _ (0, 0) _ rfl ho5 Tryz.underlying62 rfl (infoEntL 0 0 0 0#8 false none 0 0), ?_⟩
    refine ⟨none, 0, 0, by rw [HR.out]; rfl, by rw [HR.out]; exact World.ownsRow_nil _ _ _ _, ?_, ?_⟩
    · rw [HR.out]
      exact ⟨[], A1, n1, c1, t, block_set hblk2 2 _⟩
    · have g1 : w.grownBy w1 (some P) := grown_trans' ⟨HGA.out.os, HGA.out.tape, HGA.out.output, HGA.out.size, fun k hk _ => HGA.out.block k hk (by simp)⟩ HG.out
      have g2 := grown_alloc (grown_alloc g1 (.cells #[] 153)) (.cells zeroL.toArray 62)
      exact grown_trans' (grown_setRow g2 (by omega) _) (grownBy_setCell _ P 2 _)
  · have hob : w1.heap[w.heap.size + 1]? = some (.cells zeroL.toArray 62 (0, 0)) := (hg.block _ (by rw [HSZ2.out]; omega) (by simp; omega)).trans HO2.out
    have hne : (Value.slice B m c').ownBlock ≠ some (w.heap.size + 1) := fun e => by
      have h1 := (ho.lt _ e).1
      rw [HSZ2.out] at h1
      omega
    have HP := Lib.hid hp; have HG := Lib.hid hg; have HOB := Lib.hid hob; have HR := Lib.hid hr; have HS := Lib.hid hs; have HNE := Lib.hid hne
    have HO := Lib.hid (own_low ho (show w.heap.size ≤ _ by rw [HSZ2.out]; omega))
    clear hp hg hob hr hs hne ho
    go_wp2_with (refine wpList_store_row rfl 62 (.tmp 4) (.tmp 10) rfl (w.heap.size + 1) (entL x.term x.version x.server x.kind x.good B m c').toArray rfl rfl 62 _ HOB.out (infoEntL x.term x.version x.server x.kind x.good B m c') (entL_size _ _ _ _ _ _ _ _ _ _ _ _ _ _ _ _) (entL_one _ _ _ _ _ _ _ _) ?_)
    refine leaves_cons (f := 101) (args := #[.pointer (some ⟨w.heap.size + 1, 0, none⟩), .pointer (some ⟨w.heap.size, 0, none⟩)]) (by simp) (by simp [go_sem]) ?_
    refine (catchEnt_idle _ _ _).mono ?_
    rintro e u' w'' ⟨rfl, rfl, rfl⟩
    have ho4 : (w1.setRow (w.heap.size + 1) (entL x.term x.version x.server x.kind x.good B m c').toArray).heap[w.heap.size + 1]? = some (.cells (entL x.term x.version x.server x.kind x.good B m c').toArray 62 (0, 0)) := setRow_heap _ _ _ _ _ _ HOB.out
    refine ⟨.agg (entL x.term x.version x.server x.kind x.good B m c').toArray, results_cell_row rfl _ _ (w.heap.size + 1) 62 _ (0, 0) _ rfl ho4 Tryz.underlying62 rfl (infoEntL x.term x.version x.server x.kind x.good B m c'), ?_⟩
    refine ⟨B, m, c', by rw [HR.out], by rw [HR.out]; exact row_setRow HO.out _ HNE.out _, ?_, ?_⟩
    · rw [HR.out]
      exact ⟨_, A', _, _, HP.out.setRow (w.heap.size + 1) (by omega) (fun a e => by have := HS.out.lt HAB.out a e; omega) _, rfl, HS.out⟩
    · exact grown_setRow (grown_trans' ⟨HGA.out.os, HGA.out.tape, HGA.out.output, HGA.out.size, fun k hk _ => HGA.out.block k hk (by simp)⟩ HG.out) (by omega) _
end Go.Proofs.YtfpjmeknjhhakaaGreat.K

/- The contracts of the program's reader: Entry, all states. -/
namespace Go.Proofs.YtfpjmeknjhhakaaGreat.K
open Go Go.RowKit

/-- nothing is read of what is bad -/
theorem readsEnt_early (p : Option Addr) (Bx : Addr) (w : World) (hbad : ∀ w1, w.grownBy w1 none → Calls Tryz.prog 84 #[.pointer p] w1 fun e w' => e = .returned (.bool true) ∧ w1 = w') :
    Calls Tryz.prog 81 #[.pointer p, .func (.func 82) #[] #[.pointer (some Bx)]] w fun e w' => e = .returned (.agg zeroL.toArray) ∧ Below w.heap.size w w' := by
  have hga : w.grownBy ((w.alloc (.cells #[.pointer p] 105)).alloc (.cells zeroL.toArray 62)) none := ⟨rfl, rfl, rfl, by simp; omega, fun k hk _ => (heap_alloc_old _ _ (by simp; omega)).trans (heap_alloc_old w _ hk)⟩
  have hb := hbad _ hga
  have hbel : Below w.heap.size w ((w.alloc (.cells #[.pointer p] 105)).alloc (.cells zeroL.toArray 62)) := ((Below.refl _ _).alloc (Nat.le_refl _) _).alloc (by simp) _
  have HB := Lib.hid hb; have HBEL := Lib.hid hbel
  clear hbad hga hb hbel
  go_enter_defers Tryz.func81, Tryz.ntmps81
  go_wp2_with fail
  refine HB.out.mono ?_
  rintro e w1 ⟨rfl, rfl⟩
  have hz : ((w.alloc (.cells #[.pointer p] 105)).alloc (.cells zeroL.toArray 62)).heap[w.heap.size + 1]? = some (.cells zeroL.toArray 62 (0, 0)) := heap_alloc2_new w _ _
  have HZ := Lib.hid hz
  clear hz
  go_wp2_with (first
    | (refine wpList_load_row rfl 62 (.tmp 4) rfl (w.heap.size + 1) rfl 62 _ (0, 0) _ HZ.out Tryz.underlying62 rfl (infoEntL 0 0 0 0#8 false none 0 0) ?_)
    | (refine wpList_store_row rfl 62 (.tmp 4) (.tmp 7) rfl (w.heap.size + 1) zeroL.toArray rfl rfl 62 _ HZ.out (infoEntL 0 0 0 0#8 false none 0 0) (entL_size _ _ _ _ _ _ _ _ _ _ _ _ _ _ _ _) (entL_one _ _ _ _ _ _ _ _) ?_))
  exact ⟨.agg zeroL.toArray, results_cell_row rfl _ _ (w.heap.size + 1) 62 _ (0, 0) _ rfl (setRow_heap _ _ _ _ _ _ HZ.out) Tryz.underlying62 rfl (infoEntL 0 0 0 0#8 false none 0 0), rfl, below_setRow HBEL.out (by omega) _⟩

set_option maxHeartbeats 1000000 in
theorem pEntry_early (p : Option Addr) (w : World) (hbad : ∀ w1, w.grownBy w1 none → Calls Tryz.prog 84 #[.pointer p] w1 fun e w' => e = .returned (.bool true) ∧ w1 = w') :
    Calls Tryz.prog 55 #[.pointer p] w fun e w' => e = .returned (.agg zeroL.toArray) ∧ Below w.heap.size w w' := by
  have hmf : ∀ (fn : Fn) (first cap : Array Value) (w : World), (Instr.makeFunc fn first cap).run Tryz.prog w = .ok (.func fn first cap) w := fun _ _ _ _ => rfl
  have hga : w.grownBy ((w.alloc (.cells #[.pointer p] 105)).alloc (.cells zeroL.toArray 62)) none := ⟨rfl, rfl, rfl, by simp; omega, fun k hk _ => (heap_alloc_old _ _ (by simp; omega)).trans (heap_alloc_old w _ hk)⟩
  have hbel : Below w.heap.size w ((w.alloc (.cells #[.pointer p] 105)).alloc (.cells zeroL.toArray 62)) := ((Below.refl _ _).alloc (Nat.le_refl _) _).alloc (by simp) _
  have hb := readsEnt_early p ⟨w.heap.size, 0, none⟩ ((w.alloc (.cells #[.pointer p] 105)).alloc (.cells zeroL.toArray 62)) (fun w1 h1 => hbad w1 (grown_trans' hga h1))
  have HB := Lib.hid hb; have HBEL := Lib.hid hbel
  clear hbad hga hb hbel
  go_enter Tryz.func55, Tryz.ntmps55
  go_wp2_with fail
  refine HB.out.mono ?_
  rintro e w1 ⟨rfl, hb1⟩
  have HZ := Lib.hid (show w1.heap[w.heap.size + 1]? = some (.cells zeroL.toArray 62 (0, 0)) from (hb1.block _ (by simp)).trans (heap_alloc2_new w _ _))
  have HB1 := Lib.hid (HBEL.out.trans (hb1.mono (by simp; omega)))
  clear hb1
  go_wp2_with (refine wpList_store_row rfl 62 (.tmp 2) (.tmp 5) rfl (w.heap.size + 1) zeroL.toArray rfl rfl 62 _ HZ.out (infoEntL 0 0 0 0#8 false none 0 0) (entL_size _ _ _ _ _ _ _ _ _ _ _ _ _ _ _ _) (entL_one _ _ _ _ _ _ _ _) ?_)
  refine bodyPost_ret (v := .agg zeroL.toArray) ?_ ?_ ?_
  · exact results_cell_row rfl _ _ (w.heap.size + 1) 62 _ (0, 0) _ rfl (setRow_heap _ _ _ _ _ _ HZ.out) Tryz.underlying62 rfl (infoEntL 0 0 0 0#8 false none 0 0)
  · rfl
  · exact ⟨rfl, below_setRow HB1.out (by omega) _⟩

set_option maxHeartbeats 1000000 in
theorem pEntry_any (P : Nat) (s : M.Rdr) (A0 : Option Addr) (w : World) (h : PrgN w P s A0) (hAB : ∀ a, A0 = some a → a.block < w.heap.size) :
    Calls Tryz.prog 55 #[.pointer (some ⟨P, 0, none⟩)] w (GotEnt w P s A0) := by
  obtain ⟨l, A, n, c, h⟩ := h
  cases s with
  | none =>
    have h' : ∃ t, w.heap[P]? = some (.cells (readP A n c true true).toArray t (0, 0)) := h
    have hPl : P < w.heap.size := by obtain ⟨t, hb⟩ := h'; exact (Array.getElem?_eq_some_iff.1 hb).1
    refine (pEntry_early (some ⟨P, 0, none⟩) w (fun w1 hg => pBad_bad P A n c w1 ?_)).mono ?_
    · obtain ⟨t, hb⟩ := h'
      exact ⟨t, (hg.block P hPl (by simp)).trans hb⟩
    · rintro e w' ⟨rfl, hb⟩
      obtain ⟨t, hb'⟩ := h'
      exact ⟨none, 0, 0, rfl, World.ownsRow_nil _ _ _ _, ⟨l, A, n, c, t, (hb.block P hPl).trans hb'⟩, ⟨hb.os, hb.tape, hb.output, hb.size, fun k hk _ => hb.block k hk⟩⟩
  | some l' =>
    obtain ⟨hp, rfl, hA⟩ := h
    have hmf : ∀ (fn : Fn) (first cap : Array Value) (w : World), (Instr.makeFunc fn first cap).run Tryz.prog w = .ok (.func fn first cap) w := fun _ _ _ _ => rfl
    have hPl := hp.lt
    have hga : w.grownBy ((w.alloc (.cells #[.pointer (some ⟨P, 0, none⟩)] 105)).alloc (.cells zeroL.toArray 62)) none := ⟨rfl, rfl, rfl, by simp; omega, fun k hk _ => (heap_alloc_old _ _ (by simp; omega)).trans (heap_alloc_old w _ hk)⟩
    have hp2 := hp.grown hga (by simp) (fun _ _ => by simp)
    have hbx : ((w.alloc (.cells #[.pointer (some ⟨P, 0, none⟩)] 105)).alloc (.cells zeroL.toArray 62)).cell? ⟨w.heap.size, 0, none⟩ = some (.pointer (some ⟨P, 0, none⟩)) := cell_old _ (by rw [World.cell?_alloc_new]; rfl)
    have hcall : Calls Tryz.prog 81 #[.pointer (some ⟨P, 0, none⟩), .func (.func 82) #[] #[.pointer (some ⟨w.heap.size, 0, none⟩)]] ((w.alloc (.cells #[.pointer (some ⟨P, 0, none⟩)] 105)).alloc (.cells zeroL.toArray 62)) (GotEnt ((w.alloc (.cells #[.pointer (some ⟨P, 0, none⟩)] 105)).alloc (.cells zeroL.toArray 62)) P (some l) A) := by
      exact readsEnt_u w.heap.size P l A n c _ hp2 hbx (fun a e => by obtain ⟨a0, e0, h0⟩ := hA a e; have := hAB a0 e0; simp; omega) (by omega)
    have HC := Lib.hid hcall; have HA := Lib.hid hA; have HGA := Lib.hid hga; have HAB := Lib.hid hAB
    clear hcall hA hga hp2 hbx hp hAB
    go_enter Tryz.func55, Tryz.ntmps55
    go_wp2_with fail
    refine HC.out.mono ?_
    rintro e w1 ⟨B, m, c', rfl, hown, ⟨l2, A2, n2, c2, hp⟩, hg⟩
    obtain ⟨⟨x, s2⟩, hx⟩ : ∃ p : M.Ent × M.Rdr, p = M.rdEntry (some l) := ⟨_, rfl⟩
    rw [← hx] at hown hp ⊢
    have HZ := Lib.hid (show w1.heap[w.heap.size + 1]? = some (.cells zeroL.toArray 62 (0, 0)) from (hg.block _ (by simp) (by simp; omega)).trans (heap_alloc2_new w _ _))
    have hne : (Value.slice B m c').ownBlock ≠ some (w.heap.size + 1) := fun e => by
      have h1 := (hown.lt _ e).1
      have h2 : ((w.alloc (.cells #[.pointer (some ⟨P, 0, none⟩)] 105)).alloc (.cells zeroL.toArray 62)).heap.size = w.heap.size + 2 := by simp
      omega
    have HO := Lib.hid (row_setRow (own_low hown (show w.heap.size ≤ _ by simp; omega)) (w.heap.size + 1) hne (entL x.term x.version x.server x.kind x.good B m c').toArray)
    have HG := Lib.hid (grown_setRow (grown_trans' ⟨HGA.out.os, HGA.out.tape, HGA.out.output, HGA.out.size, fun k hk _ => HGA.out.block k hk (by simp)⟩ hg) (show w.heap.size ≤ w.heap.size + 1 by omega) (entL x.term x.version x.server x.kind x.good B m c').toArray)
    have hN : PrgN (w1.setRow (w.heap.size + 1) (entL x.term x.version x.server x.kind x.good B m c').toArray) P s2 A0 := by
      refine ⟨l2, A2, n2, c2, ?_⟩
      cases s2 with
      | none =>
        obtain ⟨t, hb⟩ := hp
        exact ⟨t, (setRow_other _ _ _ _ (by omega)).trans hb⟩
      | some l3 =>
        refine ⟨hp.1.setRow (w.heap.size + 1) (by omega) (fun a e => ?_) _, hp.2.1, fun a e => ?_⟩
        · obtain ⟨a1, e1, h1⟩ := hp.2.2 a e
          obtain ⟨a0, e0, h0⟩ := HA.out a1 e1
          have := HAB.out a0 e0; omega
        · obtain ⟨a1, e1, h1⟩ := hp.2.2 a e
          obtain ⟨a0, e0, h0⟩ := HA.out a1 e1
          exact ⟨a0, e0, h1.trans h0⟩
    have HN := Lib.hid hN; have HX := Lib.hid hx
    clear hN hp hg hown hne hx
    go_wp2_with (refine wpList_store_row rfl 62 (.tmp 2) (.tmp 5) rfl (w.heap.size + 1) (entL x.term x.version x.server x.kind x.good B m c').toArray rfl rfl 62 _ HZ.out (infoEntL x.term x.version x.server x.kind x.good B m c') (entL_size _ _ _ _ _ _ _ _ _ _ _ _ _ _ _ _) (entL_one _ _ _ _ _ _ _ _) ?_)
    refine bodyPost_ret (v := .agg (entL x.term x.version x.server x.kind x.good B m c').toArray) ?_ ?_ ?_
    · exact results_cell_row rfl _ _ (w.heap.size + 1) 62 _ (0, 0) _ rfl (setRow_heap _ _ _ _ _ _ HZ.out) Tryz.underlying62 rfl (infoEntL x.term x.version x.server x.kind x.good B m c')
    · rfl
    · unfold GotEnt
      rw [← HX.out]
      exact ⟨B, m, c', rfl, HO.out, HN.out, HG.out⟩
end Go.Proofs.YtfpjmeknjhhakaaGreat.K
