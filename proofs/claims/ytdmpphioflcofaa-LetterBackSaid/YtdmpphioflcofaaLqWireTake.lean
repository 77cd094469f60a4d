/- The contract of the program's rest.take: bytes are taken, or it panics. -/
import Derived.Test.YtdmpphioflcofaaLq7
import Derived.Defers
import Derived.Recover
import Derived.WalkLawsBesides
namespace Go.Proofs.Ytdmpphioflcofaa.K
open Go Go.RowKit

def readP (A : Option Addr) (n c : Nat) (made bad : Bool) : List Value := [.slice A n c, .bool made, .bool bad]
/-- the block P is a reader of the program's whose left bytes are l -/
structure PrgR (w : World) (P : Nat) (l : List (BitVec 8)) (A : Option Addr) (n c : Nat) (made bad : Bool) : Prop where
  blk : ∃ t, w.heap[P]? = some (.cells (readP A n c made bad).toArray t (0, 0))
  rd : Rd w A l
  len : l.length = n
  none : A = Option.none → c = 0
  n_le : n ≤ 1000000000000
  cap : n ≤ c ∧ c ≤ 9223372036854775807
  ne : ∀ a, A = some a → a.block ≠ P
  form : ∀ a, A = some a → ∃ g o, a = ⟨g, o, Option.none⟩
theorem PrgR.cell {w : World} {P : Nat} {l : List (BitVec 8)} {A : Option Addr} {n c : Nat} {made bad : Bool} (h : PrgR w P l A n c made bad) {i : Nat} {v : Value} (hv : (readP A n c made bad)[i]? = some v) : w.cell? ⟨P, i, Option.none⟩ = some v := by
  obtain ⟨t, hb⟩ := h.blk
  exact block_cell hb hv
theorem PrgR.free {w : World} {P : Nat} {l : List (BitVec 8)} {A : Option Addr} {n c : Nat} {made bad : Bool} (h : PrgR w P l A n c made bad) (i : Nat) : w.frozen? ⟨P, i, Option.none⟩ = false := by
  obtain ⟨t, hb⟩ := h.blk
  exact frozen_of_row w P i _ t hb
theorem Rd.setCellP {w : World} {A : Option Addr} {l : List (BitVec 8)} (h : Rd w A l) {b i : Nat} (hb : ∀ a, A = some a → a.block ≠ b) (v : Value) : Rd (w.setCell ⟨b, i, none⟩ v) A l := fun k hk => by
  obtain ⟨g', o, e, hc⟩ := h k hk
  exact ⟨g', o, e, by rw [cell_setCell_ne _ (hb _ e)]; exact hc⟩
/-- what a panic bears -/
def shortP : List PanicEntry := [{ v := .iface 204 (.agg #[]), recovered := false }]

set_option maxHeartbeats 1000000 in
theorem take_bad (P : Nat) (l : List (BitVec 8)) (A : Option Addr) (n c : Nat) (made bad : Bool) (k : Int) (w : World) (h : PrgR w P l A n c made bad) (hk : k < 0 ∨ (n : Int) < k) :
    Calls Try.prog 117 #[.pointer (some ⟨P, 0, none⟩), .int .i64 k] w fun e w' => e = .panicked shortP ∧ w = w' := by
  have c0 : w.cell? ⟨P, 0, none⟩ = some (.slice A n c) := h.cell rfl
  clear h
  rcases hk with hk | hk
  · have d1 : decide (k < 0) = true := by simpa using hk
    go_enter Try.func117, Try.ntmps117
    go_wp2
    exact ⟨rfl, rfl, rfl⟩
  · have p1 : ¬ k < 0 := by omega
    have d1 : decide (k < 0) = false := by simpa using p1
    have d2 : decide ((n : Int) < k) = true := by simpa using hk
    go_enter Try.func117, Try.ntmps117
    go_wp2
    exact ⟨rfl, rfl, rfl⟩

/-- bytes were taken -/
def TakeOk (w : World) (P : Nat) (l : List (BitVec 8)) (A : Option Addr) (n c : Nat) (made bad : Bool) (k : Nat) (e : Ending) (w' : World) : Prop :=
  e = .returned (.slice A k c) ∧ (∃ A', PrgR w' P (l.drop k) A' (n - k) (c - k) made bad ∧ ∀ a', A' = some a' → ∃ a, A = some a ∧ a'.block = a.block) ∧ w.grownBy w' (some P) ∧ Rd w' A (l.take k)
theorem take_post {w : World} {P : Nat} {l : List (BitVec 8)} {A A' : Option Addr} {n c : Nat} {made bad : Bool} (h : PrgR w P l A n c made bad) {k : Nat} (hk : k ≤ n)
    (hA : (c = k ∧ A' = A) ∨ ∃ g o, A = some ⟨g, o, none⟩ ∧ A' = some ⟨g, o + k, none⟩) : TakeOk w P l A n c made bad k (.returned (.slice A k c)) (w.setCell ⟨P, 0, none⟩ (.slice A' (n - k) (c - k))) := by
  obtain ⟨t, hb⟩ := h.blk
  have hlen := h.len
  have hne' : ∀ a', A' = some a' → a'.block ≠ P := by
    intro a' e
    rcases hA with ⟨_, rfl⟩ | ⟨g, o, h1, h2⟩
    · exact h.ne a' e
    · rw [h2] at e; cases e
      exact h.ne ⟨g, o, none⟩ h1
  have hrd : Rd w A' (l.drop k) := by
    intro i hi
    have hi2 : k + i < l.length := by rw [List.length_drop] at hi; omega
    rcases hA with ⟨hc, rfl⟩ | ⟨g, o, h1, h2⟩
    · have := h.cap.1; omega
    · obtain ⟨b, o', e, hc⟩ := h.rd (k + i) hi2
      rw [h1] at e; cases e
      exact ⟨g, o + k, h2, by rw [Nat.add_assoc, hc]; simp⟩
  refine ⟨rfl, ⟨A', ⟨⟨t, block_set hb 0 _⟩, hrd.setCellP hne' _, by rw [List.length_drop]; omega, fun e => ?_, by have := h.n_le; omega, ⟨by have := h.cap; omega, by have := h.cap; omega⟩, hne', fun a e => ?_⟩, fun a' e => ?_⟩, grownBy_setCell w P 0 _, Rd.setCellP (fun i hi => ?_) h.ne _⟩
  · rcases hA with ⟨hc, _⟩ | ⟨g, o, _, h2⟩
    · omega
    · rw [h2] at e; cases e
  · rcases hA with ⟨_, rfl⟩ | ⟨g, o, _, h2⟩
    · exact h.form a e
    · rw [h2] at e; cases e; exact ⟨_, _, rfl⟩
  · rcases hA with ⟨_, rfl⟩ | ⟨g, o, h1, h2⟩
    · exact ⟨a', e, rfl⟩
    · rw [h2] at e; cases e; exact ⟨_, h1, rfl⟩
  · have hi2 : i < l.length := by rw [List.length_take] at hi; omega
    obtain ⟨b, o', e, hc⟩ := h.rd i hi2
    exact ⟨b, o', e, by rw [hc]; simp⟩

set_option maxHeartbeats 1000000 in
theorem take_ok (P : Nat) (l : List (BitVec 8)) (A : Option Addr) (n c : Nat) (made bad : Bool) (k : Nat) (w : World) (h : PrgR w P l A n c made bad) (hk : k ≤ n) :
    Calls Try.prog 117 #[.pointer (some ⟨P, 0, none⟩), .int .i64 (k : Int)] w (TakeOk w P l A n c made bad k) := by
  have c0 : w.cell? ⟨P, 0, none⟩ = some (.slice A n c) := h.cell rfl
  have f0 := h.free 0
  have hcap := h.cap
  have hnl := h.n_le
  have p1 : ¬ (k : Int) < 0 := by omega
  have p2 : ¬ (n : Int) < (k : Int) := by omega
  have p3 : (k : Int) ≤ (c : Int) := by omega
  have p4 : (k : Int) ≤ (n : Int) := by omega
  have p0 : (0 : Int) ≤ (k : Int) := by omega
  have H := Lib.hid h
  clear h
  by_cases hck : c = k
  · have hp := take_post H.out hk (A' := A) (.inl ⟨hck, rfl⟩)
    have hnk : n = k := by omega
    subst hnk
    subst hck
    simp only [Nat.sub_self] at hp
    have HP := Lib.hid hp
    clear hp
    go_enter Try.func117, Try.ntmps117
    go_wp2
    go_ret
    exact HP.out
  · obtain ⟨ad, rfl⟩ : ∃ ad, A = some ad := by
      cases A with
      | some ad => exact ⟨ad, rfl⟩
      | none => have h1 := H.out.none rfl; omega
    obtain ⟨g, o, rfl⟩ := H.out.form ad rfl
    have hp := take_post H.out hk (A' := some ⟨g, o + k, none⟩) (.inr ⟨g, o, rfl, rfl⟩)
    have HP := Lib.hid hp
    clear hp
    go_enter Try.func117, Try.ntmps117
    go_wp2
    go_ret
    exact HP.out

/-- a number was read -/
def NumOk (w : World) (P : Nat) (l : List (BitVec 8)) (A : Option Addr) (n c : Nat) (made bad : Bool) (e : Ending) (w' : World) : Prop :=
  e = .returned (.int .i64 (M.val (l.take 8))) ∧ (∃ A', PrgR w' P (l.drop 8) A' (n - 8) (c - 8) made bad ∧ ∀ a', A' = some a' → ∃ a, A = some a ∧ a'.block = a.block) ∧ w.grownBy w' (some P)
theorem PrgR.drewN {w : World} {P : Nat} {l : List (BitVec 8)} {A : Option Addr} {n c : Nat} {made bad : Bool} (h : PrgR w P l A n c made bad) (q : Nat) : PrgR (w.drewN q) P l A n c made bad :=
  ⟨h.blk, h.rd, h.len, h.none, h.n_le, h.cap, h.ne, h.form⟩
theorem conv_W64_int' {P : Program} (w : World) (src dst : TypeId) (x : BitVec 64) (hs : P.underlying src = some (.int .u64)) (hd : P.underlying dst = some (.int .i64)) : (convert src dst (W64 x)).run P w = .ok (.int .i64 x.toInt) w := by
  have h : IntKind.i64.wrap (x.toNat : Int) = x.toInt := by
    rw [BitVec.toInt_eq_toNat_bmod]
    simp [IntKind.wrap, IntKind.bits, IntKind.signed, Int.bmod]
    split <;> split <;> omega
  simp [convert, run_underlying hs, run_underlying hd, Conv.intToInt, W64, h]

set_option maxHeartbeats 1000000 in
theorem pnum_bad (P : Nat) (l : List (BitVec 8)) (A : Option Addr) (n c : Nat) (made bad : Bool) (w : World) (h : PrgR w P l A n c made bad) (hn : n < 8) :
    Calls Try.prog 105 #[.pointer (some ⟨P, 0, none⟩)] w fun e w' => e = .panicked shortP ∧ w = w' := by
  have H := Lib.hid h
  clear h
  go_enter Try.func105, Try.ntmps105
  go_wp2_with fail
  refine (take_bad P l A n c made bad 8 w H.out (by omega)).mono ?_
  rintro e w' ⟨rfl, rfl⟩
  go_wp2
  exact ⟨rfl, rfl, rfl⟩

set_option maxHeartbeats 1000000 in
theorem pnum_ok (P : Nat) (l : List (BitVec 8)) (A : Option Addr) (n c : Nat) (made bad : Bool) (w : World) (h : PrgR w P l A n c made bad) (hn : 8 ≤ n) :
    Calls Try.prog 105 #[.pointer (some ⟨P, 0, none⟩)] w (NumOk w P l A n c made bad) := by
  have hlen := h.len
  have H := Lib.hid h; have HLEN := Lib.hid hlen
  clear h hlen
  go_enter Try.func105, Try.ntmps105
  go_wp2_with fail
  refine (take_ok P l A n c made bad 8 w H.out hn).mono ?_
  rintro e w1 ⟨rfl, ⟨A', hpr, hA'⟩, hg, hrd⟩
  have hl8 : (l.take 8).length = 8 := by have := HLEN.out; rw [List.length_take]; omega
  obtain ⟨b, o, rfl, _, hD⟩ := hrd.lay (by omega)
  rw [hl8] at hD
  have HPR := Lib.hid hpr; have HG := Lib.hid hg; have HD := Lib.hid hD; have HL8 := Lib.hid hl8; have HA := Lib.hid hA'
  clear hpr hg hrd hD hl8 hA'
  go_wp2
  go_loopw [3, 5, 9] (fun v _ i wr => ∃ k : Nat, k ≤ 8 ∧ i = .int .i64 (k : Int) ∧ v = W64 (M.w64 ((l.take 8).take k)) ∧ w1 = wr) (fun _ _ i _ => 8 - (intOf i).toNat)
  case atStart => exact ⟨0, by omega, rfl, rfl, rfl⟩
  case round =>
    obtain ⟨k, hk, rfl, rfl, rfl⟩ := hrel
    have k0 : (0 : Int) ≤ (k : Int) := by omega
    rcases Nat.lt_or_ge k 8 with h9 | h9
    · have k1 : (k : Int) < 8 := by omega
      have cx : w1.cell? ⟨b, o + k, none⟩ = some (B8 ((l.take 8).getD k 0)) := HD.out k h9
      go_wp2
      go_roundw
      case rel =>
        refine ⟨k + 1, by omega, by go_num, ?_, by trivial⟩
        have hl := HL8.out
        have hk' : k < (l.take 8).length := by rw [hl]; exact h9
        rw [show (l.take 8).take (k + 1) = (l.take 8).take k ++ [(l.take 8)[k]] from List.take_succ_eq_append_getElem hk', M.w64_snoc, ← M.shift_or]
        have hk2 : k < l.length := by have := HLEN.out; omega
        congr 2
        simp [hk2]
      case measure => simp [intOf]; omega
    · have hk8 : k = 8 := by omega
      have k1 : ¬ (k : Int) < 8 := by omega
      have hcv := fun w => conv_W64_int' (P := Try.prog) w 88 3 (M.w64 ((l.take 8).take k)) Try.underlying88 Try.underlying3
      have HK8 := Lib.hid hk8
      clear hk8
      go_wp2
      go_ret
      refine ⟨?_, ⟨A', HPR.out, HA.out⟩, HG.out⟩
      have e : M.val (l.take 8) = (M.w64 ((l.take 8).take k)).toInt := by rw [HK8.out, List.take_take]; rfl
      rw [e]; rfl
end Go.Proofs.Ytdmpphioflcofaa.K
