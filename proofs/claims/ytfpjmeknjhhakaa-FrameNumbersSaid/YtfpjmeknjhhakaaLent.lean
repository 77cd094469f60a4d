/- Contracts of barbicankit.LentBytes and KeptBytes. -/
import Derived.Test.YtfpjmeknjhhakaaBasic
namespace Go.Proofs.Ytfpjmeknjhhakaa.K
open Go Go.RowKit

theorem infoByte : (Try.prog.info? 5).map (fun i => (i.zero, i.size, i.bytes)) = some (some (.int .u8 0), 1, 1) := by kernel_rfl
/-- the marks of number k from place i on -/
def marks (k i n : Nat) : List (BitVec 8) := (List.range n).map fun j => markB k (i + j : Nat)
theorem marks_length (k i n : Nat) : (marks k i n).length = n := by simp [marks]
theorem marks_succ (k i n : Nat) : marks k i (n + 1) = marks k i n ++ [markB k (i + n : Nat)] := by simp [marks, List.range_succ]

theorem cell_last (w : World) (v : Value) (t : TypeId) : ∀ j u, [v][j]? = some u → (w.alloc (.cells #[v] t)).cell? ((⟨w.heap.size, 0, none⟩ : Addr).add j) = some u := by
  intro j u hu
  match j, hu with
  | 0, hu => simp at hu; subst hu; simp [Addr.add]

set_option maxHeartbeats 400000 in
theorem LentBytes_any (A : Option Addr) (n c : Nat) (bs : List (BitVec 8)) (w : World) (hr : Rd w A bs) (hn : bs.length = n) (hn2 : n ≤ 140737488000000) (hnone : A = none → c = 0) :
    Calls Try.prog 42 #[.slice A n c] w fun e w' => ∃ g, e = .returned (.slice (some ⟨g, 0, none⟩) n (n + 12)) ∧ w.heap.size ≤ g ∧
      w'.heap[g]? = some (.cells (bv (bs ++ marks 1 0 12)).toArray 5 (0, 0)) ∧ Below w.heap.size w w' := by
  obtain ⟨i0, hi, hz0, hz1, hz2⟩ := info_parts infoByte
  have hL : Hid ((bv bs).length = n * 1) := by show _ = _; rw [bv_length]; omega
  have hnone' : A = none → n = 0 ∧ c = 0 := fun h => ⟨by subst h; rw [hr.empty] at hn; simpa using hn.symm, hnone h⟩
  have HN := Lib.hid hnone'
  have hcells := hr.cells
  have HC := Lib.hid hcells
  clear hcells hnone hnone'
  have HR := Lib.hid hr
  have HLEN := Lib.hid hn
  clear hr hn
  go_enter Try.func42, Try.ntmps42
  go_wp2_with (first
    | (at_make; refine wpList_make_own _ rfl _ _ 27 rfl w.heap.size 5 i0 (.int .u8 0) 1 Try.underlying27 hi hz0 hz1 _ _ _ (n + 12) rfl rfl (by omega) (by rw [hz2]; omega) (by unfold maxLen; omega) (Nat.le_refl _) ?_; intro w1 hown1 hgrow1)
    | (at_builtin; refine wpList_append_fits_any _ rfl _ _ 27 rfl w.heap.size 5 i0 1 Try.underlying27 hi hz1 w.heap.size 0 (n + 12) [] rfl hown1 A n c (bv bs) rfl hL.out HN.out (fun ad had j u hu => hgrow1.cell (HC.out ad had j u hu) (by simp)) (bv_one bs) (by omega) ?_; intro w2 hown2 hgrow2))
  have hb2 : Below w.heap.size w w2 := ((Below.refl _ _).grown hgrow1 (Nat.le_refl _) (by simp)).grown hgrow2 hgrow1.size (by simp)
  clear hgrow1 hown1 hgrow2
  go_loopw [3, 4] (fun v i wr => ∃ k : Nat, k ≤ 12 ∧ i = .int .i64 k ∧ v = .slice (some ⟨w.heap.size, 0, none⟩) (n + k) (n + 12) ∧
      wr.ownsRow w.heap.size 5 1 (.slice (some ⟨w.heap.size, 0, none⟩) (n + k) (n + 12)) (n + k) (bv (bs ++ marks 1 0 k)) ∧ Below w.heap.size w wr) (fun _ i _ => 12 - (intOf i).toNat)
  case atStart => exact ⟨0, by omega, rfl, rfl, by simpa [marks] using hown2, hb2⟩
  case round =>
    clear hown2 hb2
    obtain ⟨k, hk, rfl, rfl, hown, hb⟩ := hrel
    by_cases hlt : k < 12
    · have i1 : (k : Int) < 12 := by omega
      go_wp2_with (first
        | (go_at_call 47; refine (markByte_any _ _ _).mono ?_; rintro e w' ⟨rfl, rfl⟩)
        | (at_builtin; refine wpList_append_fits _ rfl _ _ 27 rfl w.heap.size 5 i0 1 Try.underlying27 hi hz1 w.heap.size (n + k) (n + 12) (bv (bs ++ marks 1 0 k)) rfl (hown.alloc _) ⟨wr.heap.size, 0, none⟩ 1 1 [B8 (markB 1 k)] rfl rfl (cell_last _ _ _) (by intro u hu; simp at hu; subst hu; rfl) (by omega) ?_; intro w3 hown3 hgrow3))
      have hb3 : Below w.heap.size w w3 := (hb.alloc hb.size _).grown hgrow3 (by have := hb.size; simp; omega) (by simp)
      clear hgrow3 hb hown
      go_roundw
      case rel => exact ⟨k + 1, by omega, by go_num, by rw [Nat.add_assoc], by rw [marks_succ, ← List.append_assoc, bv_append, ← Nat.add_assoc]; simpa [bv] using hown3, hb3⟩
      case measure => simp [intOf]; omega
    · obtain rfl : k = 12 := by omega
      go_wp2
      go_ret
      have ⟨h1, h2⟩ := own_full hown
      exact ⟨_, rfl, h1, h2, hb⟩

/-- what KeptBytes looks at, place by place -/
theorem kept_at {bs : List (BitVec 8)} {k i n j : Nat} (hj : j < n) : (bs ++ marks k i n)[bs.length + j]? = some (markB k (i + j : Nat)) := by
  rw [List.getElem?_append_right (by omega)]
  simp [marks, hj]

set_option maxHeartbeats 400000 in
theorem KeptBytes_any (g : Nat) (A : Option Addr) (n c : Nat) (bs : List (BitVec 8)) (w : World) (hg : w.heap[g]? = some (.cells (bv (bs ++ marks 1 0 12)).toArray 5 (0, 0))) (hr : Rd w A bs) (hn : bs.length = n) (hn2 : n ≤ 140737488000000) :
    Calls Try.prog 18 #[.slice (some ⟨g, 0, none⟩) n (n + 12), .slice A n c] w fun e w' => e = .returned (.bool true) ∧ ∃ k, w' = w.drewN k := by
  subst hn
  have hR2 : Rd w (some ⟨g, 0, none⟩) (bs ++ marks 1 0 12) := Rd.of_block hg (by rw [← bv_length, List.take_length])
  have HG := Lib.hid hR2
  clear hR2 hg
  go_enter Try.func18, Try.ntmps18
  go_wp2
  go_loopw [6] (fun i wr => ∃ k : Nat, k ≤ bs.length + 12 ∧ i = .int .i64 k ∧ ∃ q, wr = w.drewN q) (fun i _ => bs.length + 12 - (intOf i).toNat)
  case atStart => exact ⟨0, Nat.zero_le _, rfl, 0, rfl⟩
  case round =>
    obtain ⟨k, hk, rfl, q, rfl⟩ := hrel
    have i0 : (0 : Int) ≤ (k : Int) := by omega
    rcases Nat.lt_or_ge k bs.length with h1 | h1
    · obtain ⟨b, o, rfl, hcx⟩ := hr k (by omega)
      obtain ⟨b', o', ea, hcy⟩ := HG.out k (by simp; omega)
      obtain ⟨rfl, rfl⟩ : g = b' ∧ 0 = o' := by simpa using ea
      rw [List.getElem_append_left (by omega)] at hcy
      have hcy' : w.cell? ⟨g, k, none⟩ = some (B8 (bs[k]'(by omega))) := by simpa using hcy
      have i1 : (k : Int) < (bs.length : Int) := by omega
      have d1 : decide ((k : Int) < (bs.length : Int)) = true := by simpa using i1
      have d2 : decide (bs.length ≤ k) = false := by simp; omega
      have d3 : decide (k < bs.length) = true := by simp; omega
      have i2 : (k : Int) < (bs.length : Int) + 12 := by omega
      clear hcy ea hr
      go_wp2
      go_quiet (fail)
      go_wp2
      go_roundw
      case rel => exact ⟨k + 1, by omega, by go_num, _, rfl⟩
      case measure => simp [intOf]; omega
    · rcases Nat.lt_or_ge k (bs.length + 12) with h2 | h2
      · obtain ⟨b', o', ea, hcy⟩ := HG.out k (by simp [marks_length]; omega)
        obtain ⟨rfl, rfl⟩ : g = b' ∧ 0 = o' := by simpa using ea
        have e1 := kept_at (bs := bs) (k := 1) (i := 0) (n := 12) (j := k - bs.length) (by omega)
        rw [show bs.length + (k - bs.length) = k by omega, List.getElem?_eq_getElem (by simp [marks_length]; omega)] at e1
        rw [Option.some.inj e1] at hcy
        have hcy' : w.cell? ⟨g, k, none⟩ = some (B8 (markB 1 ((k : Int) - (bs.length : Int)))) := by
          rw [show ((0 + (k - bs.length) : Nat) : Int) = (k : Int) - (bs.length : Int) by omega] at hcy
          simpa using hcy
        have i1 : (bs.length : Int) ≤ (k : Int) := by omega
        have d1 : decide (k < bs.length) = false := by simp; omega
        have d2 : decide (bs.length ≤ k) = true := by simp; omega
        have i2 : (k : Int) < (bs.length : Int) + 12 := by omega
        clear hcy ea hr e1
        go_wp2
        go_quiet ((go_at_call 47; exact q_add (markByte_any _ _ _)))
        go_wp2
        go_roundw
        case rel => exact ⟨k + 1, by omega, by go_num, _, rfl⟩
        case measure => simp [intOf]; omega
      · obtain rfl : k = bs.length + 12 := by omega
        have i2 : ¬ (((bs.length + 12 : Nat) : Int) < (bs.length : Int) + 12) := by omega
        go_wp2
        go_ret
        exact ⟨rfl, _, rfl⟩
end Go.Proofs.Ytfpjmeknjhhakaa.K
