/- Contracts of the reference's great numbers: times, above. -/
import Derived.Test.YtjnhfmicadcmnaaDoorBasic
import Derived.Test.YtjnhfmicadcmnaaDoorRefMath
namespace Go.Proofs.YtjnhfmicadcmnaaDoor.K
open Go Go.RowKit

/-- The slice whose address is A reads the limbs l in w. -/
def RdU (w : World) (A : Option Addr) (l : List (BitVec 64)) : Prop :=
  ∀ k (h : k < l.length), ∃ b o, A = some ⟨b, o, none⟩ ∧ w.cell? ⟨b, o + k, none⟩ = some (W64 l[k])
theorem RdU.lay {w : World} {A : Option Addr} {l : List (BitVec 64)} (h : RdU w A l) (hp : 0 < l.length) :
    ∃ b o, A = some ⟨b, o, none⟩ ∧ b < w.heap.size ∧ ∀ i, i < l.length → w.cell? ⟨b, o + i, none⟩ = some (W64 (M.atU l i)) := by
  obtain ⟨b, o, e, hc⟩ := h 0 hp
  refine ⟨b, o, e, block_lt_of_cell hc, fun i hi => ?_⟩
  obtain ⟨b', o', e', h'⟩ := h i hi
  rw [e] at e'
  obtain ⟨rfl, rfl⟩ : b = b' ∧ o = o' := by simpa using e'
  rw [h', M.atU, List.getD_eq_getElem?_getD, List.getElem?_eq_getElem hi]; rfl
theorem RdU.below {w w' : World} {A : Option Addr} {l : List (BitVec 64)} (h : RdU w A l) (hb : Below w.heap.size w w') : RdU w' A l := fun k hk => by
  obtain ⟨b, o, e, hc⟩ := h k hk
  exact ⟨b, o, e, (hb.cell (block_lt_of_cell hc)).trans hc⟩
/-- limbs as cells -/
def uv (l : List (BitVec 64)) : List Value := l.map W64
theorem uv_length (l : List (BitVec 64)) : (uv l).length = l.length := by simp [uv]
theorem uv_at {l : List (BitVec 64)} {i : Nat} (h : i < l.length) : (uv l)[i]? = some (W64 (M.atU l i)) := by
  simp [uv, M.atU, h]
theorem uv_set (l : List (BitVec 64)) (i : Nat) (x : BitVec 64) : uv (l.set i x) = (uv l).set i (W64 x) := by simp [uv]
theorem uv_one (l : List (BitVec 64)) : ∀ u ∈ uv l, u.oneCell' = true := by
  intro u hu
  obtain ⟨_, _, rfl⟩ := List.mem_map.1 hu
  rfl
theorem RdU.of_block {w : World} {g : Nat} {t : TypeId} {fr : Nat × Nat} {l : List (BitVec 64)} (hg : w.heap[g]? = some (.cells (uv l).toArray t fr)) : RdU w (some ⟨g, 0, none⟩) l := by
  intro k hk
  refine ⟨g, 0, rfl, ?_⟩
  rw [cell_of_row w g (0 + k) _ _ _ hg, Nat.zero_add, List.getElem?_toArray]
  simp [uv, hk]
theorem infoU : (Tryd.prog.info? 43).map (fun i => (i.zero, i.size, i.bytes)) = some (some (.int .u64 0), 1, 8) := by kernel_rfl
theorem made_blockU {w w1 : World} {T : Nat} (h : w1.ownsRow w.heap.size 43 1 (.slice (some ⟨w.heap.size, 0, none⟩) T T) T (madeCells (Value.int .u64 0).cells (T * 1)).toList) :
    w1.heap[w.heap.size]? = some (.cells (uv (List.replicate T 0#64)).toArray 43 (0, 0)) := by
  have e := (own_full h).2
  rw [Nat.mul_one, show (Value.int .u64 0).cells = #[Value.int .u64 0] from rfl, toList_madeCells_one] at e
  rw [e, uv, List.map_replicate]; rfl
theorem W64_const (n : Nat) (x : BitVec 64) (h : x.toNat = n) : Value.int .u64 (n : Int) = W64 x := by rw [W64, h]

theorem and_mask (t : TypeId) (x : BitVec 64) : binOp .and t (W64 x) (.int .u64 4294967295) = pure (W64 (x &&& M.mask)) := W64_and t x M.mask
attribute [go_sem] and_mask

set_option maxHeartbeats 2000000 in
set_option maxRecDepth 100000 in
theorem times_any (A B : Option Addr) (n m c d : Nat) (a b : List (BitVec 64)) (w : World) (ha : RdU w A a) (hb : RdU w B b) (hn : a.length = n) (hm : b.length = m) (hn2 : n ≤ 1000000) (hm2 : m ≤ 1000000) :
    Calls Tryd.prog 66 #[.slice A n c, .slice B m d] w fun e w' => ∃ g, e = .returned (.slice (some ⟨g, 0, none⟩) (n + m) (n + m)) ∧ w.heap.size ≤ g ∧
      w'.heap[g]? = some (.cells (uv (M.times a b)).toArray 43 (0, 0)) ∧ Below w.heap.size w w' := by
  subst hn hm
  obtain ⟨i0, hi, hz0, hz1, hz2⟩ := info_parts infoU
  have HA := Lib.hid ha; have HB := Lib.hid hb
  clear ha hb
  go_enter Tryd.func66, Tryd.ntmps66
  go_wp2_with (at_make; refine wpList_make_full _ rfl _ _ 40 rfl w.heap.size 43 i0 (.int .u64 0) 1 Tryd.underlying40 hi hz0 hz1 _ _ _ _ (a.length + b.length) rfl rfl (by omega) (by omega) (by rw [hz2]; omega) (by unfold maxLen; omega) (Nat.le_refl _) ?_; intro w1 hown1 hgrow1)
  have hg1 := made_blockU hown1
  have hb1 := (Below.refl w.heap.size w).grown hgrow1 (Nat.le_refl _) (by simp)
  clear hown1 hgrow1
  go_loopw [6] (fun i wr => ∃ k : Nat, k ≤ a.length ∧ i = .int .i64 k ∧ wr.heap[w.heap.size]? = some (.cells (uv (M.timesTo a b k)).toArray 43 (0, 0)) ∧ Below w.heap.size w wr) (fun i _ => a.length - (intOf i).toNat)
  case atStart => exact ⟨0, Nat.zero_le _, rfl, hg1, hb1⟩
  case round =>
    clear hg1 hb1
    obtain ⟨i, hil, rfl, hg, hb⟩ := hrel
    have p0 : (0 : Int) ≤ (i : Int) := by omega
    rcases Nat.lt_or_ge i a.length with h1 | h1
    · have p1 : (i : Int) < (a.length : Int) := by omega
      have d1 : decide (i < a.length) = true := by simpa using h1
      obtain ⟨ab, ao, rfl, hab, hac⟩ := HA.out.lay (by omega)
      have HAC := Lib.hid hac; have HG := Lib.hid hg; have HBW := Lib.hid hb
      clear hac hg hb
      go_wp2
      obtain ⟨wo, hwo⟩ : ∃ wo, wo = wr := ⟨_, rfl⟩
      go_loopw [7, 8] (fun v i' wx => ∃ k : Nat, k ≤ b.length ∧ i' = .int .i64 k ∧ v = W64 (M.rowTo (M.atU a i) b i (M.timesTo a b i) k).2 ∧
        wx.heap[w.heap.size]? = some (.cells (uv (M.rowTo (M.atU a i) b i (M.timesTo a b i) k).1).toArray 43 (0, 0)) ∧ Below w.heap.size w wx) (fun _ i' _ => b.length - (intOf i').toNat)
      case atStart => exact ⟨0, Nat.zero_le _, rfl, rfl, HG.out, HBW.out⟩
      case round =>
        clear hwo
        obtain ⟨k, hkl, rfl, rfl, hg, hb⟩ := hrel
        have p2 : (0 : Int) ≤ (k : Int) := by omega
        obtain ⟨s, hs⟩ : ∃ s, s = M.rowTo (M.atU a i) b i (M.timesTo a b i) k := ⟨_, rfl⟩
        rw [← hs] at hg
        rw [← hs]
        have hsl : s.1.length = a.length + b.length := by rw [hs, M.rowTo_length, M.timesTo_length]
        have HS := Lib.hid hs; clear hs
        rcases Nat.lt_or_ge k b.length with h2 | h2
        · have p3 : (k : Int) < (b.length : Int) := by omega
          obtain ⟨bb, bo, rfl, hbb, hbc⟩ := HB.out.lay (by omega)
          have ca : wr.cell? ⟨ab, ao + i, none⟩ = some (W64 (M.atU a i)) := (hb.cell hab).trans (HAC.out i h1)
          have cb : wr.cell? ⟨bb, bo + k, none⟩ = some (W64 (M.atU b k)) := (hb.cell hbb).trans (hbc k h2)
          have co : wr.cell? ⟨w.heap.size, i + k, none⟩ = some (W64 (M.atU s.1 (i + k))) := block_cell hg (uv_at (by omega))
          have fo : wr.frozen? ⟨w.heap.size, i + k, none⟩ = false := frozen_of_row wr _ _ _ _ hg
          have p4 : (i : Int) + (k : Int) < (a.length : Int) + (b.length : Int) := by omega
          have p5 : (0 : Int) ≤ (i : Int) + (k : Int) := by omega
          have HG' := Lib.hid hg; have HBC := Lib.hid hbc; have HSL := Lib.hid hsl
          clear hg hbc hsl
          go_wp2
          go_quiet (fail)
          have co' : ∀ q, (wr.drewN q).cell? ⟨w.heap.size, i + k, none⟩ = some (W64 (M.atU s.1 (i + k))) := fun _ => co
          have fo' : ∀ q, (wr.drewN q).frozen? ⟨w.heap.size, i + k, none⟩ = false := fun _ => fo
          go_wp2_with (with_reducible refine wpList_store_one rfl 43 (.tmp 52) (.tmp 51) rfl ⟨w.heap.size, i + k, none⟩ (W64 _) _ rfl rfl (oneW64 _) (by kernel_rfl) (co' _) (fo' _) ?_)
          go_roundw
          case rel =>
            have e : M.rowTo (M.atU a i) b i (M.timesTo a b i) (k + 1) = (s.1.set (i + k) ((M.atU s.1 (i + k) + M.atU a i * M.atU b k + s.2) &&& M.mask), (M.atU s.1 (i + k) + M.atU a i * M.atU b k + s.2) >>> 32) := by
              rw [M.rowTo, ← HS.out]
            refine ⟨k + 1, by omega, by go_num, by rw [e], ?_, (below_drewN hb _).setCell (p := ⟨w.heap.size, i + k, none⟩) (Nat.le_refl _) _⟩
            rw [e, uv_set]
            exact block_set (w := wr.drewN _) HG'.out _ _
          case measure => simp [intOf]; omega
        · have hkb : k = b.length := by omega
          have p3 : ¬ (k : Int) < (b.length : Int) := by omega
          have d3 : decide (k < b.length) = false := by simp; omega
          have p4 : (i : Int) + (b.length : Int) < (a.length : Int) + (b.length : Int) := by omega
          have co : wr.cell? ⟨w.heap.size, i + b.length, none⟩ = some (W64 (M.atU s.1 (i + b.length))) := block_cell hg (uv_at (by omega))
          have fo : wr.frozen? ⟨w.heap.size, i + b.length, none⟩ = false := frozen_of_row wr _ _ _ _ hg
          have HKB := Lib.hid hkb; have HG' := Lib.hid hg
          clear hkb hg hsl
          go_wp2_with (with_reducible refine wpList_store_one rfl 43 (.tmp 61) (.tmp 60) rfl ⟨w.heap.size, i + b.length, none⟩ (W64 _) _ rfl rfl (oneW64 _) (by kernel_rfl) co fo ?_)
          go_roundw
          case rel =>
            refine ⟨i + 1, by omega, by go_num, ?_, hb.setCell (p := ⟨w.heap.size, i + b.length, none⟩) (Nat.le_refl _) _⟩
            have e : M.timesTo a b (i + 1) = s.1.set (i + b.length) s.2 := by rw [M.timesTo, HS.out, HKB.out]
            rw [e, uv_set]
            exact block_set HG'.out _ _
          case measure => simp [intOf]; omega
    · have hi2 : i = a.length := by omega
      have p1 : ¬ (i : Int) < (a.length : Int) := by omega
      have d1 : decide (i < a.length) = false := by simp; omega
      have HI := Lib.hid hi2; clear hi2
      have HG := Lib.hid hg; clear hg
      go_wp2
      go_ret
      refine ⟨w.heap.size, rfl, Nat.le_refl _, ?_, hb⟩
      rw [M.times, ← HI.out]
      exact HG.out

theorem atU_zero {l : List (BitVec 64)} {k : Nat} (h : l.length ≤ k) : M.atU l k = 0 := by simp [M.atU, h]
theorem W64_zero : Value.int .u64 0 = W64 0#64 := rfl
theorem above_step {a b : List (BitVec 64)} {k : Nat} {r : Bool} (h : M.aboveFrom a b (k + 1) = r) (hx : M.atU a k = M.atU b k) : M.aboveFrom a b k = r := by
  rw [← h, M.aboveFrom, if_neg (by simpa using hx)]
theorem above_hit {a b : List (BitVec 64)} {k : Nat} {r : Bool} (h : M.aboveFrom a b (k + 1) = r) (hx : M.atU a k ≠ M.atU b k) : decide (M.atU b k < M.atU a k) = r := by
  rw [← h, M.aboveFrom, if_pos hx]

set_option maxHeartbeats 2000000 in
set_option maxRecDepth 100000 in
theorem above_any (A B : Option Addr) (n m c d : Nat) (a b : List (BitVec 64)) (w : World) (ha : RdU w A a) (hb : RdU w B b) (hn : a.length = n) (hm : b.length = m) (hn2 : n ≤ 1000000) (hm2 : m ≤ 1000000) :
    Calls Tryd.prog 67 #[.slice A n c, .slice B m d] w fun e w' => e = .returned (.bool (M.above a b)) ∧ w = w' := by
  subst hn hm
  have HA := Lib.hid ha; have HB := Lib.hid hb
  clear ha hb
  obtain ⟨T, hT⟩ : ∃ T, T = max a.length b.length := ⟨_, rfl⟩
  have hT1 : a.length ≤ T := by omega
  have hT2 : b.length ≤ T := by omega
  have hT4 : T ≤ a.length ∨ T ≤ b.length := by omega
  have HT := Lib.hid hT
  have HT4 := Lib.hid hT4
  have HT5 : Hid (M.aboveFrom a b T = M.above a b) := by show _ = _; rw [M.above, hT]
  clear hT hT4
  go_enter Tryd.func67, Tryd.ntmps67
  go_wp2
  all_goals
    go_loop [5] (fun i => ∃ v : Int, i = .int .i64 v ∧ -1 ≤ v ∧ v < (T : Int) ∧ M.aboveFrom a b (v + 1).toNat = M.above a b) (fun i => (intOf i + 1).toNat)
    case atStart =>
      first
        | exact ⟨(b.length : Int) - 1, rfl, by omega, by omega, by rw [← HT5.out, show ((b.length : Int) - 1 + 1).toNat = T by have := HT.out; omega]⟩
        | exact ⟨(a.length : Int) - 1, rfl, by omega, by omega, by rw [← HT5.out, show ((a.length : Int) - 1 + 1).toNat = T by have := HT.out; omega]⟩
    case round =>
      obtain ⟨v, rfl, hv1, hv2, hv⟩ := hrel
      rcases Int.lt_or_le v 0 with h0 | h0
      · have q0 : ¬ (0 : Int) ≤ v := by omega
        have HV := Lib.hid hv; clear hv
        go_wp2
        go_ret
        refine ⟨?_, rfl⟩
        rw [← HV.out, show (v + 1).toNat = 0 by omega]; rfl
      · obtain ⟨k, rfl⟩ := Int.eq_ofNat_of_zero_le h0
        rw [show ((k : Int) + 1).toNat = k + 1 by omega] at hv
        have HV := Lib.hid hv; clear hv
        have hlt : k < T := by omega
        by_cases ka : k < a.length
        · obtain ⟨ab, ao, rfl, _, hac⟩ := HA.out.lay (by omega)
          have ca := hac k ka
          have HAC := Lib.hid hac; clear hac
          have q1 : (k : Int) < (a.length : Int) := by omega
          have d1 : decide (k < a.length) = true := by simpa using ka
          by_cases kb : k < b.length
          · obtain ⟨bb, bo, rfl, _, hbc⟩ := HB.out.lay (by omega)
            have cb := hbc k kb
            have q2 : (k : Int) < (b.length : Int) := by omega
            have d2 : decide (k < b.length) = true := by simpa using kb
            clear hbc
            go_wp2
            · go_ret
              have hne : (M.atU a k != M.atU b k) = true := by assumption
              exact ⟨by rw [← above_hit HV.out (by simpa using hne)]; rfl, rfl⟩
            · have heq : (M.atU a k != M.atU b k) = false := by assumption
              go_round
              case rel => exact ⟨(k : Int) - 1, rfl, by omega, by omega, by rw [show ((k : Int) - 1 + 1).toNat = k by omega]; exact above_step HV.out (by simpa using heq)⟩
              case measure => simp [intOf]
          · have q2 : ¬ (k : Int) < (b.length : Int) := by omega
            have d2 : decide (k < b.length) = false := by simpa using kb
            have ez := atU_zero (l := b) (k := k) (by omega)
            have EZ := Lib.hid ez; clear ez
            have n1 : ∀ (t : TypeId) (x : BitVec 64), binOp .neq t (W64 x) (.int .u64 0) = pure (.bool (x != 0#64)) := fun t x => W64_neq t x 0#64
            have n2 : ∀ (t : TypeId) (x : BitVec 64), binOp .gtr t (W64 x) (.int .u64 0) = pure (.bool (decide (0#64 < x))) := fun t x => W64_gtr t x 0#64
            go_wp2
            all_goals first
              | (have hne : (M.atU a k != 0#64) = true := by assumption
                 go_ret
                 exact ⟨by rw [← above_hit HV.out (by rw [EZ.out]; simpa using hne), EZ.out]; rfl, rfl⟩)
              | (have heq : (M.atU a k != 0#64) = false := by assumption
                 go_round
                 case rel => exact ⟨(k : Int) - 1, rfl, by omega, by omega, by rw [show ((k : Int) - 1 + 1).toNat = k by omega]; exact above_step HV.out (by rw [EZ.out]; simpa using heq)⟩
                 case measure => simp [intOf])
        · have kb : k < b.length := by have := HT4.out; omega
          obtain ⟨bb, bo, rfl, _, hbc⟩ := HB.out.lay (by omega)
          have cb := hbc k kb
          have q2 : (k : Int) < (b.length : Int) := by omega
          have d2 : decide (k < b.length) = true := by simpa using kb
          clear hbc
          have q1 : ¬ (k : Int) < (a.length : Int) := by omega
          have d1 : decide (k < a.length) = false := by simpa using ka
          have ez := atU_zero (l := a) (k := k) (by omega)
          have EZ := Lib.hid ez; clear ez
          have n1 : ∀ (t : TypeId) (x : BitVec 64), binOp .neq t (.int .u64 0) (W64 x) = pure (.bool (0#64 != x)) := fun t x => W64_neq t 0#64 x
          have n2 : ∀ (t : TypeId) (x : BitVec 64), binOp .gtr t (.int .u64 0) (W64 x) = pure (.bool (decide (x < 0#64))) := fun t x => W64_gtr t 0#64 x
          go_wp2
          all_goals first
            | (have hne : (0#64 != M.atU b k) = true := by assumption
               go_ret
               exact ⟨by rw [← above_hit HV.out (by rw [EZ.out]; simpa using hne), EZ.out]; rfl, rfl⟩)
            | (have heq : (0#64 != M.atU b k) = false := by assumption
               go_round
               case rel => exact ⟨(k : Int) - 1, rfl, by omega, by omega, by rw [show ((k : Int) - 1 + 1).toNat = k by omega]; exact above_step HV.out (by rw [EZ.out]; simpa using heq)⟩
               case measure => simp [intOf])
end Go.Proofs.YtjnhfmicadcmnaaDoor.K
