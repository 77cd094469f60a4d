/- Merged: RefMath, RefTimes, RefRoot, RefLow, RefRoots, RefMsg, RefWords. -/
import Derived.Test.YtidcfjmibljkeaaGreatDoorBq4
import Derived.Deep.RegionHeld3
import Derived.Deep.AppendLies
/- The reference's great numbers as plain Lean functions on words of 64 bits (limbs), step by step as its text goes. No program in sight. -/
namespace Go.Proofs.YtidcfjmibljkeaaGreatDoor.M

abbrev U := BitVec 64
def atU (l : List U) (i : Nat) : U := l.getD i 0
def mask : U := 4294967295

/-- one row of the product: k limbs of b done, out and what is carried over -/
def rowTo (ai : U) (b : List U) (i : Nat) (out : List U) : Nat → List U × U
  | 0 => (out, 0)
  | k + 1 =>
    let s := rowTo ai b i out k
    let x := atU s.1 (i + k) + ai * atU b k + s.2
    (s.1.set (i + k) (x &&& mask), x >>> 32)
/-- the product when i rows are done -/
def timesTo (a b : List U) : Nat → List U
  | 0 => List.replicate (a.length + b.length) 0
  | i + 1 =>
    let s := rowTo (atU a i) b i (timesTo a b i) b.length
    s.1.set (i + b.length) s.2
def times (a b : List U) : List U := timesTo a b a.length
theorem rowTo_length (ai : U) (b : List U) (i : Nat) (out : List U) (k : Nat) : (rowTo ai b i out k).1.length = out.length := by
  induction k with
  | zero => rfl
  | succ k ih => simp [rowTo, ih]
theorem timesTo_length (a b : List U) (i : Nat) : (timesTo a b i).length = a.length + b.length := by
  induction i with
  | zero => simp [timesTo]
  | succ i ih => simp [timesTo, rowTo_length, ih]

/-- is one above another one, from limb i - 1 down -/
def aboveFrom (a b : List U) : Nat → Bool
  | 0 => false
  | i + 1 => if atU a i ≠ atU b i then decide (atU b i < atU a i) else aboveFrom a b i
def above (a b : List U) : Bool := aboveFrom a b (max a.length b.length)

def limbs (x : U) : List U := [x &&& mask, x >>> 32]
/-- the power's limbs when so many products are done -/
def powTo (n : List U) : Nat → List U
  | 0 => n
  | i + 1 => times (powTo n i) n
def goal (p : U) (power : Nat) : List U := List.replicate power 0 ++ [p]
/-- the root when the bits from 36 down, so many of them, are done -/
def rootTo (p : U) (power : Nat) : Nat → U
  | 0 => 0
  | j + 1 =>
    let x := rootTo p power j
    let try' := x ||| ((1 : U) <<< (36 - j))
    if above (powTo (limbs try') (power - 1)) (goal p power) then x else try'
def root (p : U) (power : Nat) : U := rootTo p power 37 &&& mask

/-- is n prime: divisors from k on, so many of them at the most -/
def primeFrom (n : Nat) : Nat → Nat → Bool
  | 0, _ => decide (1 < n)
  | f + 1, k => if k * k ≤ n then (if n % k = 0 then false else primeFrom n f (k + 1)) else decide (1 < n)
def prime (n : Nat) : Bool := primeFrom n n 2
/-- the roots of the primes below p -/
def rootsTo (power : Nat) : Nat → List U
  | 0 => []
  | p + 1 => if prime p then rootsTo power p ++ [root (BitVec.ofNat 64 p) power] else rootsTo power p
theorem roots8 : rootsTo 2 20 = first.list.map (·.setWidth 64) := by decide +kernel
theorem roots64 : rootsTo 3 312 = kList.map (·.setWidth 64) := by decide +kernel
end Go.Proofs.YtidcfjmibljkeaaGreatDoor.M

/- Contracts of the reference's great numbers: times, above. -/
namespace Go.Proofs.YtidcfjmibljkeaaGreatDoor.K
open Go Go.RowKit

/-- The slice whose address is A reads the limbs l in w. -/
def RdU (w : World) (A : Option Addr) (l : List (BitVec 64)) : Prop :=
  ∀ k (h : k < l.length), ∃ b o, A = some ⟨b, o, none⟩ ∧ w.cell? ⟨b, o + k, none⟩ = some (W64 l[k])
theorem RdU.lay {w : World} {A : Option Addr} {l : List (BitVec 64)} (h : RdU w A l) (hp : 0 < l.length) :
    ∃ b o, A = some ⟨b, o, none⟩ ∧ b < w.heap.size ∧ ∀ i, i < l.length → w.cell? ⟨b, o + i, none⟩ = some (W64 (M.atU l i)) := by
  obtain ⟨b, o, e, hc⟩ := h 0 hp
  refine ⟨b, o, e, block_lt_of_cell hc, fun i hi => ?_⟩
  obtain ⟨b', o', e', h'⟩ := h i hi
  rw [e] at e'
  obtain ⟨rfl, rfl⟩ : b = b' ∧ o = o' := by simpa using e'
  rw [h', M.atU, List.getD_eq_getElem?_getD, List.getElem?_eq_getElem hi]; rfl
theorem RdU.below {w w' : World} {A : Option Addr} {l : List (BitVec 64)} (h : RdU w A l) (hb : Below w.heap.size w w') : RdU w' A l := fun k hk => by
  obtain ⟨b, o, e, hc⟩ := h k hk
  exact ⟨b, o, e, (hb.cell (block_lt_of_cell hc)).trans hc⟩
/-- limbs as cells -/
def uv (l : List (BitVec 64)) : List Value := l.map W64
theorem uv_length (l : List (BitVec 64)) : (uv l).length = l.length := by simp [uv]
theorem uv_at {l : List (BitVec 64)} {i : Nat} (h : i < l.length) : (uv l)[i]? = some (W64 (M.atU l i)) := by
  simp [uv, M.atU, h]
theorem uv_set (l : List (BitVec 64)) (i : Nat) (x : BitVec 64) : uv (l.set i x) = (uv l).set i (W64 x) := by simp [uv]
theorem uv_one (l : List (BitVec 64)) : ∀ u ∈ uv l, u.oneCell' = true := by
  intro u hu
  obtain ⟨_, _, rfl⟩ := List.mem_map.1 hu
  rfl
theorem RdU.of_block {w : World} {g : Nat} {t : TypeId} {fr : Nat × Nat} {l : List (BitVec 64)} (hg : w.heap[g]? = some (.cells (uv l).toArray t fr)) : RdU w (some ⟨g, 0, none⟩) l := by
  intro k hk
  refine ⟨g, 0, rfl, ?_⟩
  rw [cell_of_row w g (0 + k) _ _ _ hg, Nat.zero_add, List.getElem?_toArray]
  simp [uv, hk]
theorem infoU : (Tryz.prog.info? 93).map (fun i => (i.zero, i.size, i.bytes)) = some (some (.int .u64 0), 1, 8) := by kernel_rfl
theorem made_blockU {w w1 : World} {T : Nat} (h : w1.ownsRow w.heap.size 93 1 (.slice (some ⟨w.heap.size, 0, none⟩) T T) T (madeCells (Value.int .u64 0).cells (T * 1)).toList) :
    w1.heap[w.heap.size]? = some (.cells (uv (List.replicate T 0#64)).toArray 93 (0, 0)) := by
  have e := (own_full h).2
  rw [Nat.mul_one, show (Value.int .u64 0).cells = #[Value.int .u64 0] from rfl, toList_madeCells_one] at e
  rw [e, uv, List.map_replicate]; rfl
theorem W64_const (n : Nat) (x : BitVec 64) (h : x.toNat = n) : Value.int .u64 (n : Int) = W64 x := by rw [W64, h]

theorem and_mask (t : TypeId) (x : BitVec 64) : binOp .and t (W64 x) (.int .u64 4294967295) = pure (W64 (x &&& M.mask)) := W64_and t x M.mask
attribute [go_sem] and_mask

set_option maxHeartbeats 2000000 in
set_option maxRecDepth 100000 in
theorem times_any (A B : Option Addr) (n m c d : Nat) (a b : List (BitVec 64)) (w : World) (ha : RdU w A a) (hb : RdU w B b) (hn : a.length = n) (hm : b.length = m) (hn2 : n ≤ 1000000) (hm2 : m ≤ 1000000) :
    Calls Tryz.prog 139 #[.slice A n c, .slice B m d] w fun e w' => ∃ g, e = .returned (.slice (some ⟨g, 0, none⟩) (n + m) (n + m)) ∧ w.heap.size ≤ g ∧
      w'.heap[g]? = some (.cells (uv (M.times a b)).toArray 93 (0, 0)) ∧ Below w.heap.size w w' := by
  subst hn hm
  obtain ⟨i0, hi, hz0, hz1, hz2⟩ := info_parts infoU
  have HA := Lib.hid ha; have HB := Lib.hid hb
  clear ha hb
  go_enter Tryz.func139, Tryz.ntmps139
  go_wp2_with (at_make; refine wpList_make_full _ rfl _ _ 97 rfl w.heap.size 93 i0 (.int .u64 0) 1 Tryz.underlying97 hi hz0 hz1 _ _ _ _ (a.length + b.length) rfl rfl (by omega) (by omega) (by rw [hz2]; omega) (by unfold maxLen; omega) (Nat.le_refl _) ?_; intro w1 hown1 hgrow1)
  have hg1 := made_blockU hown1
  have hb1 := (Below.refl w.heap.size w).grown hgrow1 (Nat.le_refl _) (by simp)
  clear hown1 hgrow1
  go_loopw [6] (fun i wr => ∃ k : Nat, k ≤ a.length ∧ i = .int .i64 k ∧ wr.heap[w.heap.size]? = some (.cells (uv (M.timesTo a b k)).toArray 93 (0, 0)) ∧ Below w.heap.size w wr) (fun i _ => a.length - (intOf i).toNat)
  case atStart => exact ⟨0, Nat.zero_le _, rfl, hg1, hb1⟩
  case round =>
    clear hg1 hb1
    obtain ⟨i, hil, rfl, hg, hb⟩ := hrel
    have p0 : (0 : Int) ≤ (i : Int) := by omega
    rcases Nat.lt_or_ge i a.length with h1 | h1
    · have p1 : (i : Int) < (a.length : Int) := by omega
      have d1 : decide (i < a.length) = true := by simpa using h1
      obtain ⟨ab, ao, rfl, hab, hac⟩ := HA.out.lay (by omega)
      have HAC := Lib.hid hac; have HG := Lib.hid hg; have HBW := Lib.hid hb
      clear hac hg hb
      go_wp2
      obtain ⟨wo, hwo⟩ : ∃ wo, wo = wr := ⟨_, rfl⟩
      go_loopw [7, 8] (fun v i' wx => ∃ k : Nat, k ≤ b.length ∧ i' = .int .i64 k ∧ v = W64 (M.rowTo (M.atU a i) b i (M.timesTo a b i) k).2 ∧
        wx.heap[w.heap.size]? = some (.cells (uv (M.rowTo (M.atU a i) b i (M.timesTo a b i) k).1).toArray 93 (0, 0)) ∧ Below w.heap.size w wx) (fun _ i' _ => b.length - (intOf i').toNat)
      case atStart => exact ⟨0, Nat.zero_le _, rfl, rfl, HG.out, HBW.out⟩
      case round =>
        clear hwo
        obtain ⟨k, hkl, rfl, rfl, hg, hb⟩ := hrel
        have p2 : (0 : Int) ≤ (k : Int) := by omega
        obtain ⟨s, hs⟩ : ∃ s, s = M.rowTo (M.atU a i) b i (M.timesTo a b i) k := ⟨_, rfl⟩
        rw [← hs] at hg
        rw [← hs]
        have hsl : s.1.length = a.length + b.length := by rw [hs, M.rowTo_length, M.timesTo_length]
        have HS := Lib.hid hs; clear hs
        rcases Nat.lt_or_ge k b.length with h2 | h2
        · have p3 : (k : Int) < (b.length : Int) := by omega
          obtain ⟨bb, bo, rfl, hbb, hbc⟩ := HB.out.lay (by omega)
          have ca : wr.cell? ⟨ab, ao + i, none⟩ = some (W64 (M.atU a i)) := (hb.cell hab).trans (HAC.out i h1)
          have cb : wr.cell? ⟨bb, bo + k, none⟩ = some (W64 (M.atU b k)) := (hb.cell hbb).trans (hbc k h2)
          have co : wr.cell? ⟨w.heap.size, i + k, none⟩ = some (W64 (M.atU s.1 (i + k))) := block_cell hg (uv_at (by omega))
          have fo : wr.frozen? ⟨w.heap.size, i + k, none⟩ = false := frozen_of_row wr _ _ _ _ hg
          have p4 : (i : Int) + (k : Int) < (a.length : Int) + (b.length : Int) := by omega
          have p5 : (0 : Int) ≤ (i : Int) + (k : Int) := by omega
          have HG' := Lib.hid hg; have HBC := Lib.hid hbc; have HSL := Lib.hid hsl
          clear hg hbc hsl
          go_wp2
          go_quiet (fail)
          have co' : ∀ q, (wr.drewN q).cell? ⟨w.heap.size, i + k, none⟩ = some (W64 (M.atU s.1 (i + k))) := fun _ => co
          have fo' : ∀ q, (wr.drewN q).frozen? ⟨w.heap.size, i + k, none⟩ = false := fun _ => fo
          go_wp2_with (with_reducible refine wpList_store_one rfl 93 (.tmp 52) (.tmp 51) rfl ⟨w.heap.size, i + k, none⟩ (W64 _) _ rfl rfl (oneW64 _) (by kernel_rfl) (co' _) (fo' _) ?_)
          go_roundw
          case rel =>
            have e : M.rowTo (M.atU a i) b i (M.timesTo a b i) (k + 1) = (s.1.set (i + k) ((M.atU s.1 (i + k) + M.atU a i * M.atU b k + s.2) &&& M.mask), (M.atU s.1 (i + k) + M.atU a i * M.atU b k + s.2) >>> 32) := by
              rw [M.rowTo, ← HS.out]
            refine ⟨k + 1, by omega, by go_num, by rw [e], ?_, (below_drewN hb _).setCell (p := ⟨w.heap.size, i + k, none⟩) (Nat.le_refl _) _⟩
            rw [e, uv_set]
            exact block_set (w := wr.drewN _) HG'.out _ _
          case measure => simp [intOf]; omega
        · have hkb : k = b.length := by omega
          have p3 : ¬ (k : Int) < (b.length : Int) := by omega
          have d3 : decide (k < b.length) = false := by simp; omega
          have p4 : (i : Int) + (b.length : Int) < (a.length : Int) + (b.length : Int) := by omega
          have co : wr.cell? ⟨w.heap.size, i + b.length, none⟩ = some (W64 (M.atU s.1 (i + b.length))) := block_cell hg (uv_at (by omega))
          have fo : wr.frozen? ⟨w.heap.size, i + b.length, none⟩ = false := frozen_of_row wr _ _ _ _ hg
          have HKB := Lib.hid hkb; have HG' := Lib.hid hg
          clear hkb hg hsl
          go_wp2_with (with_reducible refine wpList_store_one rfl 93 (.tmp 61) (.tmp 60) rfl ⟨w.heap.size, i + b.length, none⟩ (W64 _) _ rfl rfl (oneW64 _) (by kernel_rfl) co fo ?_)
          go_roundw
          case rel =>
            refine ⟨i + 1, by omega, by go_num, ?_, hb.setCell (p := ⟨w.heap.size, i + b.length, none⟩) (Nat.le_refl _) _⟩
            have e : M.timesTo a b (i + 1) = s.1.set (i + b.length) s.2 := by rw [M.timesTo, HS.out, HKB.out]
            rw [e, uv_set]
            exact block_set HG'.out _ _
          case measure => simp [intOf]; omega
    · have hi2 : i = a.length := by omega
      have p1 : ¬ (i : Int) < (a.length : Int) := by omega
      have d1 : decide (i < a.length) = false := by simp; omega
      have HI := Lib.hid hi2; clear hi2
      have HG := Lib.hid hg; clear hg
      go_wp2
      go_ret
      refine ⟨w.heap.size, rfl, Nat.le_refl _, ?_, hb⟩
      rw [M.times, ← HI.out]
      exact HG.out

theorem atU_zero {l : List (BitVec 64)} {k : Nat} (h : l.length ≤ k) : M.atU l k = 0 := by simp [M.atU, h]
theorem W64_zero : Value.int .u64 0 = W64 0#64 := rfl
theorem above_step {a b : List (BitVec 64)} {k : Nat} {r : Bool} (h : M.aboveFrom a b (k + 1) = r) (hx : M.atU a k = M.atU b k) : M.aboveFrom a b k = r := by
  rw [← h, M.aboveFrom, if_neg (by simpa using hx)]
theorem above_hit {a b : List (BitVec 64)} {k : Nat} {r : Bool} (h : M.aboveFrom a b (k + 1) = r) (hx : M.atU a k ≠ M.atU b k) : decide (M.atU b k < M.atU a k) = r := by
  rw [← h, M.aboveFrom, if_pos hx]

set_option maxHeartbeats 2000000 in
set_option maxRecDepth 100000 in
theorem above_any (A B : Option Addr) (n m c d : Nat) (a b : List (BitVec 64)) (w : World) (ha : RdU w A a) (hb : RdU w B b) (hn : a.length = n) (hm : b.length = m) (hn2 : n ≤ 1000000) (hm2 : m ≤ 1000000) :
    Calls Tryz.prog 140 #[.slice A n c, .slice B m d] w fun e w' => e = .returned (.bool (M.above a b)) ∧ w = w' := by
  subst hn hm
  have HA := Lib.hid ha; have HB := Lib.hid hb
  clear ha hb
  obtain ⟨T, hT⟩ : ∃ T, T = max a.length b.length := ⟨_, rfl⟩
  have hT1 : a.length ≤ T := by omega
  have hT2 : b.length ≤ T := by omega
  have hT4 : T ≤ a.length ∨ T ≤ b.length := by omega
  have HT := Lib.hid hT
  have HT4 := Lib.hid hT4
  have HT5 : Hid (M.aboveFrom a b T = M.above a b) := by show _ = _; rw [M.above, hT]
  clear hT hT4
  go_enter Tryz.func140, Tryz.ntmps140
  go_wp2
  all_goals
    go_loop [5] (fun i => ∃ v : Int, i = .int .i64 v ∧ -1 ≤ v ∧ v < (T : Int) ∧ M.aboveFrom a b (v + 1).toNat = M.above a b) (fun i => (intOf i + 1).toNat)
    case atStart =>
      first
        | exact ⟨(b.length : Int) - 1, rfl, by omega, by omega, by rw [← HT5.out, show ((b.length : Int) - 1 + 1).toNat = T by have := HT.out; omega]⟩
        | exact ⟨(a.length : Int) - 1, rfl, by omega, by omega, by rw [← HT5.out, show ((a.length : Int) - 1 + 1).toNat = T by have := HT.out; omega]⟩
    case round =>
      obtain ⟨v, rfl, hv1, hv2, hv⟩ := hrel
      rcases Int.lt_or_le v 0 with h0 | h0
      · have q0 : ¬ (0 : Int) ≤ v := by omega
        have HV := Lib.hid hv; clear hv
        go_wp2
        go_ret
        refine ⟨?_, rfl⟩
        rw [← HV.out, show (v + 1).toNat = 0 by omega]; rfl
      · obtain ⟨k, rfl⟩ := Int.eq_ofNat_of_zero_le h0
        rw [show ((k : Int) + 1).toNat = k + 1 by omega] at hv
        have HV := Lib.hid hv; clear hv
        have hlt : k < T := by omega
        by_cases ka : k < a.length
        · obtain ⟨ab, ao, rfl, _, hac⟩ := HA.out.lay (by omega)
          have ca := hac k ka
          have HAC := Lib.hid hac; clear hac
          have q1 : (k : Int) < (a.length : Int) := by omega
          have d1 : decide (k < a.length) = true := by simpa using ka
          by_cases kb : k < b.length
          · obtain ⟨bb, bo, rfl, _, hbc⟩ := HB.out.lay (by omega)
            have cb := hbc k kb
            have q2 : (k : Int) < (b.length : Int) := by omega
            have d2 : decide (k < b.length) = true := by simpa using kb
            clear hbc
            go_wp2
            · go_ret
              have hne : (M.atU a k != M.atU b k) = true := by assumption
              exact ⟨by rw [← above_hit HV.out (by simpa using hne)]; rfl, rfl⟩
            · have heq : (M.atU a k != M.atU b k) = false := by assumption
              go_round
              case rel => exact ⟨(k : Int) - 1, rfl, by omega, by omega, by rw [show ((k : Int) - 1 + 1).toNat = k by omega]; exact above_step HV.out (by simpa using heq)⟩
              case measure => simp [intOf]
          · have q2 : ¬ (k : Int) < (b.length : Int) := by omega
            have d2 : decide (k < b.length) = false := by simpa using kb
            have ez := atU_zero (l := b) (k := k) (by omega)
            have EZ := Lib.hid ez; clear ez
            have n1 : ∀ (t : TypeId) (x : BitVec 64), binOp .neq t (W64 x) (.int .u64 0) = pure (.bool (x != 0#64)) := fun t x => W64_neq t x 0#64
            have n2 : ∀ (t : TypeId) (x : BitVec 64), binOp .gtr t (W64 x) (.int .u64 0) = pure (.bool (decide (0#64 < x))) := fun t x => W64_gtr t x 0#64
            go_wp2
            all_goals first
              | (have hne : (M.atU a k != 0#64) = true := by assumption
                 go_ret
                 exact ⟨by rw [← above_hit HV.out (by rw [EZ.out]; simpa using hne), EZ.out]; rfl, rfl⟩)
              | (have heq : (M.atU a k != 0#64) = false := by assumption
                 go_round
                 case rel => exact ⟨(k : Int) - 1, rfl, by omega, by omega, by rw [show ((k : Int) - 1 + 1).toNat = k by omega]; exact above_step HV.out (by rw [EZ.out]; simpa using heq)⟩
                 case measure => simp [intOf])
        · have kb : k < b.length := by have := HT4.out; omega
          obtain ⟨bb, bo, rfl, _, hbc⟩ := HB.out.lay (by omega)
          have cb := hbc k kb
          have q2 : (k : Int) < (b.length : Int) := by omega
          have d2 : decide (k < b.length) = true := by simpa using kb
          clear hbc
          have q1 : ¬ (k : Int) < (a.length : Int) := by omega
          have d1 : decide (k < a.length) = false := by simpa using ka
          have ez := atU_zero (l := a) (k := k) (by omega)
          have EZ := Lib.hid ez; clear ez
          have n1 : ∀ (t : TypeId) (x : BitVec 64), binOp .neq t (.int .u64 0) (W64 x) = pure (.bool (0#64 != x)) := fun t x => W64_neq t 0#64 x
          have n2 : ∀ (t : TypeId) (x : BitVec 64), binOp .gtr t (.int .u64 0) (W64 x) = pure (.bool (decide (x < 0#64))) := fun t x => W64_gtr t 0#64 x
          go_wp2
          all_goals first
            | (have hne : (0#64 != M.atU b k) = true := by assumption
               go_ret
               exact ⟨by rw [← above_hit HV.out (by rw [EZ.out]; simpa using hne), EZ.out]; rfl, rfl⟩)
            | (have heq : (0#64 != M.atU b k) = false := by assumption
               go_round
               case rel => exact ⟨(k : Int) - 1, rfl, by omega, by omega, by rw [show ((k : Int) - 1 + 1).toNat = k by omega]; exact above_step HV.out (by rw [EZ.out]; simpa using heq)⟩
               case measure => simp [intOf])
end Go.Proofs.YtidcfjmibljkeaaGreatDoor.K

/- Contracts of the reference's prime, root, roots, turned, moved. -/
namespace Go.Proofs.YtidcfjmibljkeaaGreatDoor.K
open Go Go.RowKit

theorem turned_any (x : BitVec 64) (n : Int) (w : World) (h0 : 0 < n) (h1 : n < 32) :
    Calls Tryz.prog 69 #[W64 x, .int .u64 n] w fun e w' => e = .returned (W64 (((x >>> n.toNat) ||| (x <<< (32 - n).toNat)) &&& M.mask)) ∧ w = w' := by
  have hc : n ≤ 32 := by omega
  have hc2 : (0 : Int) ≤ n := by omega
  go_enter Tryz.func69, Tryz.ntmps69
  go_wp2
  go_ret
  exact ⟨rfl, rfl⟩
theorem moved_any (x : BitVec 64) (n : Int) (w : World) (h0 : 0 ≤ n) :
    Calls Tryz.prog 111 #[W64 x, .int .u64 n] w fun e w' => e = .returned (W64 (x >>> n.toNat)) ∧ w = w' := by
  go_enter Tryz.func111, Tryz.ntmps111
  go_wp2
  go_ret
  exact ⟨rfl, rfl⟩

theorem primeFrom_hit {n f k : Nat} (h : k * k ≤ n) (hm : n % k = 0) : M.primeFrom n (f + 1) k = false := by rw [M.primeFrom, if_pos h, if_pos hm]
theorem primeFrom_on {n f k : Nat} (h : k * k ≤ n) (hm : n % k ≠ 0) : M.primeFrom n (f + 1) k = M.primeFrom n f (k + 1) := by rw [M.primeFrom, if_pos h, if_neg hm]
theorem primeFrom_end {n f k : Nat} (h : ¬ k * k ≤ n) : M.primeFrom n f k = decide (1 < n) := by
  cases f with
  | zero => rfl
  | succ f => rw [M.primeFrom, if_neg h]
set_option maxHeartbeats 1000000 in
set_option maxRecDepth 100000 in
theorem prime_any (n : Nat) (w : World) (hn : n ≤ 100000) :
    Calls Tryz.prog 109 #[.int .u64 (n : Int)] w fun e w' => e = .returned (.bool (M.prime n)) ∧ w = w' := by
  go_enter Tryz.func109, Tryz.ntmps109
  go_wp2
  go_loop [3] (fun v => ∃ j : Nat, j ≤ n ∧ v = .int .u64 ((j + 2 : Nat) : Int) ∧ M.primeFrom n (n - j) (j + 2) = M.prime n) (fun v => n + 2 - (intOf v).toNat)
  case atStart => exact ⟨0, Nat.zero_le _, rfl, rfl⟩
  case round =>
    obtain ⟨j, hj, rfl, hp⟩ := hrel
    obtain ⟨k, hk⟩ : ∃ k, k = j + 2 := ⟨_, rfl⟩
    rw [← hk] at hp
    rw [← hk]
    have hk1 : 2 ≤ k := by omega
    have hk2 : k ≤ 100002 := by omega
    obtain ⟨q, hq⟩ : ∃ q, q = k * k := ⟨_, rfl⟩
    have hq2 : q ≤ 20000000000 := by rw [hq]; exact Nat.le_trans (Nat.mul_le_mul hk2 hk2) (by omega)
    have hqw : IntKind.u64.wrap ((k : Int) * (k : Int)) = (q : Int) := by rw [← Int.natCast_mul, ← hq]; exact IntWalk.u64_in _ (by omega)
    have HQ := Lib.hid hq; have HK := Lib.hid hk; have HP := Lib.hid hp
    clear hq hk hp
    by_cases h1 : q ≤ n
    · have d1 : decide (q ≤ n) = true := by simpa using h1
      have p1 : (q : Int) ≤ (n : Int) := by omega
      have hjn : j < n := by
        have := HQ.out; have := HK.out
        have h3 : k * 1 ≤ k * k := Nat.mul_le_mul_left k (by omega)
        omega
      have ef : n - j = (n - (j + 1)) + 1 := by omega
      have EF := Lib.hid ef; clear ef
      obtain ⟨r, hr⟩ : ∃ r, r = n % k := ⟨_, rfl⟩
      have hrw : (n : Int) % (k : Int) = (r : Int) := by rw [hr]; omega
      have HR := Lib.hid hr; clear hr
      have k0 : ¬ (k : Int) = 0 := by omega
      have k1 : ((k : Int) == 0) = false := by simp; omega
      by_cases h2 : r = 0
      · have e0 : ((r : Int) == 0) = true := by simp [h2]
        have H2 := Lib.hid h2; clear h2
        go_wp2
        go_ret
        refine ⟨?_, rfl⟩
        rw [← HP.out, EF.out, primeFrom_hit (by rw [← HQ.out]; exact h1) (by rw [← HR.out]; exact H2.out)]; rfl
      · have e0 : ((r : Int) == 0) = false := by simp; omega
        have H2 := Lib.hid h2; clear h2
        go_wp2
        go_round
        case rel =>
          refine ⟨j + 1, by omega, by rw [HK.out]; go_num, ?_⟩
          rw [← HP.out, EF.out, primeFrom_on (by rw [← HQ.out]; exact h1) (by rw [← HR.out]; exact H2.out), HK.out]
        case measure => have := HK.out; simp [intOf]; omega
    · have d1 : decide (q ≤ n) = false := by simpa using h1
      have p1 : ¬ (q : Int) ≤ (n : Int) := by omega
      go_wp2
      go_ret
      refine ⟨?_, rfl⟩
      rw [← HP.out, primeFrom_end (by rw [← HQ.out]; exact h1)]
      show Ending.returned (.bool (decide ((n : Int) > 1))) = _
      congr 2
      rw [decide_eq_decide]; omega
end Go.Proofs.YtidcfjmibljkeaaGreatDoor.K

/- Words of 32 bits held in words of 64: what the reference's operations give on them. Plain lemmas, and the contracts of turned and moved on such words. -/
namespace Go.Proofs.YtidcfjmibljkeaaGreatDoor.M

abbrev up (x : BitVec 32) : BitVec 64 := x.setWidth 64
theorem low_up (x : BitVec 32) : (up x).setWidth 32 = x := by
  rw [BitVec.setWidth_setWidth_of_le _ (by omega), BitVec.setWidth_eq]
theorem mask_low (x : BitVec 64) : x &&& mask = up (x.setWidth 32) := by
  apply BitVec.eq_of_getLsbD_eq
  intro i hi
  have hm : mask = (BitVec.allOnes 32).setWidth 64 := by decide
  rw [hm, BitVec.getLsbD_and, BitVec.getLsbD_setWidth, BitVec.getLsbD_setWidth, BitVec.getLsbD_setWidth, BitVec.getLsbD_allOnes]
  by_cases h : i < 32 <;> simp [h, hi]
theorem up_bit (x : BitVec 32) (i : Nat) (hi : i < 64) : (up x).getLsbD i = x.getLsbD i := by
  rw [BitVec.getLsbD_setWidth]; simp [hi]
theorem turned_up (y : BitVec 32) (n : Nat) (h0 : 0 < n) (h1 : n < 32) : ((up y >>> n) ||| (up y <<< (32 - n))) &&& mask = up (rot y n) := by
  rw [mask_low]
  congr 1
  apply BitVec.eq_of_getLsbD_eq
  intro i hi
  rw [BitVec.getLsbD_setWidth, rot, BitVec.getLsbD_or, BitVec.getLsbD_or, BitVec.getLsbD_ushiftRight, BitVec.getLsbD_ushiftRight, BitVec.getLsbD_shiftLeft, BitVec.getLsbD_shiftLeft]
  have e1 : (up y).getLsbD (n + i) = y.getLsbD (n + i) := up_bit y _ (by omega)
  rw [e1]
  by_cases h : i < 32 - n
  · simp [h, hi]
  · have e2 : (up y).getLsbD (i - (32 - n)) = y.getLsbD (i - (32 - n)) := up_bit y _ (by omega)
    rw [e2]
    simp [h, hi, show i < 64 by omega]
theorem moved_up (y : BitVec 32) (n : Nat) : up y >>> n = up (y >>> n) := by
  apply BitVec.eq_of_getLsbD_eq
  intro i hi
  rw [BitVec.getLsbD_ushiftRight, up_bit _ _ hi, BitVec.getLsbD_ushiftRight, BitVec.getLsbD_setWidth]
  by_cases h : n + i < 64
  · simp [h]
  · simp [h]; rw [BitVec.getLsbD_of_ge _ _ (by omega)]
theorem ch_up (e f g : BitVec 32) : (up e &&& up f) ||| ((mask ^^^ up e) &&& up g) = up (ch e f g) := by
  apply BitVec.eq_of_getLsbD_eq
  intro i hi
  have hm : mask = up (BitVec.allOnes 32) := by decide
  rw [hm]
  simp only [BitVec.getLsbD_or, BitVec.getLsbD_and, BitVec.getLsbD_xor, up_bit _ _ hi, ch, BitVec.getLsbD_not, BitVec.getLsbD_allOnes]
  by_cases h : i < 32
  · simp only [h, decide_true]
    cases e.getLsbD i <;> cases f.getLsbD i <;> cases g.getLsbD i <;> rfl
  · rw [BitVec.getLsbD_of_ge g _ (by omega), BitVec.getLsbD_of_ge e _ (by omega)]; simp
theorem maj_up (a b c : BitVec 32) : (up a &&& up b) ||| (up a &&& up c) ||| (up b &&& up c) = up (maj a b c) := by
  apply BitVec.eq_of_getLsbD_eq
  intro i hi
  simp only [BitVec.getLsbD_or, BitVec.getLsbD_and, BitVec.getLsbD_xor, up_bit _ _ hi, maj]
  cases a.getLsbD i <;> cases b.getLsbD i <;> cases c.getLsbD i <;> rfl
theorem word_up (a b c d : BitVec 8) : (a.setWidth 64 <<< 24) ||| (b.setWidth 64 <<< 16) ||| (c.setWidth 64 <<< 8) ||| d.setWidth 64 = up (word a b c d) := by
  apply BitVec.eq_of_getLsbD_eq
  intro i hi
  simp only [up_bit _ _ hi, word, BitVec.getLsbD_or, BitVec.getLsbD_shiftLeft, BitVec.getLsbD_setWidth]
  by_cases h : i < 32
  · simp [h, hi, show i - 24 < 64 by omega, show i - 24 < 32 by omega, show i - 16 < 64 by omega, show i - 16 < 32 by omega, show i - 8 < 64 by omega, show i - 8 < 32 by omega]
  · have z : ∀ (x : BitVec 8) (k : Nat), 8 ≤ k → x.getLsbD k = false := fun x k hk => BitVec.getLsbD_of_ge x k hk
    simp [h, z a (i - 24) (by omega), z b (i - 16) (by omega), z c (i - 8) (by omega), z d i (by omega)]
end Go.Proofs.YtidcfjmibljkeaaGreatDoor.M
namespace Go.Proofs.YtidcfjmibljkeaaGreatDoor.K
open Go Go.RowKit
theorem turned_low (y : BitVec 32) (n : Int) (w : World) (h0 : 0 < n) (h1 : n < 32) :
    Calls Tryz.prog 69 #[W64 (M.up y), .int .u64 n] w fun e w' => e = .returned (W64 (M.up (M.rot y n.toNat))) ∧ w = w' := by
  have e : (32 - n).toNat = 32 - n.toNat := by omega
  have h := turned_any (M.up y) n w h0 h1
  rw [e, M.turned_up y n.toNat (by omega) (by omega)] at h
  exact h
theorem moved_low (y : BitVec 32) (n : Int) (w : World) (h0 : 0 ≤ n) :
    Calls Tryz.prog 111 #[W64 (M.up y), .int .u64 n] w fun e w' => e = .returned (W64 (M.up (y >>> n.toNat))) ∧ w = w' := by
  have h := moved_any (M.up y) n w h0
  rw [M.moved_up] at h
  exact h
theorem mask_xor (t : TypeId) (x : BitVec 64) : binOp .xor t (.int .u64 4294967295) (W64 x) = pure (W64 (M.mask ^^^ x)) := W64_xor t M.mask x

/-- append of what may be nil -/
theorem wpList_append_own_any {P : Program} (w : World) {ops : Array Oper} {rest : List Oper} {o : Oper} {a : Act} {Q : Exit → Act → World → Prop} (hgd : o.guard = Option.none) (s x : Operand) (t : TypeId)
    (ho : o.op = .call { callee := .builtin .append, args := #[s, x], argTypes := #[t, t] })
    (base : Nat) (e : TypeId) (i : TypeInfo) (z : Value) (size bytes : Nat) (ht : P.underlying t = some (.slice e)) (hi : P.info? e = some i) (hz : i.zero = some z)
    (hsize : i.size = size) (hby : i.bytes = bytes) (hzs : z.cells.size = size) (hsz : 0 < size)
    (v : Value) (n : Nat) (xs : List Value) (hs : a.eval s = v) (hown : w.ownsRow base e size v n xs)
    (ao : Option Addr) (m c : Nat) (news : List Value) (hx : a.eval x = .slice ao m c) (hnone : ao = Option.none → m = 0 ∧ c = 0) (hl : news.length = m * size) (hnews : ∀ ad, ao = some ad → ∀ j u, news[j]? = some u → w.cell? (ad.add j) = some u) (h1 : ∀ u ∈ news, u.oneCell' = true)
    (h63 : n + m ≤ maxLen) (hbytes : (n + m) * bytes ≤ 140737488355328) (hbase : base ≤ w.heap.size)
    (h : ∀ v' w', w'.ownsRow base e size v' (n + m) (xs ++ news) → w.grownBy w' v.ownBlock → wpList P ops Q rest (a.put o.dst v') w') :
    wpList P ops Q (o :: rest) a w := by
  cases ao with
  | some ad => exact wpList_append_own w hgd s x t ho base e i z size bytes ht hi hz hsize hby hzs hsz v n xs hs hown ad m c news hx hl (hnews ad rfl) h1 h63 hbytes hbase fun v' w' h2 h3 _ => h v' w' h2 h3
  | none =>
    obtain ⟨rfl, rfl⟩ := hnone rfl
    have hn : news = [] := List.eq_nil_of_length_eq_zero (by simpa using hl)
    subst hn
    refine wpList_plain hgd fun K hK' => ?_
    have hrun := run_append_owned_none (P := P) w base t o.type e i size ht hi _ n xs hown
    unfold Oper.wp
    simp [execOp, ho, resolve, invoke, builtin, hs, hx, hrun, Result.andThen]
    exact hK' _ _ (h v w (by simpa using hown) (World.grownBy.refl _ _))
end Go.Proofs.YtidcfjmibljkeaaGreatDoor.K

/- Contracts of the reference's root and roots. -/
namespace Go.Proofs.YtidcfjmibljkeaaGreatDoor.K
open Go Go.RowKit

theorem RdU.of_own {w : World} {base : Nat} {e : TypeId} {A : Option Addr} {n c : Nat} {l : List (BitVec 64)} (h : w.ownsRow base e 1 (.slice A n c) n (uv l)) : RdU w A l := by
  rcases h.2 with ⟨h1, h2⟩ | ⟨g, cap, cur, hv, _, hg, _, _, _, ht⟩
  · have : l.length = n := by have := h.1; rw [uv_length] at this; omega
    rw [show l = [] from List.eq_nil_of_length_eq_zero (by omega)]
    intro k hk
    exact absurd hk (Nat.not_lt_zero _)
  · simp only [Value.slice.injEq] at hv
    obtain ⟨rfl, _, _⟩ := hv
    have hl : n * 1 = l.length := by have := h.1; rw [uv_length] at this; omega
    rw [hl] at ht
    intro k hk
    refine ⟨g, 0, rfl, ?_⟩
    rw [cell_of_row w g (0 + k) cur e _ hg, Nat.zero_add]
    have e : (cur.toList.take l.length)[k]? = cur[k]? := by rw [List.getElem?_take, if_pos hk]; simp
    rw [← e, ht]
    simp [uv, hk]
theorem own_some {w : World} {base : Nat} {e : TypeId} {v : Value} {n : Nat} {xs : List Value} (h : w.ownsRow base e 1 v n xs) (hn : 0 < n) : ∃ g cap, v = .slice (some ⟨g, 0, none⟩) n cap ∧ base ≤ g ∧ g < w.heap.size := by
  rcases h.2 with ⟨_, h0⟩ | ⟨g, cap, cur, hv, hb, hg, _⟩
  · omega
  · exact ⟨g, cap, hv, hb, (Array.getElem?_eq_some_iff.1 hg).1⟩
theorem shl_one (t : TypeId) (yk : IntKind) (c : Int) (hc : 0 ≤ c) : binOp .shl t (.int .u64 1) (.int yk c) = pure (W64 (1#64 <<< c.toNat)) := W64_shl t 1#64 yk c hc
theorem powTo_length (n : List (BitVec 64)) (i : Nat) : (M.powTo n i).length = n.length * (i + 1) := by
  induction i with
  | zero => simp [M.powTo]
  | succ i ih => rw [M.powTo, M.times, M.timesTo_length, ih, Nat.mul_succ n.length (i + 1)]
theorem rootTo_succ (p : BitVec 64) (power j : Nat) (x t : BitVec 64) (hx : x = M.rootTo p power j) (ht : t = x ||| (1#64 <<< (36 - j))) :
    M.rootTo p power (j + 1) = if M.above (M.powTo (M.limbs t) (power - 1)) (M.goal p power) then x else t := by rw [M.rootTo, ht, hx]; rfl
theorem cells2 (w : World) (a b : Value) (t : TypeId) : ∀ j u, [a, b][j]? = some u → (w.alloc (.cells #[a, b] t)).cell? ((⟨w.heap.size, 0, none⟩ : Addr).add j) = some u := by
  intro j u hu
  rw [Addr.add_lit, World.cell?_alloc_new, Nat.zero_add, ← hu]
  simp

set_option maxHeartbeats 2000000 in
set_option maxRecDepth 100000 in
theorem root_any (p power : Nat) (w : World) (hp : p ≤ 1000000) (h1 : 1 ≤ power) (h2 : power ≤ 1000) :
    Calls Tryz.prog 110 #[.int .u64 (p : Int), .int .i64 (power : Int)] w fun e w' => e = .returned (W64 (M.root (BitVec.ofNat 64 p) power)) ∧ Below w.heap.size w w' := by
  obtain ⟨i0, hi, hz0, hz1, hz2⟩ := info_parts infoU
  have ep : Value.int .u64 (p : Int) = W64 (BitVec.ofNat 64 p) := by
    rw [W64, BitVec.toNat_ofNat, Nat.mod_eq_of_lt (by omega)]
  have EP := Lib.hid ep; clear ep
  go_enter Tryz.func110, Tryz.ntmps110
  go_wp2_with (first
    | (at_make; refine wpList_make_full _ rfl _ _ 97 rfl w.heap.size 93 i0 (.int .u64 0) 1 Tryz.underlying97 hi hz0 hz1 _ _ _ _ power rfl rfl rfl rfl (by rw [hz2]; omega) (by unfold maxLen; omega) (Nat.le_refl _) ?_; intro w1 hown1 hgrow1)
    | (at_builtin; refine wpList_append_own _ rfl _ _ 97 rfl w.heap.size 93 i0 (.int .u64 0) 1 8 Tryz.underlying97 hi hz0 hz1 hz2 rfl (by decide) _ _ _ rfl (hown1.alloc _) ⟨w1.heap.size, 0, none⟩ 1 1 [.int .u64 (p : Int)] rfl rfl (cell_last _ _ _) (by intro u hu; simp at hu; subst hu; rfl) (by unfold maxLen; omega) (by omega) (by have := hgrow1.size; simp; omega) ?_; intro v' w2 hown2 hgrow2 _))
  have hb2 : Below w.heap.size w w2 := (((Below.refl w.heap.size w).grown hgrow1 (Nat.le_refl _) (by simp)).alloc hgrow1.size _).grown hgrow2 (by have := hgrow1.size; simp; omega) (fun k' hk' => (hown1.lt k' hk').1)
  have eg : (madeCells (Value.int .u64 0).cells (power * 1)).toList ++ [Value.int .u64 (p : Int)] = uv (M.goal (BitVec.ofNat 64 p) power) := by
    rw [Nat.mul_one, show (Value.int .u64 0).cells = #[Value.int .u64 0] from rfl, toList_madeCells_one, EP.out, M.goal, uv, List.map_append, List.map_replicate]; rfl
  rw [eg] at hown2
  obtain ⟨gg, cg, rfl, hgg, hgs⟩ := own_some hown2 (by omega)
  have hrg := RdU.of_own hown2
  have HRG := Lib.hid hrg
  clear hown1 hgrow1 hown2 hgrow2 eg hrg hgg
  have HB2 := Lib.hid hb2; clear hb2
  have hgl : (M.goal (BitVec.ofNat 64 p) power).length = power + 1 := by simp [M.goal]
  have HGL := Lib.hid hgl; clear hgl
  go_wp2
  go_loopw [6, 7] (fun x i wr => ∃ j : Nat, j ≤ 37 ∧ i = .int .i64 (36 - (j : Int)) ∧ x = W64 (M.rootTo (BitVec.ofNat 64 p) power j) ∧ RdU wr (some ⟨gg, 0, none⟩) (M.goal (BitVec.ofNat 64 p) power) ∧ Below w.heap.size w wr) (fun _ i _ => (intOf i + 1).toNat)
  case atStart => exact ⟨0, by omega, by simp, rfl, HRG.out, HB2.out⟩
  case round =>
    clear HRG HB2
    obtain ⟨j, hj, rfl, rfl, hrd, hb⟩ := hrel
    rcases Nat.lt_or_ge j 37 with h3 | h3
    · have p0 : (0 : Int) ≤ 36 - (j : Int) := by omega
      have pj : (j : Int) ≤ 36 := by omega
      have s1 := shl_one
      have e36 : (36 - (j : Int)).toNat = 36 - j := by omega
      obtain ⟨x, hx⟩ : ∃ x, x = M.rootTo (BitVec.ofNat 64 p) power j := ⟨_, rfl⟩
      rw [← hx]
      have HX := Lib.hid hx; have HRD := Lib.hid hrd
      clear hx hrd
      go_wp2
      obtain ⟨t, ht⟩ : ∃ t, t = x ||| (1#64 <<< (36 - j)) := ⟨_, rfl⟩
      rw [← ht]
      have hrn : RdU (wr.alloc (.cells #[W64 (t &&& M.mask), W64 (t >>> 32)] 93)) (some ⟨wr.heap.size, 0, none⟩) (M.limbs t) := RdU.of_block (heap_alloc_new wr _)
      have hrg2 : RdU (wr.alloc (.cells #[W64 (t &&& M.mask), W64 (t >>> 32)] 93)) (some ⟨gg, 0, none⟩) (M.goal (BitVec.ofNat 64 p) power) := HRD.out.below ((Below.refl _ _).alloc (Nat.le_refl _) _)
      have hb3 := hb.alloc hb.size (.cells #[W64 (t &&& M.mask), W64 (t >>> 32)] 93)
      have hws := hb.size
      have HT := Lib.hid ht; have HRN := Lib.hid hrn; have HRG2 := Lib.hid hrg2; have HB3 := Lib.hid hb3
      clear ht hrn hrg2 hb3 hb
      generalize World.alloc wr _ = w5 at *
      obtain ⟨N, hN⟩ : ∃ N, N = wr.heap.size := ⟨_, rfl⟩
      rw [← hN] at HRN
      rw [← hN]
      clear hN hws
      obtain ⟨wo, hwo⟩ : ∃ wo, wo = wr := ⟨_, rfl⟩
      go_loopw [10, 11] (fun v i wx => ∃ (q m : Nat) (A : Option Addr), q + 1 ≤ power ∧ i = .int .i64 ((q : Int) + 1) ∧ v = .slice A m m ∧ m = 2 * (q + 1) ∧ RdU wx A (M.powTo (M.limbs t) q) ∧ RdU wx (some ⟨N, 0, none⟩) (M.limbs t) ∧
        RdU wx (some ⟨gg, 0, none⟩) (M.goal (BitVec.ofNat 64 p) power) ∧ Below w.heap.size w wx) (fun _ i _ => power - (intOf i).toNat)
      case atStart => exact ⟨0, 2, _, by omega, rfl, rfl, rfl, HRN.out, HRN.out, HRG2.out, HB3.out⟩
      case round =>
        clear HRN HRG2 HB3 hwo
        obtain ⟨q, m, A, hq, rfl, rfl, hm, hra, hrn, hrg, hb⟩ := hrel
        have pl : (M.powTo (M.limbs t) q).length = m := by rw [powTo_length, hm]; rfl
        have hm2 : m ≤ 100000 := by omega
        have HRA := Lib.hid hra; have HRN := Lib.hid hrn; have HRG := Lib.hid hrg; have PL := Lib.hid pl; have HM := Lib.hid hm
        clear hra hrn hrg pl hm
        by_cases h4 : q + 1 < power
        · have p4 : (q : Int) + 1 < (power : Int) := by omega
          go_wp2_with fail
          refine (times_any A _ m 2 m 2 _ _ _ HRA.out HRN.out PL.out rfl (by omega) (by omega)).mono ?_
          rintro e w6 ⟨g6, rfl, hg6l, hg6, hb6⟩
          have hra6 : RdU w6 (some ⟨g6, 0, none⟩) (M.powTo (M.limbs t) (q + 1)) := RdU.of_block hg6
          have hrn6 := HRN.out.below hb6
          have hrg6 := HRG.out.below hb6
          have hb7 : Below w.heap.size w w6 := hb.trans (hb6.mono hb.size)
          clear hg6 hg6l hb6
          have h1' := Lib.hid hra6; have h2' := Lib.hid hrn6; have h3' := Lib.hid hrg6
          clear hra6 hrn6 hrg6
          go_wp2
          go_roundw
          case rel => exact ⟨q + 1, m + 2, _, by omega, by go_num, rfl, by have := HM.out; omega, h1'.out, h2'.out, h3'.out, hb7⟩
          case measure => simp [intOf]; omega
        · have p4 : ¬ (q : Int) + 1 < (power : Int) := by omega
          have hq2 : q = power - 1 := by omega
          have HQ := Lib.hid hq2; clear hq2
          go_wp2_with fail
          refine (above_any A _ m (power + 1) m cg _ _ _ HRA.out HRG.out PL.out HGL.out (by omega) (by omega)).mono ?_
          rintro e w6 ⟨rfl, rfl⟩
          have er := rootTo_succ (BitVec.ofNat 64 p) power j x t HX.out HT.out
          rw [← HQ.out] at er
          have ER := Lib.hid er; clear er
          cases hab : M.above (M.powTo (M.limbs t) q) (M.goal (BitVec.ofNat 64 p) power)
          · have HAB := Lib.hid hab; clear hab
            go_wp2
            go_roundw
            case rel => exact ⟨j + 1, by omega, by go_num, by rw [ER.out, HAB.out]; rfl, HRG.out, hb⟩
            case measure => simp [intOf]; omega
          · have HAB := Lib.hid hab; clear hab
            go_wp2
            go_roundw
            case rel => exact ⟨j + 1, by omega, by go_num, by rw [ER.out, HAB.out]; rfl, HRG.out, hb⟩
            case measure => simp [intOf]; omega
    · have hj37 : j = 37 := by omega
      have p0 : ¬ (0 : Int) ≤ 36 - (j : Int) := by omega
      have pj : ¬ (j : Int) ≤ 36 := by omega
      have HJ := Lib.hid hj37; clear hj37 hrd
      go_wp2
      go_ret
      refine ⟨?_, hb⟩
      rw [M.root, ← HJ.out]; rfl

theorem rootsTo_prefix (power a b : Nat) (h : a ≤ b) : M.rootsTo power a <+: M.rootsTo power b := by
  induction b with
  | zero => rw [show a = 0 by omega]; exact List.prefix_refl _
  | succ b ih =>
    rcases Nat.lt_or_ge a (b + 1) with h1 | h1
    · refine (ih (by omega)).trans ?_
      rw [M.rootsTo]
      split
      · exact List.prefix_append _ _
      · exact List.prefix_refl _
    · rw [show a = b + 1 by omega]; exact List.prefix_refl _
theorem rootsTo_same {power a b : Nat} (h : a ≤ b) (hl : (M.rootsTo power b).length ≤ (M.rootsTo power a).length) : M.rootsTo power a = M.rootsTo power b :=
  (rootsTo_prefix power a b h).eq_of_length_le hl
theorem rootsTo_two (power : Nat) : M.rootsTo power 2 = [] := by
  have h0 : M.prime 0 = false := by decide
  have h1 : M.prime 1 = false := by decide
  simp [M.rootsTo, h0, h1]

set_option maxHeartbeats 2000000 in
set_option maxRecDepth 100000 in
theorem roots_any (n power N : Nat) (w : World) (hN : 2 ≤ N) (hN2 : N ≤ 10000) (hl : (M.rootsTo power N).length = n) (h1 : 1 ≤ power) (h2 : power ≤ 1000) (hn2 : n ≤ 10000) (hn1 : 0 < n) :
    Calls Tryz.prog 66 #[.int .i64 (n : Int), .int .i64 (power : Int)] w fun e w' => ∃ g cap, e = .returned (.slice (some ⟨g, 0, none⟩) n cap) ∧
      w'.ownsRow w.heap.size 93 1 (.slice (some ⟨g, 0, none⟩) n cap) n (uv (M.rootsTo power N)) ∧ Below w.heap.size w w' := by
  obtain ⟨i0, hi, hz0, hz1, hz2⟩ := info_parts infoU
  have HL := Lib.hid hl; clear hl
  go_enter Tryz.func66, Tryz.ntmps66
  go_wp2
  go_loopw [5, 6] (fun v i wr => ∃ (q m c : Nat) (A : Option Addr), q ≤ N ∧ i = .int .u64 (q : Int) ∧ v = .slice A m c ∧ m ≤ n ∧ (M.rootsTo power q).length = m ∧
      wr.ownsRow w.heap.size 93 1 v m (uv (M.rootsTo power q)) ∧ Below w.heap.size w wr) (fun _ i _ => N - (intOf i).toNat)
  case atStart => exact ⟨2, 0, 0, none, hN, rfl, rfl, by omega, by rw [rootsTo_two]; rfl, by rw [rootsTo_two]; exact World.ownsRow_nil _ _ _ _, Below.refl _ _⟩
  case round =>
    obtain ⟨q, m, c, A, hq, rfl, rfl, hm, hlm, hown, hb⟩ := hrel
    rcases Nat.lt_or_ge m n with h3 | h3
    · have p3 : (m : Int) < (n : Int) := by omega
      have d3 : decide (m < n) = true := by simpa using h3
      have hqN : q < N := by
        rcases Nat.lt_or_ge q N with h | h
        · exact h
        · exfalso
          have e : q = N := by omega
          rw [e, HL.out] at hlm
          omega
      have HLM := Lib.hid hlm; have HOWN := Lib.hid hown
      clear hlm hown
      go_wp2_with fail
      refine (prime_any q _ (by omega)).mono ?_
      rintro e w1 ⟨rfl, rfl⟩
      cases hpr : M.prime q
      · have er : M.rootsTo power (q + 1) = M.rootsTo power q := by rw [M.rootsTo, hpr]; rfl
        have ER := Lib.hid er; clear er hpr
        go_wp2
        go_roundw
        case rel => exact ⟨q + 1, m, c, A, by omega, by go_num, rfl, by omega, by rw [ER.out]; exact HLM.out, by rw [ER.out]; exact HOWN.out, hb⟩
        case measure => simp [intOf]; omega
      · have er : M.rootsTo power (q + 1) = M.rootsTo power q ++ [M.root (BitVec.ofNat 64 q) power] := by rw [M.rootsTo, if_pos hpr]
        have ER := Lib.hid er; clear er hpr
        go_wp2_with fail
        refine (root_any q power _ (by omega) h1 h2).mono ?_
        rintro e w1 ⟨rfl, hb1⟩
        have hown1 : w1.ownsRow w.heap.size 93 1 (.slice A m c) m (uv (M.rootsTo power q)) := by
          refine HOWN.out.kept (row := none) ⟨hb1.os, hb1.tape, hb1.output, hb1.size, fun k hk _ => hb1.block k hk⟩ ?_
          cases hv : (Value.slice A m c).ownBlock with
          | none => exact .inl rfl
          | some x => exact .inr (by simp)
        have hb2 : Below w.heap.size w w1 := hb.trans (hb1.mono hb.size)
        clear hb1 hb
        go_wp2_with (at_builtin; refine wpList_append_own _ rfl _ _ 97 rfl w.heap.size 93 i0 (.int .u64 0) 1 8 Tryz.underlying97 hi hz0 hz1 hz2 rfl (by decide) _ _ _ rfl (hown1.alloc _) ⟨w1.heap.size, 0, none⟩ 1 1 [W64 (M.root (BitVec.ofNat 64 q) power)] rfl rfl (cell_last _ _ _) (by intro u hu; simp at hu; subst hu; rfl) (by unfold maxLen; omega) (by omega) (by have := hb2.size; simp; omega) ?_; intro v' w3 hown3 hgrow3 _)
        have hb3 : Below w.heap.size w w3 := (hb2.alloc hb2.size _).grown hgrow3 (by have := hb2.size; simp; omega) (fun k' hk' => (hown1.lt k' hk').1)
        obtain ⟨g3, c3, rfl, _, _⟩ := own_some hown3 (by omega)
        clear hgrow3 hown1
        go_roundw
        case rel => exact ⟨q + 1, m + 1, c3, _, by omega, by go_num, rfl, by omega, by rw [ER.out, List.length_append, HLM.out]; rfl, by rw [ER.out, uv, List.map_append]; exact hown3, hb3⟩
        case measure => simp [intOf]; omega
    · have p3 : ¬ (m : Int) < (n : Int) := by omega
      have d3 : decide (m < n) = false := by simpa using h3
      have hmn : m = n := by omega
      have es : M.rootsTo power q = M.rootsTo power N := rootsTo_same hq (by rw [hlm, HL.out]; exact h3)
      have HMN := Lib.hid hmn; have ES := Lib.hid es; have HOWN := Lib.hid hown
      clear hmn es hown hlm
      go_wp2
      go_ret
      obtain ⟨g3, c3, e3, _, _⟩ := own_some HOWN.out (by omega)
      simp only [Value.slice.injEq] at e3
      obtain ⟨rfl, _, _⟩ := e3
      refine ⟨g3, c, by rw [← HMN.out]; rfl, ?_, hb⟩
      rw [← ES.out, ← HMN.out]
      exact HOWN.out
end Go.Proofs.YtidcfjmibljkeaaGreatDoor.K

/- The contract of the reference's message: the bytes, and what is put behind. -/
namespace Go.Proofs.YtidcfjmibljkeaaGreatDoor.K
open Go Go.RowKit

theorem msg_row (bs : List (BitVec 8)) (j : Nat) : bv (bs ++ [128#8] ++ List.replicate j 0#8) ++ [B8 0#8] = bv (bs ++ [128#8] ++ List.replicate (j + 1) 0#8) := by
  rw [List.replicate_succ', ← List.append_assoc, bv_append _ [0#8]]; rfl
/-- the last bytes, so many of them -/
def lastTo (n j : Nat) : List (BitVec 8) := (List.range j).map fun i => BitVec.ofNat 8 (n >>> (8 * (7 - i)))
theorem lastTo_succ (n j : Nat) : lastTo n (j + 1) = lastTo n j ++ [BitVec.ofNat 8 (n >>> (8 * (7 - j)))] := by simp [lastTo, List.range_succ]
theorem lastTo_eight (n : Nat) : lastTo n 8 = M.be8 n := rfl
theorem last_byte (m k : Nat) (hm : m < 18446744073709551616) : ((BitVec.ofNat 64 m) >>> k).setWidth 8 = BitVec.ofNat 8 (m >>> k) := by
  apply BitVec.eq_of_toNat_eq
  simp [BitVec.toNat_setWidth, Nat.mod_eq_of_lt hm]
theorem own_of_lit {w : World} {base : Nat} {e : TypeId} (hb : base ≤ w.heap.size) : (w.alloc (.cells #[] e)).ownsRow base e 1 (.slice (some ⟨w.heap.size, 0, none⟩) 0 0) 0 (bv []) :=
  World.ownsRow_lit w #[] 0 hb (by unfold maxLen; omega) rfl

theorem own_slice {w : World} {base size n : Nat} {e : TypeId} {v : Value} {xs : List Value} (h : w.ownsRow base e size v n xs) : ∃ A c, v = .slice A n c := by
  rcases h.2 with ⟨h0, rfl⟩ | ⟨g, cap, _, hv, _⟩
  · exact ⟨_, _, h0⟩
  · exact ⟨_, _, hv⟩
theorem cell_alloc_old {w : World} {a : Addr} {v : Value} (o : Obj) (h : w.cell? a = some v) : (w.alloc o).cell? a = some v :=
  (((Below.refl w.heap.size w).alloc (Nat.le_refl _) o).cell (block_lt_of_cell h)).trans h

set_option maxHeartbeats 1000000 in
set_option maxRecDepth 100000 in
theorem rmessage_any (A : Option Addr) (n c : Nat) (bs : List (BitVec 8)) (w : World) (hr : Rd w A bs) (hn : bs.length = n) (hn2 : n ≤ 1000000000000) (hnone : A = none → c = 0) :
    Calls Tryz.prog 67 #[.slice A n c] w fun e w' => ∃ g cap, e = .returned (.slice (some ⟨g, 0, none⟩) (M.total n) cap) ∧
      w'.ownsRow w.heap.size 5 1 (.slice (some ⟨g, 0, none⟩) (M.total n) cap) (M.total n) (bv (M.message bs)) ∧ Below w.heap.size w w' := by
  obtain ⟨i0, hi, hz0, hz1, hz2⟩ := info_parts infoByte
  have hnn : A = none → n = 0 ∧ c = 0 := fun h => ⟨by subst h; rw [← hn, hr.empty]; rfl, hnone h⟩
  have hlen : (bv bs).length = n * 1 := by rw [bv_length]; omega
  have hcells := hr.cells
  have HN := Lib.hid hn; have HR := Lib.hid hr; have HNN := Lib.hid hnn; have HL := Lib.hid hlen; have HC := Lib.hid hcells
  clear hn hr hnn hlen hcells hnone
  go_enter Tryz.func67, Tryz.ntmps67
  go_wp2_with (first
    | (at_builtin; refine wpList_append_own_any _ rfl _ _ 22 rfl w.heap.size 5 i0 (.int .u8 0) 1 1 Tryz.underlying22 hi hz0 hz1 hz2 rfl (by decide) _ 0 [] rfl (own_of_lit (Nat.le_refl _)) A n c (bv bs) rfl HNN.out HL.out (fun ad had j u hu => cell_alloc_old _ (HC.out ad had j u hu)) (bv_one bs) (by unfold maxLen; omega) (by omega) (by simp) ?_; intro v1 w1 hown1 hgrow1; rw [Nat.zero_add] at hown1; obtain ⟨A1, c1, rfl⟩ := own_slice hown1)
    | (at_builtin; refine wpList_append_own _ rfl _ _ 22 rfl w.heap.size 5 i0 (.int .u8 0) 1 1 Tryz.underlying22 hi hz0 hz1 hz2 rfl (by decide) _ _ _ rfl (hown1.alloc _) ⟨w1.heap.size, 0, none⟩ 1 1 [.int .u8 128] rfl rfl (cell_last _ _ _) (by intro u hu; simp at hu; subst hu; rfl) (by unfold maxLen; omega) (by omega) (by have := hgrow1.size; simp at this ⊢; omega) ?_; intro v2 w2 hown2 hgrow2 _))
  have hb2 : Below w.heap.size w w2 := ((((Below.refl w.heap.size w).alloc (Nat.le_refl _) _).grown hgrow1 (by simp) (fun k hk => ((own_of_lit (e := 5) (Nat.le_refl w.heap.size)).lt k hk).1)).alloc (by have := hgrow1.size; simp at this; omega) _).grown hgrow2 (by have := hgrow1.size; simp at this ⊢; omega) (fun k hk => (hown1.lt k hk).1)
  obtain ⟨g2, c2, rfl, _, _⟩ := own_some hown2 (by omega)
  have e2 : [] ++ bv bs ++ [Value.int .u8 128] = bv (bs ++ [128#8] ++ List.replicate 0 0#8) := by
    rw [List.replicate_zero, List.append_nil, bv_append]; rfl
  rw [e2] at hown2
  clear hgrow1 hgrow2 hown1
  have ht1 := M.total_ge n
  have ht2 : M.total n = (n + 8) / 64 * 64 + 64 := rfl
  have hmod := M.total_mod n
  obtain ⟨T, hT⟩ : ∃ T, T = M.total n := ⟨_, rfl⟩
  rw [← hT] at ht1 ht2 hmod
  have HT := Lib.hid hT; have HT2 := Lib.hid ht2; have HMOD := Lib.hid hmod
  have htn : T ≤ n + 72 := by omega
  clear hT ht2 hmod e2
  go_loopw [3] (fun v wr => ∃ (j m g cap : Nat), n + 1 + j + 8 ≤ T ∧ v = .slice (some ⟨g, 0, none⟩) m cap ∧ m = n + 1 + j ∧ wr.ownsRow w.heap.size 5 1 v m (bv (bs ++ [128#8] ++ List.replicate j 0#8)) ∧ Below w.heap.size w wr) (fun v _ => match v with | .slice _ m _ => T - m | _ => 0)
  case atStart => exact ⟨0, n + 1, g2, c2, by omega, by simp, rfl, by simpa using hown2, hb2⟩
  case round =>
    obtain ⟨j, m, g, cap, hj, rfl, hm, hown, hb⟩ := hrel
    have HM := Lib.hid hm; have HOWN := Lib.hid hown
    have hm1 : m + 8 ≤ T := by omega
    clear hm hown
    by_cases h56 : m % 64 = 56
    · have p56 : ((m : Int) % 64 != 56) = false := by simp; omega
      have hjT : j = T - n - 9 := by have := HT2.out; have := HM.out; omega
      have hmT : m = T - 8 := by have := HM.out; omega
      have HJT := Lib.hid hjT; have HMT := Lib.hid hmT
      have hown2 := HOWN.out
      rw [HM.out] at hown2
      clear HOWN
      clear h56 hjT hmT
      have em : Value.int .u64 ((n : Int) * 8) = W64 (BitVec.ofNat 64 (n * 8)) := by
        rw [W64, BitVec.toNat_ofNat, Nat.mod_eq_of_lt (by omega)]; simp
      have EM := Lib.hid em; clear em
      have hgrow := hown2
      have HO := Lib.hid hown2; clear hown2 hgrow
      go_wp2
      rw [EM.out]
      obtain ⟨u, hu⟩ : ∃ u, u = BitVec.ofNat 64 (n * 8) := ⟨_, rfl⟩
      rw [← hu]
      have HU := Lib.hid hu; clear hu
      go_loopw [3, 5] (fun v i wx => ∃ (q m' g' cap' : Nat), q ≤ 8 ∧ i = .int .i64 (7 - (q : Int)) ∧ v = .slice (some ⟨g', 0, none⟩) m' cap' ∧ m' = n + 1 + j + q ∧ wx.ownsRow w.heap.size 5 1 v m' (bv (bs ++ [128#8] ++ List.replicate j 0#8 ++ lastTo (n * 8) q)) ∧ Below w.heap.size w wx) (fun _ i _ => (intOf i + 1).toNat)
      case atStart => exact ⟨0, m, g, cap, by omega, by simp, rfl, by have := HM.out; omega, by rw [HM.out]; simpa [lastTo] using HO.out, hb⟩
      case round =>
        clear hb HO
        obtain ⟨q, m', g', cap', hq, rfl, rfl, hm', hown', hb'⟩ := hrel
        have HM' := Lib.hid hm'; have HO' := Lib.hid hown'
        have hmb : m' ≤ n + 100 := by have := HM.out; omega
        clear hm' hown'
        rcases Nat.lt_or_ge q 8 with h8 | h8
        · obtain ⟨k, hk⟩ : ∃ k, k = 7 - q := ⟨_, rfl⟩
          have ek : (7 - (q : Int)) = (k : Int) := by omega
          have k7 : k ≤ 7 := by omega
          have k0 : (0 : Int) ≤ (k : Int) := by omega
          have k8 : (0 : Int) ≤ 8 * (k : Int) := by omega
          have t8 : (8 * (k : Int)).toNat = 8 * k := by omega
          rw [ek]
          have HKQ := Lib.hid hk; have EK := Lib.hid ek
          clear hk ek
          go_wp2_with (at_builtin; refine wpList_append_own _ rfl _ _ 22 rfl w.heap.size 5 i0 (.int .u8 0) 1 1 Tryz.underlying22 hi hz0 hz1 hz2 rfl (by decide) _ _ _ rfl (HO'.out.alloc _) ⟨wr.heap.size, 0, none⟩ 1 1 [B8 ((u >>> (8 * k)).setWidth 8)] rfl rfl (cell_last _ _ _) (by intro x hx; simp at hx; subst hx; rfl) (by unfold maxLen; omega) (by omega) (by have := hb'.size; simp; omega) ?_; intro v3 w3 hown3 hgrow3 _)
          have hb3 : Below w.heap.size w w3 := (hb'.alloc hb'.size _).grown hgrow3 (by have := hb'.size; simp; omega) (fun k' hk' => (HO'.out.lt k' hk').1)
          obtain ⟨g3, c3, rfl, _, _⟩ := own_some hown3 (by omega)
          clear hgrow3
          go_roundw
          case rel =>
            refine ⟨q + 1, m' + 1, g3, c3, by omega, by have := EK.out; go_num, rfl, by have := HM'.out; omega, ?_, hb3⟩
            rw [lastTo_succ, ← List.append_assoc, bv_append _ [BitVec.ofNat 8 _], ← HKQ.out, ← last_byte _ _ (by omega), ← HU.out]
            exact hown3
          case measure => simp [intOf]
        · have hq8 : q = 8 := by omega
          have p8 : ¬ (0 : Int) ≤ 7 - (q : Int) := by omega
          have p9 : ¬ (q : Int) ≤ 7 := by omega
          have HQ8 := Lib.hid hq8; clear hq8
          go_wp2
          go_ret
          have e : m' = T := by have := HM'.out; have := HMT.out; have := HM.out; have := HQ8.out; omega
          refine ⟨g', cap', by rw [← HT.out, ← e]; rfl, ?_, hb'⟩
          have o := HO'.out
          rw [HQ8.out, lastTo_eight, HJT.out, HT.out, ← HN.out] at o
          rw [← HT.out, ← e]
          have em' : M.message bs = bs ++ [128#8] ++ List.replicate (M.total bs.length - bs.length - 9) 0#8 ++ M.be8 (bs.length * 8) := rfl
          rw [em']
          exact o
    · have p56 : ((m : Int) % 64 != 56) = true := by simp; omega
      have hj2 : n + 1 + (j + 1) + 8 ≤ T := by have := HT2.out; have := HM.out; omega
      clear h56
      go_wp2_with (at_builtin; refine wpList_append_own _ rfl _ _ 22 rfl w.heap.size 5 i0 (.int .u8 0) 1 1 Tryz.underlying22 hi hz0 hz1 hz2 rfl (by decide) _ _ _ rfl (HOWN.out.alloc _) ⟨wr.heap.size, 0, none⟩ 1 1 [.int .u8 0] rfl rfl (cell_last _ _ _) (by intro u hu; simp at hu; subst hu; rfl) (by unfold maxLen; omega) (by omega) (by have := hb.size; simp; omega) ?_; intro v3 w3 hown3 hgrow3 _)
      have hb3 : Below w.heap.size w w3 := (hb.alloc hb.size _).grown hgrow3 (by have := hb.size; simp; omega) (fun k' hk' => (HOWN.out.lt k' hk').1)
      obtain ⟨g3, c3, rfl, _, _⟩ := own_some hown3 (by omega)
      clear hgrow3
      go_roundw
      case rel => exact ⟨j + 1, m + 1, g3, c3, hj2, rfl, by have := HM.out; omega, by rw [← msg_row]; exact hown3, hb3⟩
      case measure => simp; omega
end Go.Proofs.YtidcfjmibljkeaaGreatDoor.K

/- The contract of the reference's words: a block's 64 words, each in a word of 64 bits. -/
namespace Go.Proofs.YtidcfjmibljkeaaGreatDoor.K
open Go Go.RowKit

abbrev ups (l : List (BitVec 32)) : List (BitVec 64) := l.map M.up
theorem ups_length (l : List (BitVec 32)) : (ups l).length = l.length := by simp
theorem ups_append (l : List (BitVec 32)) (x : BitVec 32) : uv (ups (l ++ [x])) = uv (ups l) ++ [W64 (M.up x)] := by simp [uv]
theorem own_cellU {w : World} {base : Nat} {e : TypeId} {g c n : Nat} {l : List (BitVec 32)} (h : w.ownsRow base e 1 (.slice (some ⟨g, 0, none⟩) n c) n (uv (ups l))) (i : Nat) (hi : i < l.length) : w.cell? ⟨g, i, none⟩ = some (W64 (M.up (M.at32 l i))) := by
  have hn : l.length = n := by have := h.1; simpa [uv] using this
  rw [h.cellAt i (by omega)]
  simp [uv, M.at32, hi]
theorem next_low (a b c d : BitVec 32) : (M.up a + (M.up (M.rot b 7) ^^^ M.up (M.rot b 18) ^^^ M.up (b >>> 3)) + M.up c + (M.up (M.rot d 17) ^^^ M.up (M.rot d 19) ^^^ M.up (d >>> 10))) &&& M.mask = M.up (a + M.sg0 b + c + M.sg1 d) := by
  rw [M.mask_low]
  congr 1
  simp only [BitVec.setWidth_add _ _ (show 32 ≤ 64 by omega), BitVec.setWidth_xor, M.low_up, M.sg0, M.sg1]

set_option maxHeartbeats 2000000 in
set_option maxRecDepth 100000 in
theorem rwords_any (A : Option Addr) (n c : Nat) (bs : List (BitVec 8)) (w : World) (hr : Rd w A bs) (hn : bs.length = 64) (hc : 64 ≤ c) (hnc : n = 64) (hc2 : c ≤ 9223372036854775807) :
    Calls Tryz.prog 68 #[.slice A n c] w fun e w' => ∃ g cap, e = .returned (.slice (some ⟨g, 0, none⟩) 64 cap) ∧
      w'.ownsRow w.heap.size 93 1 (.slice (some ⟨g, 0, none⟩) 64 cap) 64 (uv (ups (M.sched bs 64))) ∧ Below w.heap.size w w' := by
  obtain ⟨i0, hi, hz0, hz1, hz2⟩ := info_parts infoU
  subst hnc
  obtain ⟨b, o, rfl, hbl, hb0⟩ := hr.lay (by omega)
  rw [hn] at hb0
  have HB := Lib.hid hb0
  have HBL := Lib.hid hbl
  clear hr hn hb0 hbl
  go_enter Tryz.func68, Tryz.ntmps68
  go_wp2
  go_loopw [3, 4, 5] (fun v i _ wr => ∃ (k m cap : Nat) (A : Option Addr), k ≤ 16 ∧ i = .int .i64 k ∧ v = .slice A m cap ∧ m = k ∧ wr.ownsRow w.heap.size 93 1 v m (uv (ups (M.sched bs k))) ∧ Below w.heap.size w wr) (fun _ i _ _ => 16 - (intOf i).toNat)
  case atStart => exact ⟨0, 0, 0, none, by omega, rfl, rfl, rfl, World.ownsRow_nil _ _ _ _, Below.refl _ _⟩
  case round =>
    obtain ⟨k, m, cap, A, hk, rfl, rfl, hm, hown, hb⟩ := hrel
    have hm2 : m ≤ 16 := by omega
    have HM := Lib.hid hm; have HOWN := Lib.hid hown
    clear hm hown
    rcases Nat.lt_or_ge k 16 with h1 | h1
    · have i1 : (k : Int) < 16 := by omega
      have c0 : wr.cell? ⟨b, o + 4 * k, none⟩ = some (B8 (M.at8 bs (4 * k))) := (hb.cell HBL.out).trans (HB.out _ (by omega))
      have c1 : wr.cell? ⟨b, o + 4 * k + 1, none⟩ = some (B8 (M.at8 bs (4 * k + 1))) := (hb.cell HBL.out).trans (HB.out (4 * k + 1) (by omega))
      have c2 : wr.cell? ⟨b, o + 4 * k + 2, none⟩ = some (B8 (M.at8 bs (4 * k + 2))) := (hb.cell HBL.out).trans (HB.out (4 * k + 2) (by omega))
      have c3 : wr.cell? ⟨b, o + 4 * k + 3, none⟩ = some (B8 (M.at8 bs (4 * k + 3))) := (hb.cell HBL.out).trans (HB.out (4 * k + 3) (by omega))
      have hob : (Value.slice A m cap).ownBlock ≠ some b := fun h => by
        have := (HOWN.out.lt b h).1; have := HBL.out; omega
      have hbs := hb.size
      have hbl2 : b < wr.heap.size := by have := HBL.out; omega
      go_wp2_with fail
      go_region_held3 (fun w' => w'.cell? ⟨b, o + 4 * k, none⟩ = some (B8 (M.at8 bs (4 * k))) ∧ w'.cell? ⟨b, o + 4 * k + 1, none⟩ = some (B8 (M.at8 bs (4 * k + 1))) ∧ w'.cell? ⟨b, o + 4 * k + 2, none⟩ = some (B8 (M.at8 bs (4 * k + 2))) ∧ w'.cell? ⟨b, o + 4 * k + 3, none⟩ = some (B8 (M.at8 bs (4 * k + 3))))
        (first
          | go_keep
          | (go_split_ands
             refine ⟨?_, ?_, ?_, ?_⟩ <;> (rw [hgrow.cell_far _ (by simp; omega) (Ne.symm hob)]; assumption)))
        ((refine step_append_lies _ (by rfl) _ _ _ (by rfl) w.heap.size 93 i0 _ 1 8 Tryz.underlying97 hi hz0 hz1 hz2 rfl (by omega) (.slice A m cap) m _ (by rfl) ((HOWN.out.alloc _).drew)
            ⟨wr.heap.size, 0, none⟩ 1 1 [W64 _] (by rfl) (by rfl) (cell_last _ _ _) (by intro u hu; simp at hu; subst hu; rfl)
            (by omega) (by unfold maxLen; omega) (by omega) (by simp; omega) (wr.heap.size + 1) (by simp) ?_; intro g3 c3 w3 hown3 hgrow hat hlt))
      have hb3 : Below w.heap.size w w3 := (hb.alloc hb.size _).drew.grown hgrow (by simp; omega) (fun k' hk' => (HOWN.out.lt k' hk').1)
      clear hgrow hat hlt hob
      go_wp2
      go_roundw
      case rel =>
        refine ⟨k + 1, m + 1, c3, _, by omega, by go_num, rfl, by have := HM.out; omega, ?_, hb3⟩
        rw [M.sched, if_pos h1, ups_append, M.wordAt, ← M.word_up]
        exact hown3
      case measure => simp [intOf]; omega
    · have i1 : ¬ (k : Int) < 16 := by omega
      have hk16 : k = 16 := by omega
      have hown := HOWN.out
      rw [HM.out, hk16] at hown
      have hm16 : m = 16 := by have := HM.out; omega
      have HM16 := Lib.hid hm16
      have HO := Lib.hid hown
      clear hown hk16 HOWN hm16
      go_wp2
      go_loopw [3, 6, 7, 8, 9, 10] (fun v i _ _ _ _ wr => ∃ (k m cap : Nat) (A : Option Addr), 16 ≤ k ∧ k ≤ 64 ∧ i = .int .i64 k ∧ v = .slice A m cap ∧ m = k ∧ wr.ownsRow w.heap.size 93 1 v m (uv (ups (M.sched bs k))) ∧ Below w.heap.size w wr) (fun _ i _ _ _ _ _ => 64 - (intOf i).toNat)
      case atStart => exact ⟨16, m, cap, A, by omega, by omega, rfl, rfl, HM16.out, by rw [HM16.out]; exact HO.out, hb⟩
      case round =>
        clear HO hb HM HM16 i1
        obtain ⟨k, m, cap, A, hk, hk2, rfl, rfl, hm, hown, hb⟩ := hrel
        have HM := Lib.hid hm
        have hm2 : m ≤ 64 := by omega
        have hm3 : 16 ≤ m := by omega
        obtain ⟨g, cap', e, hgl, hgs⟩ := own_some hown (by omega)
        simp only [Value.slice.injEq, true_and] at e
        obtain ⟨rfl, rfl⟩ := e
        have HOWN := Lib.hid hown
        rcases Nat.lt_or_ge k 64 with h1 | h1
        · have i1 : (k : Int) < 64 := by omega
          have at' : ∀ d, 0 < d → d ≤ 16 → wr.cell? ⟨g, k - d, none⟩ = some (W64 (M.up (M.at32 (M.sched bs k) (k - d)))) := fun d h0 hd => own_cellU hown _ (by rw [M.sched_length]; omega)
          have c2 := at' 2 (by omega) (by omega)
          have c7 := at' 7 (by omega) (by omega)
          have c15 := at' 15 (by omega) (by omega)
          have c16 := at' 16 (by omega) (by omega)
          have g16 : ((k : Int) - 16).toNat = k - 16 := by omega
          have g7 : ((k : Int) - 7).toNat = k - 7 := by omega
          have g2 : ((k : Int) - 2).toNat = k - 2 := by omega
          have g15 : ((k : Int) - 15).toNat = k - 15 := by omega
          have l16 : (k : Int) - 16 < (m : Int) := by omega
          have l7 : (k : Int) - 7 < (m : Int) := by omega
          have l2 : (k : Int) - 2 < (m : Int) := by omega
          have l15 : (k : Int) - 15 < (m : Int) := by omega
          clear hown at' hm
          have f2 : IntKind.i64.wrap ((k : Int) - 2) = (k : Int) - 2 := IntWalk.i64_in _ (by omega)
          have f15 : IntKind.i64.wrap ((k : Int) - 15) = (k : Int) - 15 := IntWalk.i64_in _ (by omega)
          have m15 : (15 : Int) ≤ (k : Int) := by omega
          have m2 : (2 : Int) ≤ (k : Int) := by omega
          have n15 : (0 : Int) ≤ (k : Int) - 15 := by omega
          have n2 : (0 : Int) ≤ (k : Int) - 2 := by omega
          go_wp2_with fail
          go_quiet (fail)
          clear f2 f15 m15 m2 n15 n2 g2 g15 l2 l15
          go_wp2_with fail
          refine (turned_low _ 7 _ (by decide) (by decide)).mono ?_
          rintro e w7 ⟨rfl, rfl⟩
          go_wp2_with fail
          refine (turned_low _ 18 _ (by decide) (by decide)).mono ?_
          rintro e w18 ⟨rfl, rfl⟩
          go_wp2_with fail
          refine (moved_low _ 3 _ (by decide)).mono ?_
          rintro e w3 ⟨rfl, rfl⟩
          go_wp2_with fail
          refine (turned_low _ 17 _ (by decide) (by decide)).mono ?_
          rintro e w17 ⟨rfl, rfl⟩
          go_wp2_with fail
          refine (turned_low _ 19 _ (by decide) (by decide)).mono ?_
          rintro e w19 ⟨rfl, rfl⟩
          go_wp2_with fail
          refine (moved_low _ 10 _ (by decide)).mono ?_
          rintro e w10 ⟨rfl, rfl⟩
          go_wp2_with fail
          have hO2 : (wr.drewN nq).ownsRow w.heap.size 93 1 (.slice (some ⟨g, 0, none⟩) m cap) m (uv (ups (M.sched bs k))) := HOWN.out
          have HO2 := Lib.hid hO2
          have hb2 : Below w.heap.size w (wr.drewN nq) := below_drewN hb _
          have d16 : (wr.drewN nq).cell? ⟨g, k - 16, none⟩ = some (W64 (M.up (M.at32 (M.sched bs k) (k - 16)))) := c16
          have d7 : (wr.drewN nq).cell? ⟨g, k - 7, none⟩ = some (W64 (M.up (M.at32 (M.sched bs k) (k - 7)))) := c7
          clear c2 c7 c15 c16 HOWN hb hgs hO2
          generalize wr.drewN nq = wz at *
          have hbs := hb2.size
          have hgs : g < wz.heap.size := block_lt_of_cell d7
          have b16 : k - 16 < m * 1 := by have := HM.out; omega
          have b7 : k - 7 < m * 1 := by have := HM.out; omega
          have f16 : IntKind.i64.wrap ((k : Int) - 16) = (k : Int) - 16 := IntWalk.i64_in _ (by omega)
          have f7 : IntKind.i64.wrap ((k : Int) - 7) = (k : Int) - 7 := IntWalk.i64_in _ (by omega)
          have n16 : (0 : Int) ≤ (k : Int) - 16 := by omega
          have n7 : (0 : Int) ≤ (k : Int) - 7 := by omega
          have m16 : (16 : Int) ≤ (k : Int) := by omega
          have m7 : (7 : Int) ≤ (k : Int) := by omega
          go_region_held3 (fun w' => w'.cell? ⟨g, k - 16, none⟩ = some (W64 (M.up (M.at32 (M.sched bs k) (k - 16)))) ∧ w'.cell? ⟨g, k - 7, none⟩ = some (W64 (M.up (M.at32 (M.sched bs k) (k - 7)))))
            (first
              | (go_split_ands; refine ⟨(hkeep _ b16).trans ?_, (hkeep _ b7).trans ?_⟩ <;> assumption)
              | go_keep)
            ((refine step_append_keep _ (by rfl) _ _ _ (by rfl) w.heap.size 93 i0 _ 1 8 Tryz.underlying97 hi hz0 hz1 hz2 rfl (by omega) g m cap _ (by rfl) ((HO2.out.alloc _).drew)
                ⟨wz.heap.size, 0, none⟩ 1 1 [W64 _] (by rfl) (by rfl) (cell_last _ _ _) (by intro u hu; simp at hu; subst hu; rfl)
                (by omega) (by unfold maxLen; omega) (by omega) (by simp; omega) (wz.heap.size + 1) (by simp) ?_; intro g3 c3 w3 hown3 hgrow hat hlt hkeep))
          have hb3 : Below w.heap.size w w3 := (hb2.alloc hb2.size _).drew.grown hgrow (by simp; omega) (fun k' hk' => by cases hk'; exact hgl)
          clear f16 f7 n16 n7 m16 m7 b16 b7 g16 g7 l16 l7 hgrow hat hlt hkeep d16 d7
          go_wp2
          go_roundw
          case rel =>
            refine ⟨k + 1, m + 1, c3, _, by omega, by omega, by go_num, rfl, by have := HM.out; omega, ?_, hb3⟩
            rw [M.sched, if_neg (by omega), ups_append, M.next, ← next_low]
            exact hown3
          case measure => simp [intOf]; omega
        · have hk64 : k = 64 := by omega
          have i1 : ¬ (k : Int) < 64 := by omega
          rw [hk64] at hown
          have hm64 : m = 64 := by omega
          have HO2 := Lib.hid hown; have HM64 := Lib.hid hm64
          clear HOWN hown hk64 hm64 hm
          go_wp2
          go_ret
          refine ⟨g, cap, by rw [← HM64.out]; rfl, ?_, hb⟩
          have o := HO2.out
          rw [HM64.out] at o
          exact o
end Go.Proofs.YtidcfjmibljkeaaGreatDoor.K
