/- Contracts of the reference's root and roots. -/
import Derived.Test.YtjnhfmicadcmnaaDoorRefRoot
namespace Go.Proofs.YtjnhfmicadcmnaaDoor.K
open Go Go.RowKit

theorem RdU.of_own {w : World} {base : Nat} {e : TypeId} {A : Option Addr} {n c : Nat} {l : List (BitVec 64)} (h : w.ownsRow base e 1 (.slice A n c) n (uv l)) : RdU w A l := by
  rcases h.2 with ⟨h1, h2⟩ | ⟨g, cap, cur, hv, _, hg, _, _, _, ht⟩
  · have : l.length = n := by have := h.1; rw [uv_length] at this; omega
    rw [show l = [] from List.eq_nil_of_length_eq_zero (by omega)]
    intro k hk
    exact absurd hk (Nat.not_lt_zero _)
  · simp only [Value.slice.injEq] at hv
    obtain ⟨rfl, _, _⟩ := hv
    have hl : n * 1 = l.length := by have := h.1; rw [uv_length] at this; omega
    rw [hl] at ht
    intro k hk
    refine ⟨g, 0, rfl, ?_⟩
    rw [cell_of_row w g (0 + k) cur e _ hg, Nat.zero_add]
    have e : (cur.toList.take l.length)[k]? = cur[k]? := by rw [List.getElem?_take, if_pos hk]; simp
    rw [← e, ht]
    simp [uv, hk]
theorem own_some {w : World} {base : Nat} {e : TypeId} {v : Value} {n : Nat} {xs : List Value} (h : w.ownsRow base e 1 v n xs) (hn : 0 < n) : ∃ g cap, v = .slice (some ⟨g, 0, none⟩) n cap ∧ base ≤ g ∧ g < w.heap.size := by
  rcases h.2 with ⟨_, h0⟩ | ⟨g, cap, cur, hv, hb, hg, _⟩
  · omega
  · exact ⟨g, cap, hv, hb, (Array.getElem?_eq_some_iff.1 hg).1⟩
theorem shl_one (t : TypeId) (yk : IntKind) (c : Int) (hc : 0 ≤ c) : binOp .shl t (.int .u64 1) (.int yk c) = pure (W64 (1#64 <<< c.toNat)) := W64_shl t 1#64 yk c hc
theorem powTo_length (n : List (BitVec 64)) (i : Nat) : (M.powTo n i).length = n.length * (i + 1) := by
  induction i with
  | zero => simp [M.powTo]
  | succ i ih => rw [M.powTo, M.times, M.timesTo_length, ih, Nat.mul_succ n.length (i + 1)]
theorem rootTo_succ (p : BitVec 64) (power j : Nat) (x t : BitVec 64) (hx : x = M.rootTo p power j) (ht : t = x ||| (1#64 <<< (36 - j))) :
    M.rootTo p power (j + 1) = if M.above (M.powTo (M.limbs t) (power - 1)) (M.goal p power) then x else t := by rw [M.rootTo, ht, hx]; rfl
theorem cells2 (w : World) (a b : Value) (t : TypeId) : ∀ j u, [a, b][j]? = some u → (w.alloc (.cells #[a, b] t)).cell? ((⟨w.heap.size, 0, none⟩ : Addr).add j) = some u := by
  intro j u hu
  rw [Addr.add_lit, World.cell?_alloc_new, Nat.zero_add, ← hu]
  simp

set_option maxHeartbeats 2000000 in
set_option maxRecDepth 100000 in
theorem root_any (p power : Nat) (w : World) (hp : p ≤ 1000000) (h1 : 1 ≤ power) (h2 : power ≤ 1000) :
    Calls Tryd.prog 42 #[.int .u64 (p : Int), .int .i64 (power : Int)] w fun e w' => e = .returned (W64 (M.root (BitVec.ofNat 64 p) power)) ∧ Below w.heap.size w w' := by
  obtain ⟨i0, hi, hz0, hz1, hz2⟩ := info_parts infoU
  have ep : Value.int .u64 (p : Int) = W64 (BitVec.ofNat 64 p) := by
    rw [W64, BitVec.toNat_ofNat, Nat.mod_eq_of_lt (by omega)]
  have EP := Lib.hid ep; clear ep
  go_enter Tryd.func42, Tryd.ntmps42
  go_wp2_with (first
    | (at_make; refine wpList_make_full _ rfl _ _ 40 rfl w.heap.size 43 i0 (.int .u64 0) 1 Tryd.underlying40 hi hz0 hz1 _ _ _ _ power rfl rfl rfl rfl (by rw [hz2]; omega) (by unfold maxLen; omega) (Nat.le_refl _) ?_; intro w1 hown1 hgrow1)
    | (at_builtin; refine wpList_append_own _ rfl _ _ 40 rfl w.heap.size 43 i0 (.int .u64 0) 1 8 Tryd.underlying40 hi hz0 hz1 hz2 rfl (by decide) _ _ _ rfl (hown1.alloc _) ⟨w1.heap.size, 0, none⟩ 1 1 [.int .u64 (p : Int)] rfl rfl (cell_last _ _ _) (by intro u hu; simp at hu; subst hu; rfl) (by unfold maxLen; omega) (by omega) (by have := hgrow1.size; simp; omega) ?_; intro v' w2 hown2 hgrow2 _))
  have hb2 : Below w.heap.size w w2 := (((Below.refl w.heap.size w).grown hgrow1 (Nat.le_refl _) (by simp)).alloc hgrow1.size _).grown hgrow2 (by have := hgrow1.size; simp; omega) (fun k' hk' => (hown1.lt k' hk').1)
  have eg : (madeCells (Value.int .u64 0).cells (power * 1)).toList ++ [Value.int .u64 (p : Int)] = uv (M.goal (BitVec.ofNat 64 p) power) := by
    rw [Nat.mul_one, show (Value.int .u64 0).cells = #[Value.int .u64 0] from rfl, toList_madeCells_one, EP.out, M.goal, uv, List.map_append, List.map_replicate]; rfl
  rw [eg] at hown2
  obtain ⟨gg, cg, rfl, hgg, hgs⟩ := own_some hown2 (by omega)
  have hrg := RdU.of_own hown2
  have HRG := Lib.hid hrg
  clear hown1 hgrow1 hown2 hgrow2 eg hrg hgg
  have HB2 := Lib.hid hb2; clear hb2
  have hgl : (M.goal (BitVec.ofNat 64 p) power).length = power + 1 := by simp [M.goal]
  have HGL := Lib.hid hgl; clear hgl
  go_wp2
  go_loopw [6, 7] (fun x i wr => ∃ j : Nat, j ≤ 37 ∧ i = .int .i64 (36 - (j : Int)) ∧ x = W64 (M.rootTo (BitVec.ofNat 64 p) power j) ∧ RdU wr (some ⟨gg, 0, none⟩) (M.goal (BitVec.ofNat 64 p) power) ∧ Below w.heap.size w wr) (fun _ i _ => (intOf i + 1).toNat)
  case atStart => exact ⟨0, by omega, by simp, rfl, HRG.out, HB2.out⟩
  case round =>
    clear HRG HB2
    obtain ⟨j, hj, rfl, rfl, hrd, hb⟩ := hrel
    rcases Nat.lt_or_ge j 37 with h3 | h3
    · have p0 : (0 : Int) ≤ 36 - (j : Int) := by omega
      have pj : (j : Int) ≤ 36 := by omega
      have s1 := shl_one
      have e36 : (36 - (j : Int)).toNat = 36 - j := by omega
      obtain ⟨x, hx⟩ : ∃ x, x = M.rootTo (BitVec.ofNat 64 p) power j := ⟨_, rfl⟩
      rw [← hx]
      have HX := Lib.hid hx; have HRD := Lib.hid hrd
      clear hx hrd
      go_wp2
      obtain ⟨t, ht⟩ : ∃ t, t = x ||| (1#64 <<< (36 - j)) := ⟨_, rfl⟩
      rw [← ht]
      have hrn : RdU (wr.alloc (.cells #[W64 (t &&& M.mask), W64 (t >>> 32)] 43)) (some ⟨wr.heap.size, 0, none⟩) (M.limbs t) := RdU.of_block (heap_alloc_new wr _)
      have hrg2 : RdU (wr.alloc (.cells #[W64 (t &&& M.mask), W64 (t >>> 32)] 43)) (some ⟨gg, 0, none⟩) (M.goal (BitVec.ofNat 64 p) power) := HRD.out.below ((Below.refl _ _).alloc (Nat.le_refl _) _)
      have hb3 := hb.alloc hb.size (.cells #[W64 (t &&& M.mask), W64 (t >>> 32)] 43)
      have hws := hb.size
      have HT := Lib.hid ht; have HRN := Lib.hid hrn; have HRG2 := Lib.hid hrg2; have HB3 := Lib.hid hb3
      clear ht hrn hrg2 hb3 hb
      generalize World.alloc wr _ = w5 at *
      obtain ⟨N, hN⟩ : ∃ N, N = wr.heap.size := ⟨_, rfl⟩
      rw [← hN] at HRN
      rw [← hN]
      clear hN hws
      obtain ⟨wo, hwo⟩ : ∃ wo, wo = wr := ⟨_, rfl⟩
      go_loopw [10, 11] (fun v i wx => ∃ (q m : Nat) (A : Option Addr), q + 1 ≤ power ∧ i = .int .i64 ((q : Int) + 1) ∧ v = .slice A m m ∧ m = 2 * (q + 1) ∧ RdU wx A (M.powTo (M.limbs t) q) ∧ RdU wx (some ⟨N, 0, none⟩) (M.limbs t) ∧
        RdU wx (some ⟨gg, 0, none⟩) (M.goal (BitVec.ofNat 64 p) power) ∧ Below w.heap.size w wx) (fun _ i _ => power - (intOf i).toNat)
      case atStart => exact ⟨0, 2, _, by omega, rfl, rfl, rfl, HRN.out, HRN.out, HRG2.out, HB3.out⟩
      case round =>
        clear HRN HRG2 HB3 hwo
        obtain ⟨q, m, A, hq, rfl, rfl, hm, hra, hrn, hrg, hb⟩ := hrel
        have pl : (M.powTo (M.limbs t) q).length = m := by rw [powTo_length, hm]; rfl
        have hm2 : m ≤ 100000 := by omega
        have HRA := Lib.hid hra; have HRN := Lib.hid hrn; have HRG := Lib.hid hrg; have PL := Lib.hid pl; have HM := Lib.hid hm
        clear hra hrn hrg pl hm
        by_cases h4 : q + 1 < power
        · have p4 : (q : Int) + 1 < (power : Int) := by omega
          go_wp2_with fail
          refine (times_any A _ m 2 m 2 _ _ _ HRA.out HRN.out PL.out rfl (by omega) (by omega)).mono ?_
          rintro e w6 ⟨g6, rfl, hg6l, hg6, hb6⟩
          have hra6 : RdU w6 (some ⟨g6, 0, none⟩) (M.powTo (M.limbs t) (q + 1)) := RdU.of_block hg6
          have hrn6 := HRN.out.below hb6
          have hrg6 := HRG.out.below hb6
          have hb7 : Below w.heap.size w w6 := hb.trans (hb6.mono hb.size)
          clear hg6 hg6l hb6
          have h1' := Lib.hid hra6; have h2' := Lib.hid hrn6; have h3' := Lib.hid hrg6
          clear hra6 hrn6 hrg6
          go_wp2
          go_roundw
          case rel => exact ⟨q + 1, m + 2, _, by omega, by go_num, rfl, by have := HM.out; omega, h1'.out, h2'.out, h3'.out, hb7⟩
          case measure => simp [intOf]; omega
        · have p4 : ¬ (q : Int) + 1 < (power : Int) := by omega
          have hq2 : q = power - 1 := by omega
          have HQ := Lib.hid hq2; clear hq2
          go_wp2_with fail
          refine (above_any A _ m (power + 1) m cg _ _ _ HRA.out HRG.out PL.out HGL.out (by omega) (by omega)).mono ?_
          rintro e w6 ⟨rfl, rfl⟩
          have er := rootTo_succ (BitVec.ofNat 64 p) power j x t HX.out HT.out
          rw [← HQ.out] at er
          have ER := Lib.hid er; clear er
          cases hab : M.above (M.powTo (M.limbs t) q) (M.goal (BitVec.ofNat 64 p) power)
          · have HAB := Lib.hid hab; clear hab
            go_wp2
            go_roundw
            case rel => exact ⟨j + 1, by omega, by go_num, by rw [ER.out, HAB.out]; rfl, HRG.out, hb⟩
            case measure => simp [intOf]; omega
          · have HAB := Lib.hid hab; clear hab
            go_wp2
            go_roundw
            case rel => exact ⟨j + 1, by omega, by go_num, by rw [ER.out, HAB.out]; rfl, HRG.out, hb⟩
            case measure => simp [intOf]; omega
    · have hj37 : j = 37 := by omega
      have p0 : ¬ (0 : Int) ≤ 36 - (j : Int) := by omega
      have pj : ¬ (j : Int) ≤ 36 := by omega
      have HJ := Lib.hid hj37; clear hj37 hrd
      go_wp2
      go_ret
      refine ⟨?_, hb⟩
      rw [M.root, ← HJ.out]; rfl

theorem rootsTo_prefix (power a b : Nat) (h : a ≤ b) : M.rootsTo power a <+: M.rootsTo power b := by
  induction b with
  | zero => rw [show a = 0 by omega]; exact List.prefix_refl _
  | succ b ih =>
    rcases Nat.lt_or_ge a (b + 1) with h1 | h1
    · refine (ih (by omega)).trans ?_
      rw [M.rootsTo]
      split
      · exact List.prefix_append _ _
      · exact List.prefix_refl _
    · rw [show a = b + 1 by omega]; exact List.prefix_refl _
theorem rootsTo_same {power a b : Nat} (h : a ≤ b) (hl : (M.rootsTo power b).length ≤ (M.rootsTo power a).length) : M.rootsTo power a = M.rootsTo power b :=
  (rootsTo_prefix power a b h).eq_of_length_le hl
theorem rootsTo_two (power : Nat) : M.rootsTo power 2 = [] := by
  have h0 : M.prime 0 = false := by decide
  have h1 : M.prime 1 = false := by decide
  simp [M.rootsTo, h0, h1]

set_option maxHeartbeats 2000000 in
set_option maxRecDepth 100000 in
theorem roots_any (n power N : Nat) (w : World) (hN : 2 ≤ N) (hN2 : N ≤ 10000) (hl : (M.rootsTo power N).length = n) (h1 : 1 ≤ power) (h2 : power ≤ 1000) (hn2 : n ≤ 10000) (hn1 : 0 < n) :
    Calls Tryd.prog 27 #[.int .i64 (n : Int), .int .i64 (power : Int)] w fun e w' => ∃ g cap, e = .returned (.slice (some ⟨g, 0, none⟩) n cap) ∧
      w'.ownsRow w.heap.size 43 1 (.slice (some ⟨g, 0, none⟩) n cap) n (uv (M.rootsTo power N)) ∧ Below w.heap.size w w' := by
  obtain ⟨i0, hi, hz0, hz1, hz2⟩ := info_parts infoU
  have HL := Lib.hid hl; clear hl
  go_enter Tryd.func27, Tryd.ntmps27
  go_wp2
  go_loopw [5, 6] (fun v i wr => ∃ (q m c : Nat) (A : Option Addr), q ≤ N ∧ i = .int .u64 (q : Int) ∧ v = .slice A m c ∧ m ≤ n ∧ (M.rootsTo power q).length = m ∧
      wr.ownsRow w.heap.size 43 1 v m (uv (M.rootsTo power q)) ∧ Below w.heap.size w wr) (fun _ i _ => N - (intOf i).toNat)
  case atStart => exact ⟨2, 0, 0, none, hN, rfl, rfl, by omega, by rw [rootsTo_two]; rfl, by rw [rootsTo_two]; exact World.ownsRow_nil _ _ _ _, Below.refl _ _⟩
  case round =>
    obtain ⟨q, m, c, A, hq, rfl, rfl, hm, hlm, hown, hb⟩ := hrel
    rcases Nat.lt_or_ge m n with h3 | h3
    · have p3 : (m : Int) < (n : Int) := by omega
      have d3 : decide (m < n) = true := by simpa using h3
      have hqN : q < N := by
        rcases Nat.lt_or_ge q N with h | h
        · exact h
        · exfalso
          have e : q = N := by omega
          rw [e, HL.out] at hlm
          omega
      have HLM := Lib.hid hlm; have HOWN := Lib.hid hown
      clear hlm hown
      go_wp2_with fail
      refine (prime_any q _ (by omega)).mono ?_
      rintro e w1 ⟨rfl, rfl⟩
      cases hpr : M.prime q
      · have er : M.rootsTo power (q + 1) = M.rootsTo power q := by rw [M.rootsTo, hpr]; rfl
        have ER := Lib.hid er; clear er hpr
        go_wp2
        go_roundw
        case rel => exact ⟨q + 1, m, c, A, by omega, by go_num, rfl, by omega, by rw [ER.out]; exact HLM.out, by rw [ER.out]; exact HOWN.out, hb⟩
        case measure => simp [intOf]; omega
      · have er : M.rootsTo power (q + 1) = M.rootsTo power q ++ [M.root (BitVec.ofNat 64 q) power] := by rw [M.rootsTo, if_pos hpr]
        have ER := Lib.hid er; clear er hpr
        go_wp2_with fail
        refine (root_any q power _ (by omega) h1 h2).mono ?_
        rintro e w1 ⟨rfl, hb1⟩
        have hown1 : w1.ownsRow w.heap.size 43 1 (.slice A m c) m (uv (M.rootsTo power q)) := by
          refine HOWN.out.kept (row := none) ⟨hb1.os, hb1.tape, hb1.output, hb1.size, fun k hk _ => hb1.block k hk⟩ ?_
          cases hv : (Value.slice A m c).ownBlock with
          | none => exact .inl rfl
          | some x => exact .inr (by simp)
        have hb2 : Below w.heap.size w w1 := hb.trans (hb1.mono hb.size)
        clear hb1 hb
        go_wp2_with (at_builtin; refine wpList_append_own _ rfl _ _ 40 rfl w.heap.size 43 i0 (.int .u64 0) 1 8 Tryd.underlying40 hi hz0 hz1 hz2 rfl (by decide) _ _ _ rfl (hown1.alloc _) ⟨w1.heap.size, 0, none⟩ 1 1 [W64 (M.root (BitVec.ofNat 64 q) power)] rfl rfl (cell_last _ _ _) (by intro u hu; simp at hu; subst hu; rfl) (by unfold maxLen; omega) (by omega) (by have := hb2.size; simp; omega) ?_; intro v' w3 hown3 hgrow3 _)
        have hb3 : Below w.heap.size w w3 := (hb2.alloc hb2.size _).grown hgrow3 (by have := hb2.size; simp; omega) (fun k' hk' => (hown1.lt k' hk').1)
        obtain ⟨g3, c3, rfl, _, _⟩ := own_some hown3 (by omega)
        clear hgrow3 hown1
        go_roundw
        case rel => exact ⟨q + 1, m + 1, c3, _, by omega, by go_num, rfl, by omega, by rw [ER.out, List.length_append, HLM.out]; rfl, by rw [ER.out, uv, List.map_append]; exact hown3, hb3⟩
        case measure => simp [intOf]; omega
    · have p3 : ¬ (m : Int) < (n : Int) := by omega
      have d3 : decide (m < n) = false := by simpa using h3
      have hmn : m = n := by omega
      have es : M.rootsTo power q = M.rootsTo power N := rootsTo_same hq (by rw [hlm, HL.out]; exact h3)
      have HMN := Lib.hid hmn; have ES := Lib.hid es; have HOWN := Lib.hid hown
      clear hmn es hown hlm
      go_wp2
      go_ret
      obtain ⟨g3, c3, e3, _, _⟩ := own_some HOWN.out (by omega)
      simp only [Value.slice.injEq] at e3
      obtain ⟨rfl, _, _⟩ := e3
      refine ⟨g3, c, by rw [← HMN.out]; rfl, ?_, hb⟩
      rw [← ES.out, ← HMN.out]
      exact HOWN.out
end Go.Proofs.YtjnhfmicadcmnaaDoor.K
