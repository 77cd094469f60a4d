/- The contract of the reference's words: a block's 64 words, each in a word of 64 bits. -/
import Derived.Test.YtjnhfmicadcmnaaDoorRefMsg
import Derived.Deep.RegionHeld3
import Derived.Deep.AppendLies
import Derived.Test.YtjnhfmicadcmnaaDoorAppend
namespace Go.Proofs.YtjnhfmicadcmnaaDoor.K
open Go Go.RowKit

abbrev ups (l : List (BitVec 32)) : List (BitVec 64) := l.map M.up
theorem ups_length (l : List (BitVec 32)) : (ups l).length = l.length := by simp
theorem ups_append (l : List (BitVec 32)) (x : BitVec 32) : uv (ups (l ++ [x])) = uv (ups l) ++ [W64 (M.up x)] := by simp [uv]
theorem own_cellU {w : World} {base : Nat} {e : TypeId} {g c n : Nat} {l : List (BitVec 32)} (h : w.ownsRow base e 1 (.slice (some ⟨g, 0, none⟩) n c) n (uv (ups l))) (i : Nat) (hi : i < l.length) : w.cell? ⟨g, i, none⟩ = some (W64 (M.up (M.at32 l i))) := by
  have hn : l.length = n := by have := h.1; simpa [uv] using this
  rw [h.cellAt i (by omega)]
  simp [uv, M.at32, hi]
theorem next_low (a b c d : BitVec 32) : (M.up a + (M.up (M.rot b 7) ^^^ M.up (M.rot b 18) ^^^ M.up (b >>> 3)) + M.up c + (M.up (M.rot d 17) ^^^ M.up (M.rot d 19) ^^^ M.up (d >>> 10))) &&& M.mask = M.up (a + M.sg0 b + c + M.sg1 d) := by
  rw [M.mask_low]
  congr 1
  simp only [BitVec.setWidth_add _ _ (show 32 ≤ 64 by omega), BitVec.setWidth_xor, M.low_up, M.sg0, M.sg1]

set_option maxHeartbeats 2000000 in
set_option maxRecDepth 100000 in
theorem rwords_any (A : Option Addr) (n c : Nat) (bs : List (BitVec 8)) (w : World) (hr : Rd w A bs) (hn : bs.length = 64) (hc : 64 ≤ c) (hnc : n = 64) (hc2 : c ≤ 9223372036854775807) :
    Calls Tryd.prog 29 #[.slice A n c] w fun e w' => ∃ g cap, e = .returned (.slice (some ⟨g, 0, none⟩) 64 cap) ∧
      w'.ownsRow w.heap.size 43 1 (.slice (some ⟨g, 0, none⟩) 64 cap) 64 (uv (ups (M.sched bs 64))) ∧ Below w.heap.size w w' := by
  obtain ⟨i0, hi, hz0, hz1, hz2⟩ := info_parts infoU
  subst hnc
  obtain ⟨b, o, rfl, hbl, hb0⟩ := hr.lay (by omega)
  rw [hn] at hb0
  have HB := Lib.hid hb0
  have HBL := Lib.hid hbl
  clear hr hn hb0 hbl
  go_enter Tryd.func29, Tryd.ntmps29
  go_wp2
  go_loopw [3, 4, 5] (fun v i _ wr => ∃ (k m cap : Nat) (A : Option Addr), k ≤ 16 ∧ i = .int .i64 k ∧ v = .slice A m cap ∧ m = k ∧ wr.ownsRow w.heap.size 43 1 v m (uv (ups (M.sched bs k))) ∧ Below w.heap.size w wr) (fun _ i _ _ => 16 - (intOf i).toNat)
  case atStart => exact ⟨0, 0, 0, none, by omega, rfl, rfl, rfl, World.ownsRow_nil _ _ _ _, Below.refl _ _⟩
  case round =>
    obtain ⟨k, m, cap, A, hk, rfl, rfl, hm, hown, hb⟩ := hrel
    have hm2 : m ≤ 16 := by omega
    have HM := Lib.hid hm; have HOWN := Lib.hid hown
    clear hm hown
    rcases Nat.lt_or_ge k 16 with h1 | h1
    · have i1 : (k : Int) < 16 := by omega
      have c0 : wr.cell? ⟨b, o + 4 * k, none⟩ = some (B8 (M.at8 bs (4 * k))) := (hb.cell HBL.out).trans (HB.out _ (by omega))
      have c1 : wr.cell? ⟨b, o + 4 * k + 1, none⟩ = some (B8 (M.at8 bs (4 * k + 1))) := (hb.cell HBL.out).trans (HB.out (4 * k + 1) (by omega))
      have c2 : wr.cell? ⟨b, o + 4 * k + 2, none⟩ = some (B8 (M.at8 bs (4 * k + 2))) := (hb.cell HBL.out).trans (HB.out (4 * k + 2) (by omega))
      have c3 : wr.cell? ⟨b, o + 4 * k + 3, none⟩ = some (B8 (M.at8 bs (4 * k + 3))) := (hb.cell HBL.out).trans (HB.out (4 * k + 3) (by omega))
      have hob : (Value.slice A m cap).ownBlock ≠ some b := fun h => by
        have := (HOWN.out.lt b h).1; have := HBL.out; omega
      have hbs := hb.size
      have hbl2 : b < wr.heap.size := by have := HBL.out; omega
      go_wp2_with fail
      go_region_held3 (fun w' => w'.cell? ⟨b, o + 4 * k, none⟩ = some (B8 (M.at8 bs (4 * k))) ∧ w'.cell? ⟨b, o + 4 * k + 1, none⟩ = some (B8 (M.at8 bs (4 * k + 1))) ∧ w'.cell? ⟨b, o + 4 * k + 2, none⟩ = some (B8 (M.at8 bs (4 * k + 2))) ∧ w'.cell? ⟨b, o + 4 * k + 3, none⟩ = some (B8 (M.at8 bs (4 * k + 3))))
        (first
          | go_keep
          | (go_split_ands
             refine ⟨?_, ?_, ?_, ?_⟩ <;> (rw [hgrow.cell_far _ (by simp; omega) (Ne.symm hob)]; assumption)))
        ((refine step_append_lies _ (by rfl) _ _ _ (by rfl) w.heap.size 43 i0 _ 1 8 Tryd.underlying40 hi hz0 hz1 hz2 rfl (by omega) (.slice A m cap) m _ (by rfl) ((HOWN.out.alloc _).drew)
            ⟨wr.heap.size, 0, none⟩ 1 1 [W64 _] (by rfl) (by rfl) (cell_last _ _ _) (by intro u hu; simp at hu; subst hu; rfl)
            (by omega) (by unfold maxLen; omega) (by omega) (by simp; omega) (wr.heap.size + 1) (by simp) ?_; intro g3 c3 w3 hown3 hgrow hat hlt))
      have hb3 : Below w.heap.size w w3 := (hb.alloc hb.size _).drew.grown hgrow (by simp; omega) (fun k' hk' => (HOWN.out.lt k' hk').1)
      clear hgrow hat hlt hob
      go_wp2
      go_roundw
      case rel =>
        refine ⟨k + 1, m + 1, c3, _, by omega, by go_num, rfl, by have := HM.out; omega, ?_, hb3⟩
        rw [M.sched, if_pos h1, ups_append, M.wordAt, ← M.word_up]
        exact hown3
      case measure => simp [intOf]; omega
    · have i1 : ¬ (k : Int) < 16 := by omega
      have hk16 : k = 16 := by omega
      have hown := HOWN.out
      rw [HM.out, hk16] at hown
      have hm16 : m = 16 := by have := HM.out; omega
      have HM16 := Lib.hid hm16
      have HO := Lib.hid hown
      clear hown hk16 HOWN hm16
      go_wp2
      go_loopw [3, 6, 7, 8, 9, 10] (fun v i _ _ _ _ wr => ∃ (k m cap : Nat) (A : Option Addr), 16 ≤ k ∧ k ≤ 64 ∧ i = .int .i64 k ∧ v = .slice A m cap ∧ m = k ∧ wr.ownsRow w.heap.size 43 1 v m (uv (ups (M.sched bs k))) ∧ Below w.heap.size w wr) (fun _ i _ _ _ _ _ => 64 - (intOf i).toNat)
      case atStart => exact ⟨16, m, cap, A, by omega, by omega, rfl, rfl, HM16.out, by rw [HM16.out]; exact HO.out, hb⟩
      case round =>
        clear HO hb HM HM16 i1
        obtain ⟨k, m, cap, A, hk, hk2, rfl, rfl, hm, hown, hb⟩ := hrel
        have HM := Lib.hid hm
        have hm2 : m ≤ 64 := by omega
        have hm3 : 16 ≤ m := by omega
        obtain ⟨g, cap', e, hgl, hgs⟩ := own_some hown (by omega)
        simp only [Value.slice.injEq, true_and] at e
        obtain ⟨rfl, rfl⟩ := e
        have HOWN := Lib.hid hown
        rcases Nat.lt_or_ge k 64 with h1 | h1
        · have i1 : (k : Int) < 64 := by omega
          have at' : ∀ d, 0 < d → d ≤ 16 → wr.cell? ⟨g, k - d, none⟩ = some (W64 (M.up (M.at32 (M.sched bs k) (k - d)))) := fun d h0 hd => own_cellU hown _ (by rw [M.sched_length]; omega)
          have c2 := at' 2 (by omega) (by omega)
          have c7 := at' 7 (by omega) (by omega)
          have c15 := at' 15 (by omega) (by omega)
          have c16 := at' 16 (by omega) (by omega)
          have g16 : ((k : Int) - 16).toNat = k - 16 := by omega
          have g7 : ((k : Int) - 7).toNat = k - 7 := by omega
          have g2 : ((k : Int) - 2).toNat = k - 2 := by omega
          have g15 : ((k : Int) - 15).toNat = k - 15 := by omega
          have l16 : (k : Int) - 16 < (m : Int) := by omega
          have l7 : (k : Int) - 7 < (m : Int) := by omega
          have l2 : (k : Int) - 2 < (m : Int) := by omega
          have l15 : (k : Int) - 15 < (m : Int) := by omega
          clear hown at' hm
          have f2 : IntKind.i64.wrap ((k : Int) - 2) = (k : Int) - 2 := IntWalk.i64_in _ (by omega)
          have f15 : IntKind.i64.wrap ((k : Int) - 15) = (k : Int) - 15 := IntWalk.i64_in _ (by omega)
          have m15 : (15 : Int) ≤ (k : Int) := by omega
          have m2 : (2 : Int) ≤ (k : Int) := by omega
          have n15 : (0 : Int) ≤ (k : Int) - 15 := by omega
          have n2 : (0 : Int) ≤ (k : Int) - 2 := by omega
          go_wp2_with fail
          go_quiet (fail)
          clear f2 f15 m15 m2 n15 n2 g2 g15 l2 l15
          go_wp2_with fail
          refine (turned_low _ 7 _ (by decide) (by decide)).mono ?_
          rintro e w7 ⟨rfl, rfl⟩
          go_wp2_with fail
          refine (turned_low _ 18 _ (by decide) (by decide)).mono ?_
          rintro e w18 ⟨rfl, rfl⟩
          go_wp2_with fail
          refine (moved_low _ 3 _ (by decide)).mono ?_
          rintro e w3 ⟨rfl, rfl⟩
          go_wp2_with fail
          refine (turned_low _ 17 _ (by decide) (by decide)).mono ?_
          rintro e w17 ⟨rfl, rfl⟩
          go_wp2_with fail
          refine (turned_low _ 19 _ (by decide) (by decide)).mono ?_
          rintro e w19 ⟨rfl, rfl⟩
          go_wp2_with fail
          refine (moved_low _ 10 _ (by decide)).mono ?_
          rintro e w10 ⟨rfl, rfl⟩
          go_wp2_with fail
          have hO2 : (wr.drewN nq).ownsRow w.heap.size 43 1 (.slice (some ⟨g, 0, none⟩) m cap) m (uv (ups (M.sched bs k))) := HOWN.out
          have HO2 := Lib.hid hO2
          have hb2 : Below w.heap.size w (wr.drewN nq) := below_drewN hb _
          have d16 : (wr.drewN nq).cell? ⟨g, k - 16, none⟩ = some (W64 (M.up (M.at32 (M.sched bs k) (k - 16)))) := c16
          have d7 : (wr.drewN nq).cell? ⟨g, k - 7, none⟩ = some (W64 (M.up (M.at32 (M.sched bs k) (k - 7)))) := c7
          clear c2 c7 c15 c16 HOWN hb hgs hO2
          generalize wr.drewN nq = wz at *
          have hbs := hb2.size
          have hgs : g < wz.heap.size := block_lt_of_cell d7
          have b16 : k - 16 < m * 1 := by have := HM.out; omega
          have b7 : k - 7 < m * 1 := by have := HM.out; omega
          have f16 : IntKind.i64.wrap ((k : Int) - 16) = (k : Int) - 16 := IntWalk.i64_in _ (by omega)
          have f7 : IntKind.i64.wrap ((k : Int) - 7) = (k : Int) - 7 := IntWalk.i64_in _ (by omega)
          have n16 : (0 : Int) ≤ (k : Int) - 16 := by omega
          have n7 : (0 : Int) ≤ (k : Int) - 7 := by omega
          have m16 : (16 : Int) ≤ (k : Int) := by omega
          have m7 : (7 : Int) ≤ (k : Int) := by omega
          go_region_held3 (fun w' => w'.cell? ⟨g, k - 16, none⟩ = some (W64 (M.up (M.at32 (M.sched bs k) (k - 16)))) ∧ w'.cell? ⟨g, k - 7, none⟩ = some (W64 (M.up (M.at32 (M.sched bs k) (k - 7)))))
            (first
              | (go_split_ands; refine ⟨(hkeep _ b16).trans ?_, (hkeep _ b7).trans ?_⟩ <;> assumption)
              | go_keep)
            ((refine step_append_keep _ (by rfl) _ _ _ (by rfl) w.heap.size 43 i0 _ 1 8 Tryd.underlying40 hi hz0 hz1 hz2 rfl (by omega) g m cap _ (by rfl) ((HO2.out.alloc _).drew)
                ⟨wz.heap.size, 0, none⟩ 1 1 [W64 _] (by rfl) (by rfl) (cell_last _ _ _) (by intro u hu; simp at hu; subst hu; rfl)
                (by omega) (by unfold maxLen; omega) (by omega) (by simp; omega) (wz.heap.size + 1) (by simp) ?_; intro g3 c3 w3 hown3 hgrow hat hlt hkeep))
          have hb3 : Below w.heap.size w w3 := (hb2.alloc hb2.size _).drew.grown hgrow (by simp; omega) (fun k' hk' => by cases hk'; exact hgl)
          clear f16 f7 n16 n7 m16 m7 b16 b7 g16 g7 l16 l7 hgrow hat hlt hkeep d16 d7
          go_wp2
          go_roundw
          case rel =>
            refine ⟨k + 1, m + 1, c3, _, by omega, by omega, by go_num, rfl, by have := HM.out; omega, ?_, hb3⟩
            rw [M.sched, if_neg (by omega), ups_append, M.next, ← next_low]
            exact hown3
          case measure => simp [intOf]; omega
        · have hk64 : k = 64 := by omega
          have i1 : ¬ (k : Int) < 64 := by omega
          rw [hk64] at hown
          have hm64 : m = 64 := by omega
          have HO2 := Lib.hid hown; have HM64 := Lib.hid hm64
          clear HOWN hown hk64 hm64 hm
          go_wp2
          go_ret
          refine ⟨g, cap, by rw [← HM64.out]; rfl, ?_, hb⟩
          have o := HO2.out
          rw [HM64.out] at o
          exact o
end Go.Proofs.YtjnhfmicadcmnaaDoor.K
