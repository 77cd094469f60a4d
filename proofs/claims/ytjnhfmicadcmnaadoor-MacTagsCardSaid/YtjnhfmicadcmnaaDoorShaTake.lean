/- The contract of sha's take: a block taken in. -/
import Derived.Test.YtjnhfmicadcmnaaDoorShaWords
namespace Go.Proofs.YtjnhfmicadcmnaaDoor.K
open Go Go.RowKit

/-- the state's eight cells -/
def stv (s : M.St) : List Value := [W32 s.a, W32 s.b, W32 s.c, W32 s.d, W32 s.e, W32 s.f, W32 s.g, W32 s.h]
theorem stv_one (s : M.St) : (stv s).toArray.all (·.oneCell') = true := by simp [stv, oneW32]
theorem info8' : (Tryd.prog.info? 38).map (·.size) = some 8 := by kernel_rfl
theorem info8 (s : M.St) : (Tryd.prog.info? 38).map (·.size) = some (stv s).toArray.size := info8'

/-- the first k words added -/
def sumTo (a b : List (BitVec 32)) (k : Nat) : List (BitVec 32) := List.zipWith (· + ·) (a.take k) (b.take k) ++ a.drop k
theorem sumTo_at (a b : List (BitVec 32)) (k : Nat) (h : k < a.length) (hb : b.length = a.length) : (sumTo a b k)[k]? = some (M.at32 a k) := by
  rw [sumTo, List.getElem?_append_right (by simp; omega)]
  simp [hb, M.at32, h, Nat.min_eq_left (Nat.le_of_lt h)]
theorem sumTo_set (a b : List (BitVec 32)) (k : Nat) (h : k < a.length) (hb : b.length = a.length) : (sumTo a b k).set k (M.at32 a k + M.at32 b k) = sumTo a b (k + 1) := by
  apply List.ext_getElem?
  intro j
  simp only [sumTo, M.at32, List.getElem?_set, List.getElem?_append, List.length_append, List.length_zipWith, List.length_take, List.length_drop, List.getElem?_zipWith, List.getElem?_take, List.getElem?_drop]
  rcases Nat.lt_trichotomy j k with h1 | h1 | h1
  · have e1 : min k a.length = k := by omega
    have e2 : min k b.length = k := by omega
    have e3 : min (k + 1) a.length = k + 1 := by omega
    have e4 : min (k + 1) b.length = k + 1 := by omega
    simp [e1, e2, e3, e4, h1, show k ≠ j by omega, show j < k + 1 by omega]
  · subst h1
    have e1 : min j a.length = j := by omega
    have e2 : min j b.length = j := by omega
    have e3 : min (j + 1) a.length = j + 1 := by omega
    have e4 : min (j + 1) b.length = j + 1 := by omega
    have hb' : j < b.length := by omega
    simp [e1, e2, e3, e4, h, hb']
    omega
  · have e1 : min k a.length = k := by omega
    have e2 : min k b.length = k := by omega
    have e3 : min (k + 1) a.length = k + 1 := by omega
    have e4 : min (k + 1) b.length = k + 1 := by omega
    simp [e1, e2, e3, e4, show k ≠ j by omega, show ¬ j < k by omega, show ¬ j < k + 1 by omega, show k + (j - k) = j by omega, show k + 1 + (j - (k + 1)) = j by omega]

theorem stv_add (t s : M.St) : stv (t.add s) = (sumTo t.list s.list 8).map W32 := rfl

/-- the table of the rounds' constants lies in the world -/
def HasK (w : World) : Prop := ∀ k, k < 64 → w.cell? ⟨1, k, none⟩ = some (W32 (M.at32 M.kList k))
theorem HasK.below {w w' : World} (h : HasK w) (hb : Below w.heap.size w w') : HasK w' := fun k hk => (hb.cell (block_lt_of_cell (h k hk))).trans (h k hk)

set_option maxHeartbeats 1000000 in
set_option maxRecDepth 100000 in
theorem take_any (s : M.St) (A : Option Addr) (n c : Nat) (bs : List (BitVec 8)) (w : World) (hr : Rd w A bs) (hn : bs.length = 64) (hc : 64 ≤ c) (hnc : n = 64) (hc2 : c ≤ 4611686018427387904) (hK : HasK w) :
    Calls Tryd.prog 26 #[.agg (stv s).toArray, .slice A n c] w fun e w' => e = .returned (.agg (stv (M.take s bs)).toArray) ∧ Below w.heap.size w w' := by
  have HR := Lib.hid hr
  have HN := Lib.hid hn
  have HNC := Lib.hid hnc
  have HK := Lib.hid hK
  clear hr hn hnc hK
  go_enter Tryd.func26, Tryd.ntmps26
  go_wp2_with (first
    | (with_reducible refine wpList_load_row rfl 38 (.tmp 2) rfl w.heap.size rfl 38 (stv s).toArray (0, 0) _ (heap_alloc2_old w _ _) Tryd.underlying38 rfl (info8 s) ?_)
    | (with_reducible refine wpList_store_row rfl 38 (.tmp 5) (.tmp 13) rfl (w.heap.size + 2) (stv s).toArray rfl rfl 38 _ (heap_alloc3_new w _ _ _) (info8 s) rfl (stv_one s) ?_))
  obtain ⟨W, hW⟩ : ∃ W, W = World.setRow (((w.alloc (.cells (stv s).toArray 38)).alloc (.cells #[.int .u32 0, .int .u32 0, .int .u32 0, .int .u32 0, .int .u32 0, .int .u32 0, .int .u32 0, .int .u32 0] 38)).alloc (.cells #[.int .u32 0, .int .u32 0, .int .u32 0, .int .u32 0, .int .u32 0, .int .u32 0, .int .u32 0, .int .u32 0] 38)) (w.heap.size + 2) (stv s).toArray := ⟨_, rfl⟩
  rw [← hW]
  have gS : W.heap[w.heap.size]? = some (.cells (stv s).toArray 38 (0, 0)) := by rw [hW, setRow_other _ _ _ _ (by omega)]; exact heap_alloc3_old w _ _ _
  have gR : ∃ z : M.St, W.heap[w.heap.size + 1]? = some (.cells (stv z).toArray 38 (0, 0)) := ⟨⟨0, 0, 0, 0, 0, 0, 0, 0⟩, by rw [hW, setRow_other _ _ _ _ (by omega)]; exact heap_alloc3_mid w _ _ _⟩
  have gW : W.heap[w.heap.size + 1 + 1]? = some (.cells (stv s).toArray 38 (0, 0)) := by rw [hW]; exact setRow_heap _ _ _ _ _ _ (heap_alloc3_new w _ _ _)
  have bW : Below w.heap.size w W := by
    rw [hW]
    exact below_setRow ((((Below.refl _ _).alloc (Nat.le_refl _) _).alloc (by simp) _).alloc (by simp; omega) _) (by omega) _
  have hWs : W.heap.size = w.heap.size + 3 := by rw [hW]; simp
  have hsz : w.heap.size + 3 ≤ W.heap.size := by omega
  clear hW hWs
  refine (words_any A n c bs W (HR.out.below bW) HN.out hc HNC.out hc2).mono ?_
  rintro e w1 ⟨rfl, hb1⟩
  obtain ⟨z, gR⟩ := gR
  have gS1 : w1.heap[w.heap.size]? = _ := (hb1.block _ (by omega)).trans gS
  have gR1 : w1.heap[w.heap.size + 1]? = _ := (hb1.block _ (by omega)).trans gR
  have gW1 : w1.heap[w.heap.size + 1 + 1]? = _ := (hb1.block _ (by omega)).trans gW
  have bw1 : Below w.heap.size w w1 := bW.trans (hb1.mono (by omega))
  clear gS gR gW bW hb1 hsz
  have HS := Lib.hid gS1; have HRR := Lib.hid gR1; have HW := Lib.hid gW1
  clear gS1 gR1 gW1
  have hL : (M.sched bs 64).length = 64 := M.sched_length _ _
  have HL := Lib.hid hL
  clear hL
  generalize hws : M.sched bs 64 = ws at *
  have HWS := Lib.hid hws
  clear hws
  go_wp2
  go_loopw [16] (fun i wr => ∃ k : Nat, k ≤ 64 ∧ i = .int .i64 k ∧ wr.heap[w.heap.size]? = some (.cells (stv (M.rounds s ws k)).toArray 38 (0, 0)) ∧ wr.heap[w.heap.size + 1]? = some (.cells (stv z).toArray 38 (0, 0)) ∧
      wr.heap[w.heap.size + 1 + 1]? = some (.cells (stv s).toArray 38 (0, 0)) ∧ Below w.heap.size w wr) (fun i _ => 64 - (intOf i).toNat)
  case atStart => exact ⟨0, Nat.zero_le _, rfl, HS.out, HRR.out, HW.out, bw1⟩
  case round =>
    clear HS HRR HW bw1
    obtain ⟨k, hk, rfl, gS, gR, gW, hb⟩ := hrel
    have i0 : (0 : Int) ≤ (k : Int) := by omega
    rcases Nat.lt_or_ge k 64 with h1 | h1
    · have i1 : (k : Int) < 64 := by omega
      have hix : ∀ w, (Instr.index 77 (.agg (List.map W32 ws).toArray) (.int .i64 (k : Int))).run Tryd.prog w = .ok (W32 (M.at32 ws k)) w :=
        run_index_agg 77 36 64 _ k _ _ Tryd.underlying77 (by kernel_rfl) Tryd.underlying36 rfl h1 (by have := HL.out; simp [M.at32, this, h1])
      have c0 : wr.cell? ⟨w.heap.size, 0, none⟩ = some (W32 (M.rounds s ws k).a) := block_cell gS rfl
      have c1 : wr.cell? ⟨w.heap.size, 1, none⟩ = some (W32 (M.rounds s ws k).b) := block_cell gS rfl
      have c2 : wr.cell? ⟨w.heap.size, 2, none⟩ = some (W32 (M.rounds s ws k).c) := block_cell gS rfl
      have c3 : wr.cell? ⟨w.heap.size, 3, none⟩ = some (W32 (M.rounds s ws k).d) := block_cell gS rfl
      have c4 : wr.cell? ⟨w.heap.size, 4, none⟩ = some (W32 (M.rounds s ws k).e) := block_cell gS rfl
      have c5 : wr.cell? ⟨w.heap.size, 5, none⟩ = some (W32 (M.rounds s ws k).f) := block_cell gS rfl
      have c6 : wr.cell? ⟨w.heap.size, 6, none⟩ = some (W32 (M.rounds s ws k).g) := block_cell gS rfl
      have c7 : wr.cell? ⟨w.heap.size, 7, none⟩ = some (W32 (M.rounds s ws k).h) := block_cell gS rfl
      have ck : wr.cell? ⟨1, k, none⟩ = some (W32 (M.at32 M.kList k)) := (HK.out.below hb) k h1
      have GS := Lib.hid gS; have GR := Lib.hid gR; have GW := Lib.hid gW
      clear gS gR gW
      obtain ⟨t, ht⟩ : ∃ t, t = M.rounds s ws k := ⟨_, rfl⟩
      rw [← ht] at c0 c1 c2 c3 c4 c5 c6 c7 GS
      have HT := Lib.hid ht; clear ht
      go_wp2
      go_quiet (fail)
      go_wp2
      go_quiet ((go_at_call 40; first | (with_reducible exact q_add (turn_any _ _ _ (by decide) (by decide))) | (with_reducible exact q_same (turn_any _ _ _ (by decide) (by decide)))))
      go_wp2
      go_quiet ((go_at_call 40; first | (with_reducible exact q_add (turn_any _ _ _ (by decide) (by decide))) | (with_reducible exact q_same (turn_any _ _ _ (by decide) (by decide)))))
      go_wp2
      simp only [World.drewN_drewN]
      generalize hw2 : World.drewN wr _ = w2
      have hh : w2.heap = wr.heap := by rw [← hw2]; rfl
      have b2 : Below w.heap.size w w2 := by rw [← hw2]; exact below_drewN hb _
      have G2 : w2.heap[w.heap.size]? = some (.cells (stv t).toArray 38 (0, 0)) := by rw [hh]; exact GS.out
      have hz : w.heap.size + 3 ≤ wr.heap.size := by
        have := (Array.getElem?_eq_some_iff.1 GW.out).1; omega
      have HH := Lib.hid hh
      clear hw2 hh c0 c1 c2 c3 c4 c5 c6 c7 ck hix
      refine wp_region_still_tail 2 (by kernel_rfl) (by kernel_rfl) ?_
      simp only [List.take_succ_cons, List.take_zero, List.drop_succ_cons, List.drop_zero]
      change wpStill _ _ w2.drew _ _ _
      repeat still_step
      refine wpStill_nil ?_
      change wpList _ _ _ _ _ w2.drew
      refine wpList_copy_own rfl _ _ _ _ rfl 36 Tryd.underlying80 (by kernel_rfl) w.heap.size 1 7 7 ⟨w.heap.size, 0, none⟩ 7 8 rfl rfl (stv t).toArray 38 G2 [W32 t.a, W32 t.b, W32 t.c, W32 t.d, W32 t.e, W32 t.f, W32 t.g] rfl ?_ (by simp [stv]) (by simp [oneW32]) ?_
      · intro j v hj
        rw [Addr.add_lit, Nat.zero_add]
        refine block_cell (w := w2.drew) G2 ?_
        have hj7 : j < 7 := by have := (List.getElem?_eq_some_iff.1 hj).1; simpa using this
        rw [← hj, stv]
        match j, hj7 with
        | 0, _ | 1, _ | 2, _ | 3, _ | 4, _ | 5, _ | 6, _ => rfl
      have G3 := setRow_heap w2.drew w.heap.size _ ((stv t).toArray.toList.take 1 ++ ([W32 t.a, W32 t.b, W32 t.c, W32 t.d, W32 t.e, W32 t.f, W32 t.g] ++ (stv t).toArray.toList.drop (1 + [W32 t.a, W32 t.b, W32 t.c, W32 t.d, W32 t.e, W32 t.f, W32 t.g].length))).toArray 38 (0, 0) G2
      have b3 := below_setRow b2.drew (Nat.le_refl w.heap.size) ((stv t).toArray.toList.take 1 ++ ([W32 t.a, W32 t.b, W32 t.c, W32 t.d, W32 t.e, W32 t.f, W32 t.g] ++ (stv t).toArray.toList.drop (1 + [W32 t.a, W32 t.b, W32 t.c, W32 t.d, W32 t.e, W32 t.f, W32 t.g].length))).toArray
      have o3 : ∀ i, i ≠ w.heap.size → (World.setRow w2.drew w.heap.size ((stv t).toArray.toList.take 1 ++ ([W32 t.a, W32 t.b, W32 t.c, W32 t.d, W32 t.e, W32 t.f, W32 t.g] ++ (stv t).toArray.toList.drop (1 + [W32 t.a, W32 t.b, W32 t.c, W32 t.d, W32 t.e, W32 t.f, W32 t.g].length))).toArray).heap[i]? = wr.heap[i]? := fun i hi => by
        rw [setRow_other _ _ _ _ hi]; show w2.heap[i]? = _; rw [HH.out]
      generalize World.setRow w2.drew w.heap.size _ = w3 at *
      have G4 : w3.heap[w.heap.size]? = some (.cells [W32 t.a, W32 t.a, W32 t.b, W32 t.c, W32 t.d, W32 t.e, W32 t.f, W32 t.g].toArray 38 (0, 0)) := G3
      clear G3 G2 b2
      have d4 : w3.cell? ⟨w.heap.size, 4, none⟩ = some (W32 t.d) := block_cell G4 rfl
      have d0 : w3.cell? ⟨w.heap.size, 0, none⟩ = some (W32 t.a) := block_cell G4 rfl
      have f0 : ∀ i, w3.frozen? ⟨w.heap.size, i, none⟩ = false := fun i => frozen_of_row w3 _ i _ _ G4
      have H4 := Lib.hid G4; have O3 := Lib.hid o3
      clear G4 o3
      go_wp2_with (first
        | (with_reducible refine wpList_store_one rfl 36 (.tmp 86) (.tmp 81) rfl ⟨w.heap.size, 0, none⟩ (W32 _) _ rfl rfl (oneW32 _) (by kernel_rfl) d0 (f0 0) ?_)
        | (with_reducible refine wpList_store_one rfl 36 (.tmp 87) (.tmp 85) rfl ⟨w.heap.size, 4, none⟩ (W32 _) _ rfl rfl (oneW32 _) (by kernel_rfl) ((World.cell?_setCell_other _ _ _ _ (by simp)).trans d4) (by rw [World.frozen?_setCell]; exact f0 4) ?_))
      go_roundw
      case rel =>
        refine ⟨k + 1, by omega, by go_num, ?_, ?_, ?_, (b3.setCell (p := ⟨w.heap.size, 0, none⟩) (Nat.le_refl _) _).setCell (p := ⟨w.heap.size, 4, none⟩) (Nat.le_refl _) _⟩
        · have e : M.rounds s ws (k + 1) = M.rnd t (M.at32 M.kList k) (M.at32 ws k) := by rw [HT.out]; rfl
          rw [e]
          exact block_set (block_set H4.out 0 _) 4 _
        · rw [heap_setCell_other _ _ _ _ (by simp only [ne_eq]; omega), heap_setCell_other _ _ _ _ (by simp only [ne_eq]; omega), O3.out _ (by omega)]; exact GR.out
        · rw [heap_setCell_other _ _ _ _ (by simp only [ne_eq]; omega), heap_setCell_other _ _ _ _ (by simp only [ne_eq]; omega), O3.out _ (by omega)]; exact GW.out
      case measure => simp [intOf]; omega
    · have hk64 : k = 64 := by omega
      have HK64 := Lib.hid hk64
      have i1 : ¬ (k : Int) < 64 := by omega
      clear hk h1 i0 hk64
      have GS := Lib.hid gS; have GR := Lib.hid gR; have GW := Lib.hid gW
      clear gS gR gW
      obtain ⟨t, ht⟩ : ∃ t, t = M.rounds s ws k := ⟨_, rfl⟩
      rw [← ht] at GS
      have HT := Lib.hid ht; clear ht
      go_wp2
      go_loopw [89] (fun i wx => ∃ k : Nat, k ≤ 8 ∧ i = .int .i64 k ∧ wx.heap[w.heap.size]? = some (.cells ((sumTo t.list s.list k).map W32).toArray 38 (0, 0)) ∧ wx.heap[w.heap.size + 1]? = some (.cells (stv z).toArray 38 (0, 0)) ∧
        wx.heap[w.heap.size + 1 + 1]? = some (.cells (stv s).toArray 38 (0, 0)) ∧ Below w.heap.size w wx) (fun i _ => 8 - (intOf i).toNat)
      case atStart => exact ⟨0, Nat.zero_le _, rfl, GS.out, GR.out, GW.out, hb⟩
      case round =>
        clear GS GR GW hb
        obtain ⟨j, hj, rfl, gS, gR, gW, hb⟩ := hrel
        have i0 : (0 : Int) ≤ (j : Int) := by omega
        rcases Nat.lt_or_ge j 8 with h1 | h1
        · have i2 : (j : Int) < 8 := by omega
          have ck : wr.cell? ⟨w.heap.size, j, none⟩ = some (W32 (M.at32 t.list j)) := block_cell gS (by rw [List.getElem?_map, sumTo_at t.list s.list j h1 rfl]; rfl)
          have dk : wr.cell? ⟨w.heap.size + 1 + 1, j, none⟩ = some (W32 (M.at32 s.list j)) := block_cell gW (by
            show (s.list.map W32)[j]? = _
            rw [List.getElem?_map, M.at32, List.getD_eq_getElem?_getD, List.getElem?_eq_getElem h1]; rfl)
          have fk : wr.frozen? ⟨w.heap.size, j, none⟩ = false := frozen_of_row wr _ j _ _ gS
          have GS := Lib.hid gS; have GR := Lib.hid gR; have GW := Lib.hid gW
          clear gS gR gW
          go_wp2
          go_still_tail 8, (by kernel_rfl)
          change wpList _ _ _ _ _ wr.drew
          refine wpList_store_one rfl _ _ _ rfl _ _ _ rfl rfl rfl (by kernel_rfl) ck fk ?_
          go_wp2
          go_roundw
          case rel =>
            refine ⟨j + 1, by omega, by go_num, ?_, ?_, ?_, (hb.setCell (p := ⟨w.heap.size, j, none⟩) (Nat.le_refl _) _).drew⟩
            · rw [← sumTo_set t.list s.list j h1 rfl, List.map_set]
              exact block_set GS.out j _
            · exact (heap_setCell_other _ _ _ _ (by simp only [ne_eq]; omega)).trans GR.out
            · exact (heap_setCell_other _ _ _ _ (by simp only [ne_eq]; omega)).trans GW.out
          case measure => simp [intOf]; omega
        · obtain rfl : j = 8 := by omega
          have hsz : (Tryd.prog.info? 38).map (·.size) = some ((sumTo t.list s.list 8).map W32).toArray.size := info8'
          have hone : ((sumTo t.list s.list 8).map W32).toArray.all (·.oneCell') = true := stv_one (t.add s)
          have GS := Lib.hid gS; have GR := Lib.hid gR
          clear gS gR gW hj h1 i0
          go_wp2_with (first
            | (with_reducible refine wpList_load_row rfl 38 (.tmp 2) rfl w.heap.size rfl 38 _ (0, 0) _ GS.out Tryd.underlying38 rfl hsz ?_)
            | (with_reducible refine wpList_store_row rfl 38 (.tmp 4) (.tmp 101) rfl (w.heap.size + 1) _ rfl rfl 38 _ GR.out hsz rfl hone ?_))
          refine bodyPost_ret (v := .agg ((sumTo t.list s.list 8).map W32).toArray) ?_ ?_ ?_
          · exact results_cell_row rfl _ _ (w.heap.size + 1) 38 _ (0, 0) _ rfl (setRow_heap wr _ _ _ _ _ GR.out) Tryd.underlying38 rfl hsz
          · rfl
          · refine ⟨?_, below_setRow hb (by omega) _⟩
            have e : stv (M.take s bs) = (sumTo t.list s.list 8).map W32 := by rw [← stv_add, HT.out, HK64.out, ← HWS.out, M.take]
            rw [e]
end Go.Proofs.YtjnhfmicadcmnaaDoor.K
