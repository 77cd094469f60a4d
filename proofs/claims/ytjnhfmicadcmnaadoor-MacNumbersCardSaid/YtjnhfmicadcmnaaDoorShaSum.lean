/- The contract of sha.Sum: the digest of what is read. -/
import Derived.Test.YtjnhfmicadcmnaaDoorShaMsg
namespace Go.Proofs.YtjnhfmicadcmnaaDoor.K
open Go Go.RowKit

/-- the state at first lies in the world -/
def HasF (w : World) : Prop := ∀ k, k < 8 → w.cell? ⟨0, k, none⟩ = some (W32 (M.at32 M.first.list k))
theorem HasF.below {w w' : World} (h : HasF w) (hb : Below w.heap.size w w') : HasF w' := fun k hk => (hb.cell (block_lt_of_cell (h k hk))).trans (h k hk)

theorem Rd.part {w : World} {g : Nat} {t : TypeId} {fr : Nat × Nat} {m : List (BitVec 8)} (hg : w.heap[g]? = some (.cells (bv m).toArray t fr)) (o n : Nat) (h : o + n ≤ m.length) :
    Rd w (some ⟨g, o, none⟩) ((m.drop o).take n) := by
  intro k hk
  have hk2 : k < n := by simp at hk; omega
  refine ⟨g, o, rfl, ?_⟩
  rw [cell_of_row w g (o + k) _ _ _ hg, List.getElem?_toArray, bv, List.getElem?_map, List.getElem?_eq_getElem (by omega)]
  simp
theorem stv_len (s : M.St) : (stv s).toArray.size = 8 := rfl
theorem stv_is (s : M.St) : (stv s).toArray = #[W32 s.a, W32 s.b, W32 s.c, W32 s.d, W32 s.e, W32 s.f, W32 s.g, W32 s.h] := rfl
theorem bytes4 (x : BitVec 32) : M.bytesOf x = [(x >>> 24).setWidth 8, (x >>> 16).setWidth 8, (x >>> 8).setWidth 8, x.setWidth 8] := rfl
/-- the bytes of the first k words -/
def digTo (s : M.St) (k : Nat) : List (BitVec 8) := (s.list.take k).flatMap M.bytesOf
theorem digTo_succ (s : M.St) (k : Nat) (h : k < 8) : digTo s (k + 1) = digTo s k ++ M.bytesOf (M.at32 s.list k) := by
  have hl : s.list.length = 8 := rfl
  rw [digTo, digTo, List.take_succ_eq_append_getElem (by omega), List.flatMap_append]
  simp [M.at32, hl, h]
theorem digTo_end (s : M.St) : digTo s 8 = M.digest s := rfl
theorem digTo_length (s : M.St) (k : Nat) (h : k ≤ 8) : (digTo s k).length = 4 * k := by
  induction k with
  | zero => rfl
  | succ k ih => rw [digTo_succ s k (by omega), List.length_append, ih (by omega)]; simp [bytes4]; omega

theorem cells4 (w : World) (a b c d : Value) (t : TypeId) : ∀ j u, [a, b, c, d][j]? = some u → (w.alloc (.cells #[a, b, c, d] t)).cell? ((⟨w.heap.size, 0, none⟩ : Addr).add j) = some u := by
  intro j u hu
  rw [Addr.add_lit, World.cell?_alloc_new, Nat.zero_add, ← hu]
  simp
set_option maxHeartbeats 2000000 in
set_option maxRecDepth 100000 in
theorem Sum_any (A : Option Addr) (n c : Nat) (bs : List (BitVec 8)) (w : World) (hr : Rd w A bs) (hn : bs.length = n) (hn2 : n ≤ 1000000000000) (hK : HasK w) (hF : HasF w) :
    Calls Tryd.prog 13 #[.slice A n c] w fun e w' => ∃ g cap, e = .returned (.slice (some ⟨g, 0, none⟩) 32 cap) ∧
      w'.ownsRow w.heap.size 5 1 (.slice (some ⟨g, 0, none⟩) 32 cap) 32 (bv (M.sum bs)) ∧ Below w.heap.size w w' := by
  subst hn
  have c0 : w.cell? ⟨0, 0, none⟩ = some (W32 M.first.a) := hF 0 (by omega)
  have c1 : w.cell? ⟨0, 1, none⟩ = some (W32 M.first.b) := hF 1 (by omega)
  have c2 : w.cell? ⟨0, 2, none⟩ = some (W32 M.first.c) := hF 2 (by omega)
  have c3 : w.cell? ⟨0, 3, none⟩ = some (W32 M.first.d) := hF 3 (by omega)
  have c4 : w.cell? ⟨0, 4, none⟩ = some (W32 M.first.e) := hF 4 (by omega)
  have c5 : w.cell? ⟨0, 5, none⟩ = some (W32 M.first.f) := hF 5 (by omega)
  have c6 : w.cell? ⟨0, 6, none⟩ = some (W32 M.first.g) := hF 6 (by omega)
  have c7 : w.cell? ⟨0, 7, none⟩ = some (W32 M.first.h) := hF 7 (by omega)
  have HR := Lib.hid hr; have HK := Lib.hid hK
  clear hr hK hF
  go_enter Tryd.func13, Tryd.ntmps13
  go_wp2_with (with_reducible refine wpList_store_row rfl 38 (.tmp 3) (.tmp 8) rfl w.heap.size #[W32 M.first.a, W32 M.first.b, W32 M.first.c, W32 M.first.d, W32 M.first.e, W32 M.first.f, W32 M.first.g, W32 M.first.h] rfl rfl 38 _ (heap_alloc_new w _) info8' rfl (stv_one M.first) ?_)
  clear c0 c1 c2 c3 c4 c5 c6 c7
  have bW : Below w.heap.size w (w.alloc (.cells #[W32 M.first.a, W32 M.first.b, W32 M.first.c, W32 M.first.d, W32 M.first.e, W32 M.first.f, W32 M.first.g, W32 M.first.h] 38)) := (Below.refl _ _).alloc (Nat.le_refl _) _
  have gS := heap_alloc_new w (.cells (stv M.first).toArray 38)
  refine (message_any A bs.length c bs _ (HR.out.below bW) rfl hn2).mono ?_
  rintro e w1 ⟨g, rfl, hgl, hgm, hb1⟩
  have hsz : (w.alloc (.cells #[W32 M.first.a, W32 M.first.b, W32 M.first.c, W32 M.first.d, W32 M.first.e, W32 M.first.f, W32 M.first.g, W32 M.first.h] 38)).heap.size = w.heap.size + 1 := by simp
  have gS1 : w1.heap[w.heap.size]? = some (.cells (stv M.first).toArray 38 (0, 0)) := (hb1.block _ (by rw [hsz]; omega)).trans gS
  have b1 : Below w.heap.size w w1 := bW.trans (hb1.mono (by rw [hsz]; omega))
  have hgl2 : w.heap.size + 1 ≤ g := by rw [hsz] at hgl; exact hgl
  clear bW gS hb1 hgl hsz
  have ht1 := M.total_ge bs.length
  have ht2 := M.total_mod bs.length
  have ht3 : M.total bs.length ≤ bs.length + 72 := by unfold M.total; omega
  have hml := M.message_length bs
  obtain ⟨q, hq⟩ : ∃ q, M.total bs.length = 64 * q := ⟨M.total bs.length / 64, by omega⟩
  have HQ := Lib.hid hq; have HML := Lib.hid hml
  have hq1 : 64 * q ≤ M.total bs.length := by omega
  have hq2 : M.total bs.length ≤ 64 * q := by omega
  have GS1 := Lib.hid gS1; have GM := Lib.hid hgm; have B1 := Lib.hid b1
  clear ht2 hq hml gS1 hgm b1
  generalize hT : M.total bs.length = T at *
  have HT := Lib.hid hT; clear hT
  go_wp2
  go_loopw [4] (fun v wr => ∃ j o : Nat, j ≤ q ∧ v = .slice (some ⟨g, o, none⟩) (T - 64 * j) (T - 64 * j) ∧ (j < q → o = 64 * j) ∧ wr.heap[w.heap.size]? = some (.cells (stv (M.after (M.message bs) j)).toArray 38 (0, 0)) ∧
      wr.heap[g]? = some (.cells (bv (M.message bs)).toArray 5 (0, 0)) ∧ Below w.heap.size w wr) (fun v _ => match v with | .slice _ n _ => n | _ => 0)
  case atStart => exact ⟨0, 0, Nat.zero_le _, rfl, fun _ => rfl, GS1.out, GM.out, B1.out⟩
  case round =>
    clear GS1 GM B1
    obtain ⟨j, o, hj, rfl, ho, gS, gM, hb⟩ := hrel
    rcases Nat.lt_or_ge j q with h1 | h1
    · obtain rfl := ho h1
      clear ho
      have i1 : 64 ≤ T - 64 * j := by omega
      have i2 : (0 : Int) < ((T - 64 * j : Nat) : Int) := by omega
      have d1 : decide (0 < T - 64 * j) = true := by simp; omega
      have GS := Lib.hid gS; have GM := Lib.hid gM
      clear gS gM
      obtain ⟨T', hT'⟩ : ∃ T', T' = T - 64 * j := ⟨_, rfl⟩
      rw [← hT'] at i1 i2 d1
      rw [← hT']
      have i5 : T' ≤ T := by omega
      have HT' := Lib.hid hT'; clear hT'
      have i3 : (64 : Int) ≤ (T' : Int) := by omega
      have i4 : ¬ T' = 0 := by omega
      go_wp2
      refine wp_region_still_tail 3 (by kernel_rfl) (by kernel_rfl) ?_
      simp only [List.take_succ_cons, List.take_zero, List.drop_succ_cons, List.drop_zero]
      change wpStill _ _ wr.drew _ _ _
      have GSd : wr.drew.heap[w.heap.size]? = some (.cells (stv (M.after (M.message bs) j)).toArray 38 (0, 0)) := GS.out
      with_reducible refine wpStill_load_row (w := wr.drew) rfl 38 (.tmp 3) rfl w.heap.size rfl 38 (stv (M.after (M.message bs) j)).toArray (0, 0) _ GSd Tryd.underlying38 rfl (info8 _) ?_
      clear GSd
      repeat still_step
      refine wpStill_nil ?_
      change wpList _ _ _ _ _ wr.drew
      go_wp2_with fail
      have hsz : w.heap.size < wr.heap.size := (Array.getElem?_eq_some_iff.1 GS.out).1
      have hgz : g < wr.heap.size := (Array.getElem?_eq_some_iff.1 GM.out).1
      have hrd : Rd wr.drew (some ⟨g, 64 * j, none⟩) (((M.message bs).drop (64 * j)).take 64) := Rd.part (w := wr.drew) GM.out (64 * j) 64 (by rw [HML.out]; omega)
      have hlen : (((M.message bs).drop (64 * j)).take 64).length = 64 := by
        have h := HML.out
        rw [List.length_take, List.length_drop, h]; omega
      have hK2 : HasK wr.drew := (HK.out.below hb : HasK wr)
      refine (take_any (M.after (M.message bs) j) (some ⟨g, 64 * j, none⟩) 64 T' _ wr.drew hrd hlen i1 rfl (by omega) hK2).mono ?_
      rintro e w2 ⟨rfl, hb2⟩
      rw [M.after_succ]
      have gS2 : w2.heap[w.heap.size]? = some (.cells (stv (M.after (M.message bs) j)).toArray 38 (0, 0)) := (hb2.block _ hsz).trans GS.out
      have gM2 : w2.heap[g]? = some (.cells (bv (M.message bs)).toArray 5 (0, 0)) := (hb2.block _ hgz).trans GM.out
      have b2 : Below w.heap.size w w2 := hb.drew.trans (hb2.mono (Nat.le_of_lt hsz))
      have GS2 := Lib.hid gS2; have GM2 := Lib.hid gM2; have B2 := Lib.hid b2
      clear hb2 gS2 gM2 b2 hK2 hlen hrd hb
      go_wp2_with (with_reducible refine wpList_store_row rfl 38 (.tmp 3) (.tmp 19) rfl w.heap.size (stv (M.after (M.message bs) (j + 1))).toArray rfl rfl 38 _ GS2.out (info8 _) ((stv_len _).trans (stv_len _).symm) (stv_one _) ?_)
      go_roundw
      case rel =>
        have gS3 := setRow_heap w2 w.heap.size _ (stv (M.after (M.message bs) (j + 1))).toArray 38 (0, 0) GS2.out
        have gM3 : (w2.setRow w.heap.size (stv (M.after (M.message bs) (j + 1))).toArray).heap[g]? = _ := (setRow_other w2 w.heap.size g _ (by omega)).trans GM2.out
        have b3 := below_setRow B2.out (Nat.le_refl w.heap.size) (stv (M.after (M.message bs) (j + 1))).toArray
        have e1 : T' - 64 = T - 64 * (j + 1) := by have := HT'.out; omega
        by_cases hl : T' = 64
        · rw [if_pos hl]
          exact ⟨j + 1, 64 * j, by omega, by rw [e1], fun h => by have := HT'.out; omega, gS3, gM3, b3⟩
        · rw [if_neg hl]
          exact ⟨j + 1, 64 * j + 64, by omega, by rw [e1], fun _ => by omega, gS3, gM3, b3⟩
      case measure => simp; omega
    · obtain ⟨i0, hi, hz0, hz1, hz2⟩ := info_parts infoByte
      have hjq : j = q := by omega
      have d1 : decide (0 < T - 64 * j) = false := by simp; omega
      have i1 : ¬ (0 : Int) < ((T - 64 * j : Nat) : Int) := by omega
      have i2 : T - 64 * j = 0 := by omega
      have JQ := Lib.hid hjq
      have GS := Lib.hid gS
      have HT2 := Lib.hid i2
      clear gS gM hjq i2 ho
      obtain ⟨s, hs⟩ : ∃ s, s = M.after (M.message bs) j := ⟨_, rfl⟩
      rw [← hs] at GS
      have HS := Lib.hid hs; clear hs
      go_wp2_with (with_reducible refine wpList_load_row rfl 38 (.tmp 3) rfl w.heap.size rfl 38 (stv s).toArray (0, 0) _ GS.out Tryd.underlying38 rfl (info8 s) ?_)
      go_loopw [5, 21] (fun v i wx => ∃ k : Nat, k ≤ 8 ∧ i = .int .i64 k ∧ wx.ownsRow w.heap.size 5 1 v (4 * k) (bv (digTo s k)) ∧ Below w.heap.size w wx) (fun _ i _ => 8 - (intOf i).toNat)
      case atStart => exact ⟨0, Nat.zero_le _, rfl, World.ownsRow_nil _ _ _ _, hb⟩
      case round =>
        clear hb
        obtain ⟨k, hk, rfl, hown, hb⟩ := hrel
        have j0 : (0 : Int) ≤ (k : Int) := by omega
        rcases Nat.lt_or_ge k 8 with h2 | h2
        · have j1 : (k : Int) < 8 := by omega
          have hix : ∀ w, (Instr.index 38 (.agg (stv s).toArray) (.int .i64 (k : Int))).run Tryd.prog w = .ok (W32 (M.at32 s.list k)) w :=
            run_index_agg 38 36 8 _ k _ _ Tryd.underlying38 (by kernel_rfl) Tryd.underlying36 rfl h2 (by
              show (s.list.map W32).toArray[k]? = _
              rw [List.getElem?_toArray, List.getElem?_map, M.at32, List.getD_eq_getElem?_getD, List.getElem?_eq_getElem h2]; rfl)
          obtain ⟨x, hx⟩ : ∃ x, x = M.at32 s.list k := ⟨_, rfl⟩
          rw [← hx] at hix
          have HX := Lib.hid hx; clear hx
          go_wp2_with (at_builtin; refine wpList_append_own _ rfl _ _ 22 rfl w.heap.size 5 i0 (.int .u8 0) 1 1 Tryd.underlying22 hi hz0 hz1 hz2 rfl (by decide) _ _ _ rfl (hown.alloc _) ⟨wr.heap.size, 0, none⟩ 4 4 [B8 ((x >>> 24).setWidth 8), B8 ((x >>> 16).setWidth 8), B8 ((x >>> 8).setWidth 8), B8 (x.setWidth 8)] rfl rfl (cells4 _ _ _ _ _ _) (by simp [oneB8]) (by unfold maxLen; omega) (by omega) (by have := hb.size; simp; omega) ?_; intro v' w3 hown3 hgrow3 _)
          have hb3 : Below w.heap.size w w3 := (hb.alloc hb.size _).grown hgrow3 (by have := hb.size; simp; omega) (fun k' hk' => (hown.lt k' hk').1)
          go_roundw
          case rel => exact ⟨k + 1, by omega, by go_num, by rw [digTo_succ s k h2, ← HX.out, bytes4, bv_append, Nat.mul_add]; exact hown3, hb3⟩
          case measure => simp [intOf]; omega
        · obtain rfl : k = 8 := by omega
          go_wp2
          go_ret
          rcases hown.2 with ⟨_, h0⟩ | ⟨g', cap, cur, hv, _⟩
          · exact absurd h0 (by decide)
          · subst hv
            refine ⟨g', cap, rfl, ?_, hb⟩
            have ej : M.total bs.length / 64 = j := by have := HT.out; have := HQ.out; have := JQ.out; omega
            rw [M.sum, ← digTo_end, ej, ← HS.out]
            exact hown
end Go.Proofs.YtjnhfmicadcmnaaDoor.K
