/- Merged: BunAwake, BunGreat, KitBunLent, KitBunSame, RefReader, RefReader2, BunRef4, BunRef5, ShaLaid, OpenD, BunOpen. -/
import Derived.Test.YtidcfjmibljkeaaGreatDoorBq8
import Derived.Lib.SlBytesConst
import Derived.Deep.RegionHeld3
import Derived.Test.YtidcfjmibljkeaaGreatDoorCards
import Derived.Test.YtidcfjmibljkeaaGreatDoorTie
import Derived.OpenShut
import Derived.ShutString
import Derived.ChangeOld
import Derived.Below
import Derived.Deep.DeepHandedRow
import Derived.Lib.LaidTab
import Derived.Deep.Slices
import Derived.Deep.Fields
import Derived.LaidLaws
import Derived.SizedLaws
/- The chapter's examples: barbicanlaw19.awake answers true. -/
namespace Go.Proofs.YtidcfjmibljkeaaGreatDoor.K
open Go Go.RowKit

/-- eight noughts -/
def zeros8 : Array Value := Array.replicate 8 (.int .u8 0)
theorem run_make8 (w : World) : (Instr.makeSlice 22 (.int .i64 8) (.int .i64 8)).run Tryz.prog w = .ok (.slice (some ⟨w.heap.size, 0, none⟩) 8 8) (w.alloc (.cells zeros8 5)) := by kernel_rfl
theorem zeros8_eq : zeros8.toList = bv M.zs8 := by rfl
/-- a converted literal reads its bytes -/
theorem row_conv (w : World) (cs : Array Value) (t : TypeId) (x y : Nat) (bs : List (BitVec 8)) (n c : Nat) (h : cs.toList = bv bs) (hn : bs.length = n) : RowRd (w.alloc (.cells cs t (x, y))) ⟨some ⟨w.heap.size, 0, none⟩, n, c⟩ bs :=
  ⟨Rd.of_block (heap_alloc_new w _) (by rw [h, ← bv_length, List.take_length]), hn, fun h => by cases h⟩
theorem rowRd_none0 (w : World) : RowRd w ⟨none, 0, 0⟩ [] := ⟨Rd.of_nil _ _, rfl, fun _ => rfl⟩
theorem told_in {w w' : World} {b : M.Bun} {A : Option Addr} {n c : Nat} {B : Option Addr} {m d : Nat} {C : Option Addr} {k l : Nat} {L : List Acc} {w0 : World} (h : Bank w0 w' (rowAcc C k l b.tag :: rowAcc B m d b.dig :: rowAcc A n c b.code :: L)) : BunIn w' b A n c B m d C k l :=
  ⟨h.row 2 rfl, h.row 1 rfl, h.row 0 rfl⟩
set_option maxHeartbeats 16000000 in
set_option maxRecDepth 100000 in
theorem awake19_any (w : World) (hK : HasK w) (hF : HasF w) :
    Calls Tryz.prog 7 #[] w fun e w' => e = .returned (.bool true) ∧ Since w w' := by
  have HK := Lib.hid hK; have HF := Lib.hid hF
  clear hK hF
  go_enter Tryz.func7, Tryz.ntmps7
  have hcv := fun w : World => Lib.run_convert_bytes_const w 22 5 #[.int .u8 107] 1 1 Tryz.underlying22 Tryz.underlying5
  have hmk := run_make8
  go_wp2_with fail
  have rK := row_conv w #[.int .u8 107] 5 1 2 [107#8] 1 1 rfl rfl
  have S1 : Since w (w.alloc (.cells #[.int .u8 107] 5 (1, 2))) := Since.alloc (Below.refl _ _) _
  have hz1 : (w.alloc (.cells #[.int .u8 107] 5 (1, 2))).heap.size = w.heap.size + 1 := World.size_alloc _ _
  have rZ := row_lit (w.alloc (.cells #[.int .u8 107] 5 (1, 2))) zeros8 5 M.zs8 8 8 zeros8_eq rfl
  rw [hz1] at rZ
  have BK0 := Lib.hid ((Bank.nil S1).alloc (.cells zeros8 5))
  have RK := Lib.hid (Since.row (Since.alloc (Below.refl _ _) (.cells zeros8 5)) rK)
  have RZ := Lib.hid rZ
  clear rK S1 hz1 rZ
  generalize (w.alloc (.cells #[.int .u8 107] 5 (1, 2))).alloc (.cells zeros8 5) = w2 at *
  refine (pmakeB_any [107#8] M.zs8 1 (some ⟨w.heap.size, 0, none⟩) (some ⟨w.heap.size + 1, 0, none⟩) 1 1 8 8 w2 RK.out RZ.out (by omega) (by omega) (HK.out.below BK0.out.since) (HF.out.below BK0.out.since)).mono ?_
  rw [M.aw_bmake, M.aw_make]
  rintro e w3 ⟨x, rfl, A, n, c, B, m, d, C, k, l, rfl, hn, hm, hk, hB⟩
  have HN := Lib.hid (show n = 8 from hn); have HM := Lib.hid (show m = 32 from hm); have HKK := Lib.hid (show k = 32 from hk)
  have BK3 := Lib.hid ((bank_under BK0.out hB).box #[.int .i64 M.awB.ver, .slice A n c, .slice B m d, .slice C k l] 26 (by simp))
  clear hn hm hk hB BK0 RK RZ
  go_wp2_with fail
  generalize hX1 : w3.heap.size = X1 at *
  generalize w3.alloc (.cells #[.int .i64 M.awB.ver, .slice A n c, .slice B m d, .slice C k l] 26) = w4 at *
  clear hX1
  refine (pputB_any M.awB A n c B m d C k l w4 ⟨BK3.out.row 3 rfl, BK3.out.row 2 rfl, BK3.out.row 1 rfl⟩ (by rw [HN.out]; omega) (by rw [HM.out]; omega) (by rw [HKK.out]; omega)).mono ?_
  rintro e w5 ⟨PA, PN, Pc, rfl, hPN, ho, hs⟩
  rw [M.aw_wrong]
  obtain rfl : PN = 104 := hPN.trans M.aw_put
  have BK5 := Lib.hid (BK3.out.call hs)
  have x0 := BK5.out.cell 0 rfl 0 rfl
  have x1 := BK5.out.cell 0 rfl 1 rfl
  have x2 := BK5.out.cell 0 rfl 2 rfl
  have x3 := BK5.out.cell 0 rfl 3 rfl
  clear hPN ho hs BK3
  go_wp2_with fail
  clear x0 x1 x2 x3
  refine (CopyBundle_any M.awB A n c B m d C k l w5 ⟨BK5.out.row 3 rfl, BK5.out.row 2 rfl, BK5.out.row 1 rfl⟩ (by rw [HN.out]; omega) (by rw [HM.out]; omega) (by rw [HKK.out]; omega)).mono ?_
  rintro e w6 ⟨A6, c6, B6, d6, C6, l6, rfl, hB⟩
  have BK6 := Lib.hid ((bank_under BK5.out hB).box #[.int .i64 2, .slice A6 n c6, .slice B6 m d6, .slice C6 k l6] 26 (by simp))
  have hcv2 := Lib.run_convert_bytes_const (w6.alloc (.cells #[.int .i64 2, .slice A6 n c6, .slice B6 m d6, .slice C6 k l6] 26)) 22 5 #[.int .u8 107] 1 1 Tryz.underlying22 Tryz.underlying5
  rw [World.size_alloc] at hcv2
  have BK7 := Lib.hid (BK6.out.alloc (.cells #[.int .u8 107] 5 (1, 2)))
  have rK := row_conv (w6.alloc (.cells #[.int .i64 2, .slice A6 n c6, .slice B6 m d6, .slice C6 k l6] 26)) #[.int .u8 107] 5 1 2 [107#8] 1 1 rfl rfl
  rw [World.size_alloc] at rK
  have RK := Lib.hid rK
  clear hB BK5 rK
  go_wp2_with fail
  clear hcv2
  generalize (w6.alloc (.cells #[.int .i64 2, .slice A6 n c6, .slice B6 m d6, .slice C6 k l6] 26)).alloc (.cells #[.int .u8 107] 5 (1, 2)) = w8 at *
  refine (pmakeB_any [107#8] [] 0 (some ⟨w6.heap.size + 1, 0, none⟩) none 1 1 0 0 w8 RK.out (rowRd_none0 w8) (by omega) (by omega) (HK.out.below BK7.out.since) (HF.out.below BK7.out.since)).mono ?_
  rw [M.aw_make0]
  rintro e w9 ⟨x, rfl, A9, n9, c9, B9, m9, d9, C9, k9, l9, rfl, hn9, hm9, hk9, hB⟩
  have BK9 := Lib.hid (BK7.out.call hB.since)
  clear hn9 hm9 hk9 hB BK7 BK6 RK
  have hcv3 := Lib.run_convert_bytes_const (w9.alloc (.cells #[.int .i64 (M.bmake [107#8] 0 []).ver, .slice A9 n9 c9, .slice B9 m9 d9, .slice C9 k9 l9] 26)) 22 5 #[.int .u8 107] 1 1 Tryz.underlying22 Tryz.underlying5
  rw [World.size_alloc] at hcv3
  have rK := row_conv (w9.alloc (.cells #[.int .i64 (M.bmake [107#8] 0 []).ver, .slice A9 n9 c9, .slice B9 m9 d9, .slice C9 k9 l9] 26)) #[.int .u8 107] 5 1 2 [107#8] 1 1 rfl rfl
  rw [World.size_alloc] at rK
  have RK := Lib.hid rK
  have BKA := Lib.hid ((BK9.out.alloc (.cells #[.int .i64 (M.bmake [107#8] 0 []).ver, .slice A9 n9 c9, .slice B9 m9 d9, .slice C9 k9 l9] 26)).alloc (.cells #[.int .u8 107] 5 (1, 2)))
  have y0 := BKA.out.cell 4 rfl 0 rfl
  have y1 := BKA.out.cell 4 rfl 1 rfl
  have y2 := BKA.out.cell 4 rfl 2 rfl
  have y3 := BKA.out.cell 4 rfl 3 rfl
  clear rK BK9
  go_wp2_with fail
  clear hcv3 y0 y1 y2 y3
  generalize hX9 : w9.heap.size = X9 at *
  generalize (w9.alloc (.cells #[.int .i64 (M.bmake [107#8] 0 []).ver, .slice A9 n9 c9, .slice B9 m9 d9, .slice C9 k9 l9] 26)).alloc (.cells #[.int .u8 107] 5 (1, 2)) = wA at *
  clear hX9
  refine (pcheckB_any [107#8] M.awB (some ⟨X9 + 1, 0, none⟩) 1 1 A n c B m d C k l wA RK.out ⟨BKA.out.row 7 rfl, BKA.out.row 6 rfl, BKA.out.row 5 rfl⟩ (by omega) (by rw [HN.out]; omega) (by rw [HM.out]; omega) (by rw [HKK.out]; omega) (HK.out.below BKA.out.since) (HF.out.below BKA.out.since)).mono ?_
  rw [M.aw_check]
  rintro e wB ⟨rfl, hs⟩
  have BKB := Lib.hid ((BKA.out.call hs).alloc (.cells #[.int .u8 108] 5 (1, 2)))
  have rK := row_conv wB #[.int .u8 108] 5 1 2 [108#8] 1 1 rfl rfl
  have RK2 := Lib.hid rK
  have hcv3 := Lib.run_convert_bytes_const wB 22 5 #[.int .u8 108] 1 1 Tryz.underlying22 Tryz.underlying5
  have y0 := BKB.out.cell 4 rfl 0 rfl
  have y1 := BKB.out.cell 4 rfl 1 rfl
  have y2 := BKB.out.cell 4 rfl 2 rfl
  have y3 := BKB.out.cell 4 rfl 3 rfl
  clear hs rK RK BKA
  go_wp2_with fail
  clear hcv3 y0 y1 y2 y3
  generalize hXB : wB.heap.size = XB at *
  generalize wB.alloc (.cells #[.int .u8 108] 5 (1, 2)) = wC at *
  clear hXB
  refine (pcheckB_any [108#8] M.awB (some ⟨XB, 0, none⟩) 1 1 A n c B m d C k l wC RK2.out ⟨BKB.out.row 7 rfl, BKB.out.row 6 rfl, BKB.out.row 5 rfl⟩ (by omega) (by rw [HN.out]; omega) (by rw [HM.out]; omega) (by rw [HKK.out]; omega) (HK.out.below BKB.out.since) (HF.out.below BKB.out.since)).mono ?_
  rw [M.aw_check2]
  rintro e wD ⟨rfl, hs⟩
  have BKD := Lib.hid ((BKB.out.call hs).alloc (.cells #[.int .u8 107] 5 (1, 2)))
  have rK := row_conv wD #[.int .u8 107] 5 1 2 [107#8] 1 1 rfl rfl
  have RK3 := Lib.hid rK
  have y0 := BKD.out.cell 0 rfl 0 rfl
  have y1 := BKD.out.cell 0 rfl 1 rfl
  have y2 := BKD.out.cell 0 rfl 2 rfl
  have y3 := BKD.out.cell 0 rfl 3 rfl
  clear hs rK RK2 BKB
  go_wp2_with fail
  clear y0 y1 y2 y3
  generalize hXD : wD.heap.size = XD at *
  generalize wD.alloc (.cells #[.int .u8 107] 5 (1, 2)) = wE at *
  clear hXD
  refine (pcheckB_any [107#8] M.awB2 (some ⟨XD, 0, none⟩) 1 1 A6 n c6 B6 m d6 C6 k l6 wE RK3.out ⟨BKD.out.row 3 rfl, BKD.out.row 2 rfl, BKD.out.row 1 rfl⟩ (by omega) (by rw [HN.out]; omega) (by rw [HM.out]; omega) (by rw [HKK.out]; omega) (HK.out.below BKD.out.since) (HF.out.below BKD.out.since)).mono ?_
  rw [M.aw_check3]
  rintro e wF ⟨rfl, hs⟩
  have HFIN := Lib.hid (show Since w wF from (BKD.out.call hs).since)
  clear hs BKD RK3
  go_wp2_with fail
  go_ret
  exact ⟨rfl, HFIN.out⟩
end Go.Proofs.YtidcfjmibljkeaaGreatDoor.K

/- The contract of barbicanlaw19.great. -/
namespace Go.Proofs.YtidcfjmibljkeaaGreatDoor.K
open Go Go.RowKit
set_option maxHeartbeats 4000000 in
set_option maxRecDepth 100000 in
theorem great_any (v : Int) (A : Option Addr) (n c : Nat) (B : Option Addr) (m d : Nat) (C : Option Addr) (k l : Nat) (w : World) (hn : n ≤ 1000000000000000) (hm : m ≤ 1000000000000000) (hk : k ≤ 1000000000000000) :
    Calls Tryz.prog 15 #[.agg #[.int .i64 v, .slice A n c, .slice B m d, .slice C k l]] w fun e w' => e = .returned (.bool (decide (3000 < n + m + k))) ∧ Since w w' := by
  have HS := Lib.hid (show Since w (w.alloc (.cells #[.int .i64 v, .slice A n c, .slice B m d, .slice C k l] 26)) from Since.alloc (Below.refl _ _) _)
  have w1 : IntKind.i64.wrap ((n : Int) + m) = (n : Int) + m := IntWalk.i64_in _ (by omega)
  have w2 : IntKind.i64.wrap ((n : Int) + m + k) = (n : Int) + m + k := IntWalk.i64_in _ (by omega)
  have he : decide ((3000 : Int) < (n : Int) + m + k) = decide (3000 < n + m + k) := by rw [decide_eq_decide]; omega
  go_enter Tryz.func15, Tryz.ntmps15
  go_wp2_with fail
  go_ret
  exact ⟨rfl, HS.out⟩
end Go.Proofs.YtidcfjmibljkeaaGreatDoor.K

/- The contract of the kit's LentBundle. -/
namespace Go.Proofs.YtidcfjmibljkeaaGreatDoor.K
open Go Go.RowKit

theorem own_of_block {w : World} {base g : Nat} {t : TypeId} {vs : List Value} (hg : w.heap[g]? = some (.cells vs.toArray t (0, 0))) (hb : base ≤ g) (hs : vs.length ≤ maxLen) : w.ownsRow base t 1 (.slice (some ⟨g, 0, none⟩) vs.length vs.length) vs.length vs := by
  refine ⟨?_, .inr ⟨g, _, _, rfl, hb, hg, Nat.le_refl _, ?_, ?_, ?_⟩⟩
  · omega
  · show vs.length ≤ maxLen; exact hs
  · show _ = vs.length * 1; simp
  · show vs.toArray.toList.take (vs.length * 1) = vs; simp
/-- what is lent, as it lies -/
def lentL (bs : List (BitVec 8)) : List Value := bv (bs ++ marks 1 0 12)
theorem lentL_length (bs : List (BitVec 8)) : (lentL bs).length = bs.length + 12 := by unfold lentL; rw [bv_length, List.length_append]; simp [marks]
/-- a bundle was lent -/
def LentB (w : World) (b : M.Bun) (n m k : Nat) (e : Ending) (w' : World) : Prop := ∃ gA gB gC, e = .returned (.agg #[.int .i64 b.ver, .slice (some ⟨gA, 0, none⟩) n (n + 12), .slice (some ⟨gB, 0, none⟩) m (m + 12), .slice (some ⟨gC, 0, none⟩) k (k + 12)]) ∧ Bank w w' [boxAcc gC 5 (lentL b.tag), boxAcc gB 5 (lentL b.dig), boxAcc gA 5 (lentL b.code)]
set_option maxHeartbeats 8000000 in
set_option maxRecDepth 100000 in
theorem LentBundle_any (b : M.Bun) (A : Option Addr) (n c : Nat) (B : Option Addr) (m d : Nat) (C : Option Addr) (k l : Nat) (w : World) (h : BunIn w b A n c B m d C k l) (hn : n ≤ 10000000000) (hm : m ≤ 10000000000) (hk : k ≤ 10000000000) :
    Calls Tryz.prog 16 #[.agg #[.int .i64 b.ver, .slice A n c, .slice B m d, .slice C k l]] w (LentB w b n m k) := by
  have H := Lib.hid h
  obtain ⟨v, hv⟩ : ∃ v, v = b.ver := ⟨_, rfl⟩
  have HV := Lib.hid hv
  rw [← hv]
  have BK0 := Lib.hid (((Bank.nil (Below.refl w.heap.size w)).box #[.int .i64 v, .slice A n c, .slice B m d, .slice C k l] 26 (by simp)).box #[.int .i64 0, .slice none 0 0, .slice none 0 0, .slice none 0 0] 26 (by simp))
  rw [World.size_alloc] at BK0
  clear h hv
  go_enter Tryz.func16, Tryz.ntmps16
  go_wp2_with fail
  generalize hw1 : (w.alloc (.cells #[.int .i64 v, .slice A n c, .slice B m d, .slice C k l] 26)).alloc (.cells #[.int .i64 0, .slice none 0 0, .slice none 0 0, .slice none 0 0] 26) = w1 at *
  clear hw1
  have HXA := Lib.hid (Since.row BK0.out.since H.out.code)
  refine (LentBytes_any A n c b.code w1 HXA.out.rd HXA.out.len (by omega) HXA.out.none).mono ?_
  rintro e w2 ⟨gA, rfl, hge, ho, hb⟩
  have BK2 : Hid (Bank w w2 (boxAcc gA 5 (lentL b.code) :: _)) := Lib.hid (BK0.out.made hb (own_of_block ho hge (by rw [lentL_length, HXA.out.len]; unfold maxLen; dsimp only; omega)))
  have x1 := BK2.out.cell 2 rfl 1 rfl
  have f1 := BK2.out.free 2 rfl 1
  have BK3 := Lib.hid (BK2.out.boxSet 2 rfl 1 (.slice (some ⟨gA, 0, none⟩) n (n + 12)))
  have x2 := BK3.out.cell 2 rfl 2 rfl
  clear hb ho hge BK0 BK2
  go_wp2_with fail
  generalize w2.setCell ⟨w.heap.size, 1, none⟩ (.slice (some ⟨gA, 0, none⟩) n (n + 12)) = w3 at *
  clear x1 f1 x2
  have HXB := Lib.hid (Since.row BK3.out.since H.out.dig)
  refine (LentBytes_any B m d b.dig w3 HXB.out.rd HXB.out.len (by omega) HXB.out.none).mono ?_
  rintro e w4 ⟨gB, rfl, hge, ho, hb⟩
  have BK4 : Hid (Bank w w4 (boxAcc gB 5 (lentL b.dig) :: _)) := Lib.hid (BK3.out.made hb (own_of_block ho hge (by rw [lentL_length, HXB.out.len]; unfold maxLen; dsimp only; omega)))
  have x1 := BK4.out.cell 3 rfl 2 rfl
  have f1 := BK4.out.free 3 rfl 2
  have BK5 := Lib.hid (BK4.out.boxSet 3 rfl 2 (.slice (some ⟨gB, 0, none⟩) m (m + 12)))
  have x2 := BK5.out.cell 3 rfl 3 rfl
  clear hb ho hge BK3 BK4
  go_wp2_with fail
  generalize w4.setCell ⟨w.heap.size, 2, none⟩ (.slice (some ⟨gB, 0, none⟩) m (m + 12)) = w5 at *
  clear x1 f1 x2
  have HXC := Lib.hid (Since.row BK5.out.since H.out.tag)
  refine (LentBytes_any C k l b.tag w5 HXC.out.rd HXC.out.len (by omega) HXC.out.none).mono ?_
  rintro e w6 ⟨gC, rfl, hge, ho, hb⟩
  have BK6 : Hid (Bank w w6 (boxAcc gC 5 (lentL b.tag) :: _)) := Lib.hid (BK5.out.made hb (own_of_block ho hge (by rw [lentL_length, HXC.out.len]; unfold maxLen; dsimp only; omega)))
  have x1 := BK6.out.cell 4 rfl 3 rfl
  have f1 := BK6.out.free 4 rfl 3
  have BK7 := Lib.hid (BK6.out.boxSet 4 rfl 3 (.slice (some ⟨gC, 0, none⟩) k (k + 12)))
  have z0 := BK7.out.cell 4 rfl 0 rfl
  have z1 := BK7.out.cell 4 rfl 1 rfl
  have z2 := BK7.out.cell 4 rfl 2 rfl
  have z3 := BK7.out.cell 4 rfl 3 rfl
  have HRES := Lib.hid (BK7.out.boxAt 3 rfl).2
  have HFIN := Lib.hid (show LentB w b n m k (.returned (.agg (bunL v (some ⟨gA, 0, none⟩) n (n + 12) (some ⟨gB, 0, none⟩) m (m + 12) (some ⟨gC, 0, none⟩) k (k + 12)).toArray)) ((w6.setCell ⟨w.heap.size, 3, none⟩ (.slice (some ⟨gC, 0, none⟩) k (k + 12))).setRow (w.heap.size + 1) (bunL v (some ⟨gA, 0, none⟩) n (n + 12) (some ⟨gB, 0, none⟩) m (m + 12) (some ⟨gC, 0, none⟩) k (k + 12)).toArray) from by
    have h := BK7.out.boxRow 3 rfl (bunL v (some ⟨gA, 0, none⟩) n (n + 12) (some ⟨gB, 0, none⟩) m (m + 12) (some ⟨gC, 0, none⟩) k (k + 12)) rfl (by decide)
    exact ⟨gA, gB, gC, (by rw [HV.out]; first | done | rfl), h.sub (.cons_cons _ (.cons_cons _ (.cons_cons _ (.cons _ (.cons _ .slnil)))))⟩)
  clear hb ho hge BK5 BK6
  go_wp2_with (with_reducible refine wpList_store_row rfl 26 (.tmp 2) (.tmp 15) rfl (w.heap.size + 1) (bunL v (some ⟨gA, 0, none⟩) n (n + 12) (some ⟨gB, 0, none⟩) m (m + 12) (some ⟨gC, 0, none⟩) k (k + 12)).toArray rfl rfl 26 _ HRES.out (infoBunL v (some ⟨gA, 0, none⟩) n (n + 12) (some ⟨gB, 0, none⟩) m (m + 12) (some ⟨gC, 0, none⟩) k (k + 12)) rfl (bunL_one _ _ _ _ _ _ _ _ _ _) ?_)
  refine bodyPost_ret (v := .agg (bunL v (some ⟨gA, 0, none⟩) n (n + 12) (some ⟨gB, 0, none⟩) m (m + 12) (some ⟨gC, 0, none⟩) k (k + 12)).toArray) ?_ rfl HFIN.out
  exact results_cell_only rfl _ _ (w.heap.size + 1) _ rfl (load_bun _ _ _ _ _ _ _ _ _ _ (setRow_heap _ _ _ _ _ _ HRES.out))
end Go.Proofs.YtidcfjmibljkeaaGreatDoor.K

/- The contracts of the kit's SameBundle and KeptBundle, where they answer true. -/
namespace Go.Proofs.YtidcfjmibljkeaaGreatDoor.K
open Go Go.RowKit

set_option maxHeartbeats 8000000 in
set_option maxRecDepth 100000 in
theorem SameBundle_eq (b : M.Bun) (A : Option Addr) (n c : Nat) (B : Option Addr) (m d : Nat) (C : Option Addr) (k l : Nat) (A' : Option Addr) (n' c' : Nat) (B' : Option Addr) (m' d' : Nat) (C' : Option Addr) (k' l' : Nat) (w : World) (h : BunIn w b A n c B m d C k l) (h' : BunIn w b A' n' c' B' m' d' C' k' l') (hn : n ≤ 10000000000) (hm : m ≤ 10000000000) (hk : k ≤ 10000000000) :
    Calls Tryz.prog 11 #[.agg #[.int .i64 b.ver, .slice A n c, .slice B m d, .slice C k l], .agg #[.int .i64 b.ver, .slice A' n' c', .slice B' m' d', .slice C' k' l']] w fun e w' => e = .returned (.bool true) ∧ Since w w' := by
  have H := Lib.hid h; have H' := Lib.hid h'
  obtain ⟨v, hv⟩ : ∃ v, v = b.ver := ⟨_, rfl⟩
  rw [← hv]
  have BK0 := Lib.hid (((Bank.nil (Below.refl w.heap.size w)).box #[.int .i64 v, .slice A n c, .slice B m d, .slice C k l] 26 (by simp)).box #[.int .i64 v, .slice A' n' c', .slice B' m' d', .slice C' k' l'] 26 (by simp))
  rw [World.size_alloc] at BK0
  clear h h' hv
  go_enter Tryz.func11, Tryz.ntmps11
  go_wp2_with fail
  generalize hw1 : (w.alloc (.cells #[.int .i64 v, .slice A n c, .slice B m d, .slice C k l] 26)).alloc (.cells #[.int .i64 v, .slice A' n' c', .slice B' m' d', .slice C' k' l'] 26) = w1 at *
  clear hw1
  refine (same_made H.out.code H'.out.code (by omega) BK0.out.since).mono ?_
  rintro e w2 ⟨rfl, hs⟩
  have BK2 := Lib.hid (BK0.out.call hs)
  clear hs BK0
  have y2 := BK2.out.cell 1 rfl 2 rfl
  have z2 := BK2.out.cell 0 rfl 2 rfl
  go_wp2_with fail
  clear y2 z2
  refine (same_made H.out.dig H'.out.dig (by omega) BK2.out.since).mono ?_
  rintro e w3 ⟨rfl, hs⟩
  have BK3 := Lib.hid (BK2.out.call hs)
  clear hs BK2
  have y3 := BK3.out.cell 1 rfl 3 rfl
  have z3 := BK3.out.cell 0 rfl 3 rfl
  go_wp2_with fail
  clear y3 z3
  refine (same_made H.out.tag H'.out.tag (by omega) BK3.out.since).mono ?_
  rintro e w4 ⟨rfl, hs⟩
  have BK4 := Lib.hid (BK3.out.call hs)
  clear hs BK3
  go_wp2_with fail
  go_ret
  exact ⟨rfl, BK4.out.since⟩
set_option maxHeartbeats 8000000 in
set_option maxRecDepth 100000 in
theorem KeptBundle_any (b : M.Bun) (gA gB gC n m k : Nat) (A : Option Addr) (c : Nat) (B : Option Addr) (d : Nat) (C : Option Addr) (l : Nat) (w : World) (hA : w.heap[gA]? = some (.cells (lentL b.code).toArray 5 (0, 0))) (hB : w.heap[gB]? = some (.cells (lentL b.dig).toArray 5 (0, 0))) (hC : w.heap[gC]? = some (.cells (lentL b.tag).toArray 5 (0, 0))) (h : BunIn w b A n c B m d C k l) (hn : n ≤ 10000000000) (hm : m ≤ 10000000000) (hk : k ≤ 10000000000) :
    Calls Tryz.prog 22 #[.agg #[.int .i64 b.ver, .slice (some ⟨gA, 0, none⟩) n (n + 12), .slice (some ⟨gB, 0, none⟩) m (m + 12), .slice (some ⟨gC, 0, none⟩) k (k + 12)], .agg #[.int .i64 b.ver, .slice A n c, .slice B m d, .slice C k l]] w fun e w' => e = .returned (.bool true) ∧ Since w w' := by
  have H := Lib.hid h
  have GA := Lib.hid hA; have GB := Lib.hid hB; have GC := Lib.hid hC
  have BK0 := Lib.hid (((Bank.nil (Below.refl w.heap.size w)).box #[.int .i64 b.ver, .slice (some ⟨gA, 0, none⟩) n (n + 12), .slice (some ⟨gB, 0, none⟩) m (m + 12), .slice (some ⟨gC, 0, none⟩) k (k + 12)] 26 (by simp)).box #[.int .i64 b.ver, .slice A n c, .slice B m d, .slice C k l] 26 (by simp))
  rw [World.size_alloc] at BK0
  have HL := Lib.hid (show BunIn w b (some ⟨gA, 0, none⟩) n (n + 12) (some ⟨gB, 0, none⟩) m (m + 12) (some ⟨gC, 0, none⟩) k (k + 12) from ⟨lent_row hA h.code.len, lent_row hB h.dig.len, lent_row hC h.tag.len⟩)
  clear h hA hB hC
  go_enter Tryz.func22, Tryz.ntmps22
  go_wp2_with fail
  generalize hw1 : (w.alloc (.cells #[.int .i64 b.ver, .slice (some ⟨gA, 0, none⟩) n (n + 12), .slice (some ⟨gB, 0, none⟩) m (m + 12), .slice (some ⟨gC, 0, none⟩) k (k + 12)] 26)).alloc (.cells #[.int .i64 b.ver, .slice A n c, .slice B m d, .slice C k l] 26) = w1 at *
  clear hw1
  refine (SameBundle_eq b (some ⟨gA, 0, none⟩) n (n + 12) (some ⟨gB, 0, none⟩) m (m + 12) (some ⟨gC, 0, none⟩) k (k + 12) A n c B m d C k l w1 (HL.out.since BK0.out.since) (H.out.since BK0.out.since) hn hm hk).mono ?_
  rintro e w2 ⟨rfl, hs⟩
  have BK2 := Lib.hid (BK0.out.call hs)
  clear hs BK0
  have y1 := BK2.out.cell 1 rfl 1 rfl
  have z1 := BK2.out.cell 0 rfl 1 rfl
  go_wp2_with fail
  clear y1 z1
  refine (kept_made GA.out H.out.code (by omega) BK2.out.since).mono ?_
  rintro e w3 ⟨rfl, hs⟩
  have BK3 := Lib.hid (BK2.out.call hs)
  clear hs BK2
  have y2 := BK3.out.cell 1 rfl 2 rfl
  have z2 := BK3.out.cell 0 rfl 2 rfl
  go_wp2_with fail
  clear y2 z2
  refine (kept_made GB.out H.out.dig (by omega) BK3.out.since).mono ?_
  rintro e w4 ⟨rfl, hs⟩
  have BK4 := Lib.hid (BK3.out.call hs)
  clear hs BK3
  have y3 := BK4.out.cell 1 rfl 3 rfl
  have z3 := BK4.out.cell 0 rfl 3 rfl
  go_wp2_with fail
  clear y3 z3
  refine (kept_made GC.out H.out.tag (by omega) BK4.out.since).mono ?_
  rintro e w5 ⟨rfl, hs⟩
  have BK5 := Lib.hid (BK4.out.call hs)
  clear hs BK4
  go_wp2_with fail
  go_ret
  exact ⟨rfl, BK5.out.since⟩
end Go.Proofs.YtidcfjmibljkeaaGreatDoor.K

/- The contracts of the reference's reader: New, Number, Bad, Done. -/
namespace Go.Proofs.YtidcfjmibljkeaaGreatDoor.K
open Go Go.RowKit

def readL (A : Option Addr) (n c : Nat) (at' : Int) (bad : Bool) : List Value := [.slice A n c, .int .i64 at', .bool bad]
/-- the block R is a reader of the document's: s is what is left, or none if it is bad -/
structure RefR (w : World) (R : Nat) (s : M.Rdr) (A : Option Addr) (n c at' : Nat) (bad : Bool) (D : List (BitVec 8)) : Prop where
  blk : ∃ t, w.heap[R]? = some (.cells (readL A n c at' bad).toArray t (0, 0))
  rd : Rd w A D
  len : D.length = n
  none : A = Option.none → c = 0
  at_le : at' ≤ n
  is : s = if bad then Option.none else some (D.drop at')
  n_le : n ≤ 1000000000000
  cap : n ≤ c ∧ c ≤ 9223372036854775807
  ne : ∀ a, A = some a → a.block ≠ R
  form : ∀ a, A = some a → ∃ g, a = ⟨g, 0, Option.none⟩
/-- wherever it stands -/
def RefN (w : World) (R : Nat) (s : M.Rdr) (A : Option Addr) (n c : Nat) (D : List (BitVec 8)) : Prop := ∃ at' bad, RefR w R s A n c at' bad D
theorem RefR.cell {w : World} {R : Nat} {s : M.Rdr} {A : Option Addr} {n c at' : Nat} {bad : Bool} {D : List (BitVec 8)} (h : RefR w R s A n c at' bad D) {i : Nat} {v : Value} (hv : (readL A n c at' bad)[i]? = some v) : w.cell? ⟨R, i, Option.none⟩ = some v := by
  obtain ⟨t, hb⟩ := h.blk
  exact block_cell hb hv
theorem RefR.free {w : World} {R : Nat} {s : M.Rdr} {A : Option Addr} {n c at' : Nat} {bad : Bool} {D : List (BitVec 8)} (h : RefR w R s A n c at' bad D) (i : Nat) : w.frozen? ⟨R, i, Option.none⟩ = false := by
  obtain ⟨t, hb⟩ := h.blk
  exact frozen_of_row w R i _ t hb
theorem Rd.setCell' {w : World} {A : Option Addr} {l : List (BitVec 8)} (h : Rd w A l) {b i : Nat} (hb : ∀ a, A = some a → a.block ≠ b) (v : Value) : Rd (w.setCell ⟨b, i, none⟩ v) A l := fun k hk => by
  obtain ⟨g', o, e, hc⟩ := h k hk
  exact ⟨g', o, e, by rw [cell_setCell_ne _ (hb _ e)]; exact hc⟩
theorem RefR.bad {w : World} {R : Nat} {s : M.Rdr} {A : Option Addr} {n c at' : Nat} {bad : Bool} {D : List (BitVec 8)} (h : RefR w R s A n c at' bad D) : RefR (w.setCell ⟨R, 2, Option.none⟩ (.bool true)) R Option.none A n c at' true D := by
  obtain ⟨t, hb⟩ := h.blk
  exact ⟨⟨t, block_set hb 2 _⟩, h.rd.setCell' h.ne _, h.len, h.none, h.at_le, rfl, h.n_le, h.cap, h.ne, h.form⟩
theorem RefR.move {w : World} {R : Nat} {s : M.Rdr} {A : Option Addr} {n c at' : Nat} {D : List (BitVec 8)} (h : RefR w R s A n c at' false D) (k : Nat) (hk : at' + k ≤ n) : RefR (w.setCell ⟨R, 1, Option.none⟩ (.int .i64 ((at' + k : Nat) : Int))) R (some (D.drop (at' + k))) A n c (at' + k) false D := by
  obtain ⟨t, hb⟩ := h.blk
  exact ⟨⟨t, block_set hb 1 _⟩, h.rd.setCell' h.ne _, h.len, h.none, hk, rfl, h.n_le, h.cap, h.ne, h.form⟩
theorem RefR.drewN {w : World} {R : Nat} {s : M.Rdr} {A : Option Addr} {n c at' : Nat} {bad : Bool} {D : List (BitVec 8)} (h : RefR w R s A n c at' bad D) (q : Nat) : RefR (w.drewN q) R s A n c at' bad D :=
  ⟨h.blk, h.rd, h.len, h.none, h.at_le, h.is, h.n_le, h.cap, h.ne, h.form⟩
theorem conv_W64_int {P : Program} (w : World) (src dst : TypeId) (x : BitVec 64) (hs : P.underlying src = some (.int .u64)) (hd : P.underlying dst = some (.int .i64)) : (convert src dst (W64 x)).run P w = .ok (.int .i64 x.toInt) w := by
  have h : IntKind.i64.wrap (x.toNat : Int) = x.toInt := by
    rw [BitVec.toInt_eq_toNat_bmod]
    simp [IntKind.wrap, IntKind.bits, IntKind.signed, Int.bmod]
    split <;> split <;> omega
  simp [convert, run_underlying hs, run_underlying hd, Conv.intToInt, W64, h]
theorem grown_set {w : World} {g i : Nat} (v : Value) : w.grownBy (w.setCell ⟨g, i, none⟩ v) (some g) := grownBy_setCell w g i v
theorem grown_drew {w w' : World} {row : Option Nat} (h : w.grownBy w' row) (q : Nat) : w.grownBy (w'.drewN q) row := ⟨h.os, h.tape, h.output, h.size, h.block⟩

set_option maxHeartbeats 1000000 in
set_option maxRecDepth 100000 in
theorem rNumber_any (R : Nat) (s : M.Rdr) (A : Option Addr) (n c at' : Nat) (bad : Bool) (D : List (BitVec 8)) (w : World) (h : RefR w R s A n c at' bad D) :
    Calls Tryz.prog 59 #[.pointer (some ⟨R, 0, none⟩)] w fun e w' => e = .returned (.int .i64 (M.rdNumber s).1) ∧ RefN w' R (M.rdNumber s).2 A n c D ∧ w.grownBy w' (some R) := by
  have c0 : w.cell? ⟨R, 0, none⟩ = some (.slice A n c) := h.cell rfl
  have c1 : w.cell? ⟨R, 1, none⟩ = some (.int .i64 (at' : Int)) := h.cell rfl
  have c2 : w.cell? ⟨R, 2, none⟩ = some (.bool bad) := h.cell rfl
  have f1 := h.free 1
  have f2 := h.free 2
  have hal := h.at_le
  have hnl := h.n_le
  have hcap := h.cap
  have H := Lib.hid h
  cases bad with
  | true =>
    have hs : s = none := h.is
    have HS := Lib.hid hs
    clear h hs
    go_enter Tryz.func59, Tryz.ntmps59
    go_wp2
    go_quiet (fail)
    go_wp2
    go_ret
    exact ⟨by rw [HS.out]; rfl, ⟨_, _, by rw [HS.out]; exact (H.out.bad).drewN _⟩, grown_drew (grown_set _) _⟩
  | false =>
    have hs : s = some (D.drop at') := h.is
    have hlen := h.len
    have hdl : (D.drop at').length = n - at' := by rw [List.length_drop, hlen]
    have HS := Lib.hid hs
    rcases Nat.lt_or_ge (n - at') 8 with h8 | h8
    · have d1 : decide ((n : Int) - (at' : Int) < 8) = true := by simp; omega
      have hr : M.rdNumber s = (0, none) := by rw [hs]; simp only [M.rdNumber]; rw [if_pos (by rw [hdl]; exact h8)]
      have HR := Lib.hid hr
      clear h hs hlen hdl hr
      have p1 : (n : Int) - (at' : Int) < 8 := by omega
      go_enter Tryz.func59, Tryz.ntmps59
      go_wp2
      go_quiet (fail)
      go_wp2
      go_ret
      exact ⟨by rw [HR.out]; rfl, ⟨_, _, by rw [HR.out]; exact (H.out.bad).drewN _⟩, grown_drew (grown_set _) _⟩
    · have p1 : ¬ (n : Int) - (at' : Int) < 8 := by omega
      have d1 : decide ((n : Int) - (at' : Int) < 8) = false := by simpa using p1
      have hr : M.rdNumber s = (M.val ((D.drop at').take 8), some (D.drop (at' + 8))) := by rw [hs]; simp only [M.rdNumber]; rw [if_neg (by rw [hdl]; omega), List.drop_drop]
      obtain ⟨b, o, hA, _, hD⟩ := h.rd.lay (by omega)
      subst hA
      have hneR : b ≠ R := h.ne _ rfl
      have HR := Lib.hid hr; have HD := Lib.hid hD; have HLEN := Lib.hid hlen
      clear h hs hdl hr hD hlen
      have mc : ∀ (t : TypeId) (x : BitVec 64), binOp .mul t (.int .u64 256) (W64 x) = pure (W64 (256 * x)) := fun t x => W64_mul t 256 x
      go_enter Tryz.func59, Tryz.ntmps59
      go_wp2
      go_quiet (fail)
      go_wp2
      go_loopw [3, 4] (fun v i wr => ∃ k : Nat, k ≤ 8 ∧ i = .int .i64 (k : Int) ∧ v = W64 (M.w64 ((D.drop at').take k)) ∧ ∃ q, wr = w.drewN q) (fun _ i _ => 8 - (intOf i).toNat)
      case atStart => exact ⟨0, by omega, rfl, rfl, _, rfl⟩
      case round =>
        obtain ⟨k, hk, rfl, rfl, q, rfl⟩ := hrel
        have k0 : (0 : Int) ≤ (k : Int) := by omega
        rcases Nat.lt_or_ge k 8 with h9 | h9
        · have k1 : (k : Int) < 8 := by omega
          have cx : w.cell? ⟨b, o + (at' + k), none⟩ = some (B8 (D.getD (at' + k) 0)) := HD.out (at' + k) (by have := HLEN.out; omega)
          have w1 : IntKind.i64.wrap ((at' : Int) + (k : Int)) = (at' : Int) + (k : Int) := IntWalk.i64_in _ (by omega)
          have w2 : (0 : Int) ≤ (at' : Int) + (k : Int) := by omega
          have w3 : ((at' : Int) + (k : Int)).toNat = at' + k := by omega
          have w4 : (at' : Int) + (k : Int) < (n : Int) := by omega
          have w5 : at' + k < n := by omega
          go_wp2
          go_quiet (fail)
          clear w1 w2 w3 w4 w5
          go_wp2
          go_roundw
          case rel =>
            refine ⟨k + 1, by omega, by go_num, ?_, _, rfl⟩
            have hl := HLEN.out
            rw [List.take_succ_eq_append_getElem (by rw [List.length_drop]; omega), M.w64_snoc, List.getElem_drop]
            rw [List.getElem?_eq_getElem (by omega)]
            rfl
          case measure => simp [intOf]; omega
        · have hk8 : k = 8 := by omega
          have k1 : ¬ (k : Int) < 8 := by omega
          have hcv := fun w => conv_W64_int (P := Tryz.prog) w 93 3 (M.w64 ((D.drop at').take k)) Tryz.underlying93 Tryz.underlying3
          have HK8 := Lib.hid hk8
          clear hk8 mc
          go_wp2
          go_ret
          have ev : (M.rdNumber s).1 = (M.w64 ((D.drop at').take k)).toInt := by rw [HR.out, HK8.out]; rfl
          have es : (M.rdNumber s).2 = some (D.drop (at' + 8)) := by rw [HR.out]
          refine ⟨by rw [ev]; rfl, ⟨at' + 8, false, ?_⟩, grown_drew (grown_set _) q⟩
          rw [es]
          exact (H.out.move 8 (by omega)).drewN q
end Go.Proofs.YtidcfjmibljkeaaGreatDoor.K

/- The contracts of the reference's reader: New, Bad, Done, Bytes. -/
namespace Go.Proofs.YtidcfjmibljkeaaGreatDoor.K
open Go Go.RowKit

theorem RefR.grown {w w' : World} {R : Nat} {s : M.Rdr} {A : Option Addr} {n c at' : Nat} {bad : Bool} {D : List (BitVec 8)} (h : RefR w R s A n c at' bad D) {row : Option Nat} (hg : w.grownBy w' row) (hR : row ≠ some R) (hA : ∀ a, A = some a → row ≠ some a.block) : RefR w' R s A n c at' bad D := by
  obtain ⟨t, hb⟩ := h.blk
  refine ⟨⟨t, (hg.block R (Array.getElem?_eq_some_iff.1 hb).1 (Ne.symm hR)).trans hb⟩, fun k hk => ?_, h.len, h.none, h.at_le, h.is, h.n_le, h.cap, h.ne, h.form⟩
  obtain ⟨b, o, e, hc⟩ := h.rd k hk
  exact ⟨b, o, e, hg.cell hc (Ne.symm (hA ⟨b, o, Option.none⟩ e))⟩
theorem RefR.lt {w : World} {R : Nat} {s : M.Rdr} {A : Option Addr} {n c at' : Nat} {bad : Bool} {D : List (BitVec 8)} (h : RefR w R s A n c at' bad D) : R < w.heap.size := by
  obtain ⟨t, hb⟩ := h.blk
  exact (Array.getElem?_eq_some_iff.1 hb).1
theorem grown_trans {w w1 w2 : World} {row : Option Nat} (h : w.grownBy w1 row) (h' : w1.grownBy w2 row) : w.grownBy w2 row :=
  ⟨h'.os.trans h.os, h'.tape.trans h.tape, h'.output.trans h.output, Nat.le_trans h.size h'.size, fun k hk hne => (h'.block k (Nat.lt_of_lt_of_le hk h.size) hne).trans (h.block k hk hne)⟩
theorem grown_weak {w w1 : World} {row : Option Nat} (h : w.grownBy w1 none) : w.grownBy w1 row := ⟨h.os, h.tape, h.output, h.size, fun k hk _ => h.block k hk (by simp)⟩
theorem grown_of_below {w w1 : World} {row : Option Nat} (h : Below w.heap.size w w1) : w.grownBy w1 row := ⟨h.os, h.tape, h.output, h.size, fun k hk _ => h.block k hk⟩

/-- a new reader -/
def RNew (w : World) (n : Nat) (bs : List (BitVec 8)) (e : Ending) (w' : World) : Prop := ∃ R B c', e = .returned (.pointer (some ⟨R, 0, none⟩)) ∧ w.heap.size ≤ R ∧ RefR w' R (some bs) B n c' 0 false bs ∧ (∀ a, B = some a → w.heap.size ≤ a.block ∧ a.block < w'.heap.size) ∧ Below w.heap.size w w'
set_option maxHeartbeats 1000000 in
set_option maxRecDepth 100000 in
theorem rNew_any (A : Option Addr) (n c : Nat) (bs : List (BitVec 8)) (w : World) (hx : RowRd w ⟨A, n, c⟩ bs) (hn2 : n ≤ 1000000000000) :
    Calls Tryz.prog 58 #[.slice A n c] w (RNew w n bs) := by
  obtain ⟨i0, hi, hz0, hz1, hz2⟩ := info_parts infoByte
  have hlen : bs.length = n := hx.len
  have hl2 : (bv bs).length = n * 1 := by rw [bv_length]; omega
  have hnn : A = none → n = 0 ∧ c = 0 := fun h => ⟨by
    have hrd : Rd w A bs := hx.rd
    rw [h] at hrd
    rw [hrd.empty] at hlen; exact hlen.symm, hx.none h⟩
  have hcs := hx.rd.cells
  have HL2 := Lib.hid hl2; have HNN := Lib.hid hnn; have HCS := Lib.hid hcs; have HLEN := Lib.hid hlen
  clear hx hlen hl2 hnn hcs
  go_enter Tryz.func58, Tryz.ntmps58
  go_wp2_with (at_builtin; refine wpList_append_any _ rfl _ _ 22 rfl w.heap.size 5 i0 (.int .u8 0) 1 1 Tryz.underlying22 hi hz0 hz1 hz2 rfl (by decide) _ 0 (bv []) rfl (own_lit0 (Nat.le_refl _)) A n c (bv bs) rfl HNN.out HL2.out (fun ad had j u hu => cell_old _ (HCS.out ad had j u hu)) (bv_one _) (by unfold maxLen; omega) (by omega) (by simp) ?_; intro v3 w3 hown3 hgrow3; rw [← bv_append, List.nil_append, Nat.zero_add] at hown3; obtain ⟨B3, d3, rfl⟩ := row_slice hown3; have hb3 : Below w.heap.size w w3 := ((Below.refl w.heap.size w).alloc (Nat.le_refl _) _).grown hgrow3 (by simp) (fun k hk => ((own_lit0 (e := 5) (Nat.le_refl w.heap.size)).lt k hk).1); have HB3 := Lib.hid hb3; have HO3 := Lib.hid hown3; clear hb3 hown3 hgrow3)
  go_ret
  have hr := row_room HO3.out
  have hb := HB3.out
  have hsz := hb.size
  refine ⟨w3.heap.size, B3, d3, rfl, hsz, ⟨⟨_, by exact heap_alloc_new w3 (.cells (readL B3 n d3 0 false).toArray 130)⟩, ?_, HLEN.out, fun e => (hr.2.2.1 e).2, Nat.zero_le _, rfl, hn2, ⟨hr.1, hr.2.1⟩, fun a e => ?_, fun a e => (hr.2.2.2 a e).imp fun g hg => hg.1⟩, fun a e => ?_, hb.alloc hsz _⟩
  · exact (Rd.of_own HO3.out).below ((Below.refl _ _).alloc (Nat.le_refl _) _)
  · obtain ⟨g, rfl, _, hg⟩ := hr.2.2.2 a e
    show g ≠ _; omega
  · obtain ⟨g, rfl, hg, hg2⟩ := hr.2.2.2 a e
    exact ⟨hg, by show g < _; simp; omega⟩

set_option maxHeartbeats 1000000 in
theorem rDone_any (R : Nat) (s : M.Rdr) (A : Option Addr) (n c at' : Nat) (bad : Bool) (D : List (BitVec 8)) (w : World) (h : RefR w R s A n c at' bad D) :
    Calls Tryz.prog 61 #[.pointer (some ⟨R, 0, none⟩)] w fun e w' => e = .returned (.bool (decide (s = some []))) ∧ ∃ q, w' = w.drewN q := by
  have c0 : w.cell? ⟨R, 0, none⟩ = some (.slice A n c) := h.cell rfl
  have c1 : w.cell? ⟨R, 1, none⟩ = some (.int .i64 (at' : Int)) := h.cell rfl
  have c2 : w.cell? ⟨R, 2, none⟩ = some (.bool bad) := h.cell rfl
  have hal := h.at_le
  have hnl := h.n_le
  have his := h.is
  have hlen := h.len
  clear h
  cases bad with
  | true =>
    have hs : decide (s = some []) = false := by rw [his]; rfl
    have HS := Lib.hid hs
    clear his hs hlen
    go_enter Tryz.func61, Tryz.ntmps61
    go_wp2
    go_quiet (fail)
    go_wp2
    go_ret
    exact ⟨by rw [HS.out]; rfl, _, rfl⟩
  | false =>
    have hs : decide (s = some []) = ((at' : Int) == (n : Int)) := by
      rw [his, Bool.eq_iff_iff, decide_eq_true_iff, beq_iff_eq]
      constructor
      · intro e
        have e2 : D.drop at' = [] := Option.some.inj e
        have := congrArg List.length e2
        rw [List.length_drop] at this; simp at this; omega
      · intro e
        have : D.drop at' = [] := List.drop_eq_nil_of_le (by omega)
        show some (D.drop at') = some []
        rw [this]
    have HS := Lib.hid hs
    clear his hs hlen
    go_enter Tryz.func61, Tryz.ntmps61
    go_wp2
    go_quiet (fail)
    go_wp2
    go_ret
    exact ⟨by rw [HS.out]; rfl, _, rfl⟩

theorem src_old {W : World} {ad0 : Addr} {news : List Value} (h : ∀ j u, news[j]? = some u → W.cell? (ad0.add j) = some u) (o : Obj) : ∀ ad, some ad0 = some ad → ∀ j u, news[j]? = some u → (W.alloc o).cell? (ad.add j) = some u := by
  intro ad had j u hu
  cases had
  exact cell_old o (h j u hu)
theorem grown_new {W w3 : World} {o : Obj} {row : Option Nat} (hg : ((W.alloc o).drew).grownBy w3 (some W.heap.size)) : W.grownBy w3 row :=
  ⟨hg.os, hg.tape, hg.output, Nat.le_trans (by simp) hg.size, fun k hk _ => (hg.block k (by simp; omega) (by simp; omega)).trans (heap_alloc_old W o hk)⟩
/-- bytes that were read: they lie in memory of their own -/
def RBytes (w : World) (R : Nat) (s : M.Rdr) (A : Option Addr) (n c : Nat) (D : List (BitVec 8)) (e : Ending) (w' : World) : Prop :=
  ∃ B m c', e = .returned (.slice B m c') ∧ w'.ownsRow w.heap.size 5 1 (.slice B m c') m (bv (M.rdBytes s).1) ∧ RefN w' R (M.rdBytes s).2 A n c D ∧ w.grownBy w' (some R)
theorem rdBytes_none {s : M.Rdr} {n : Int} (h : M.rdNumber s = (n, none)) : M.rdBytes s = ([], none) := by simp [M.rdBytes, h]
theorem rdBytes_some {s : M.Rdr} {n : Int} {l : List (BitVec 8)} (h : M.rdNumber s = (n, some l)) : M.rdBytes s = if n < 0 ∨ (l.length : Int) < n then ([], none) else (l.take n.toNat, some (l.drop n.toNat)) := by simp [M.rdBytes, h]

set_option maxHeartbeats 2000000 in
set_option maxRecDepth 100000 in
theorem rBytes_any (R : Nat) (s : M.Rdr) (A : Option Addr) (n c at' : Nat) (bad : Bool) (D : List (BitVec 8)) (w : World) (h : RefR w R s A n c at' bad D) :
    Calls Tryz.prog 60 #[.pointer (some ⟨R, 0, none⟩)] w (RBytes w R s A n c D) := by
  obtain ⟨i0, hi, hz0, hz1, hz2⟩ := info_parts infoByte
  have H0 := Lib.hid h
  clear h
  go_enter Tryz.func60, Tryz.ntmps60
  go_wp2_with fail
  refine (rNumber_any R s A n c at' bad D w H0.out).mono ?_
  rintro e w1 ⟨rfl, ⟨at1, bad1, h1⟩, hg1⟩
  have c0 : w1.cell? ⟨R, 0, none⟩ = some (.slice A n c) := h1.cell rfl
  have c1 : w1.cell? ⟨R, 1, none⟩ = some (.int .i64 (at1 : Int)) := h1.cell rfl
  have c2 : w1.cell? ⟨R, 2, none⟩ = some (.bool bad1) := h1.cell rfl
  have f1 := h1.free 1
  have f2 := h1.free 2
  have hal := h1.at_le
  have hnl := h1.n_le
  have hcap := h1.cap
  have hlen := h1.len
  obtain ⟨⟨z, s1⟩, hzs⟩ : ∃ p : Int × M.Rdr, p = M.rdNumber s := ⟨_, rfl⟩
  rw [← hzs] at h1
  have h1' : RefR w1 R s1 A n c at1 bad1 D := h1
  have HG1 := Lib.hid hg1; have H1 := Lib.hid h1'; have HZ := Lib.hid hzs; have HLEN := Lib.hid hlen
  rw [← hzs]
  have his := h1'.is
  clear h1 h1' hg1 hzs hlen
  cases bad1 with
  | true =>
    have hs1 : s1 = none := his
    have hb : M.rdBytes s = ([], none) := rdBytes_none (n := z) (by rw [← HZ.out, hs1])
    have HB := Lib.hid hb; have HS1 := Lib.hid hs1
    clear his hs1 hb
    go_wp2
    go_quiet (fail)
    go_wp2
    go_ret
    refine ⟨none, 0, 0, rfl, by rw [HB.out]; exact World.ownsRow_nil _ _ _ _, by rw [HB.out]; exact ⟨_, _, (H1.out.bad).drewN _⟩, grown_drew (grown_trans HG1.out (grown_set _)) _⟩
  | false =>
    have hs1 : s1 = some (D.drop at1) := his
    have hdl : (D.drop at1).length = n - at1 := by rw [List.length_drop, HLEN.out]
    have hb : M.rdBytes s = if z < 0 ∨ (((D.drop at1).length : Nat) : Int) < z then ([], none) else ((D.drop at1).take z.toNat, some ((D.drop at1).drop z.toNat)) := rdBytes_some (by rw [← HZ.out, hs1])
    rw [hdl] at hb
    have HB := Lib.hid hb
    clear his hs1 hb hdl
    by_cases hz : z < 0
    · have hb2 : M.rdBytes s = ([], none) := by rw [HB.out, if_pos (.inl hz)]
      have HB2 := Lib.hid hb2
      have d1 : decide (z < 0) = true := by simpa using hz
      clear hb2
      go_wp2
      go_quiet (fail)
      go_wp2
      go_ret
      refine ⟨none, 0, 0, rfl, by rw [HB2.out]; exact World.ownsRow_nil _ _ _ _, by rw [HB2.out]; exact ⟨_, _, (H1.out.bad).drewN _⟩, grown_drew (grown_trans HG1.out (grown_set _)) _⟩
    · have d1 : decide (z < 0) = false := by simpa using hz
      have z0 : 0 ≤ z := by omega
      by_cases hzl : (n : Int) - (at1 : Int) < z
      · have hb2 : M.rdBytes s = ([], none) := by rw [HB.out, if_pos (.inr (by omega))]
        have HB2 := Lib.hid hb2
        have d2 : decide ((n : Int) - (at1 : Int) < z) = true := by simpa using hzl
        clear hb2
        go_wp2
        go_quiet (fail)
        go_wp2
        go_ret
        refine ⟨none, 0, 0, rfl, by rw [HB2.out]; exact World.ownsRow_nil _ _ _ _, by rw [HB2.out]; exact ⟨_, _, (H1.out.bad).drewN _⟩, grown_drew (grown_trans HG1.out (grown_set _)) _⟩
      · obtain ⟨m, rfl⟩ : ∃ m : Nat, z = (m : Int) := ⟨z.toNat, by omega⟩
        have hm : at1 + m ≤ n := by omega
        have hb2 : M.rdBytes s = ((D.drop at1).take m, some (D.drop (at1 + m))) := by
          rw [HB.out, if_neg (by omega), List.drop_drop]; simp
        have HB2 := Lib.hid hb2
        have d2 : decide ((n : Int) - (at1 : Int) < (m : Int)) = false := by simpa using hzl
        clear hb2
        go_wp2
        go_quiet (fail)
        go_wp2_with fail
        obtain ⟨at2, hat2⟩ : ∃ at2, at2 = at1 + m := ⟨_, rfl⟩
        have hmv0 := (H1.out.move m (by omega)).drewN nq
        rw [← hat2] at hmv0
        have hmv : RefR ((w1.drewN nq).setCell ⟨R, 1, none⟩ (.int .i64 (at2 : Int))) R (some (D.drop at2)) A n c at2 false D := hmv0
        clear hmv0
        have ea : ((at1 : Int) + (m : Int)) = (at2 : Int) := by omega
        rw [ea]
        obtain ⟨W, hW⟩ : ∃ W, W = (w1.drewN nq).setCell ⟨R, 1, none⟩ (.int .i64 (at2 : Int)) := ⟨_, rfl⟩
        rw [← hW] at hmv
        rw [← hW]
        have hgW : w.grownBy W (some R) := by rw [hW]; exact grown_trans (grown_drew HG1.out _) (grown_set _)
        have e0 : W.cell? ⟨R, 0, none⟩ = some (.slice A n c) := hmv.cell rfl
        have e1 : W.cell? ⟨R, 1, none⟩ = some (.int .i64 (at2 : Int)) := hmv.cell rfl
        have hRW := hmv.lt
        have hrd := hmv.rd
        have hform := hmv.form
        have hnone := hmv.none
        have HMV := Lib.hid hmv; have HGW := Lib.hid hgW; have HW := Lib.hid hW
        clear hmv hgW hW f1 f2 c0 c1 c2 d1 d2
        have hl2 : (bv ((D.drop at1).take m)).length = m * 1 := by
          have := HLEN.out
          rw [bv_length, List.length_take, List.length_drop]; omega
        have HL2 := Lib.hid hl2
        have s1' : IntKind.i64.wrap ((at2 : Int) - (m : Int)) = (at2 : Int) - (m : Int) := IntWalk.i64_in _ (by omega)
        have s2 : (0 : Int) ≤ (at2 : Int) - (m : Int) := by omega
        have s3 : ((at2 : Int) - (m : Int)).toNat = at1 := by omega
        have s4 : (at2 : Int) - (m : Int) ≤ (at2 : Int) := by omega
        have s5 : (at2 : Int) ≤ (c : Int) := by omega
        have s6 : at2 - at1 = m := by omega
        have s7 : at1 ≤ at2 := by omega
        have s8 : at2 ≤ c := by omega
        have s9 : (m : Int) ≤ (at2 : Int) := by omega
        have HAT2 := Lib.hid hat2
        have HRD := Lib.hid hrd
        clear hl2 hat2 ea hrd
        by_cases hac : c = at1
        · have hm0 : m = 0 := by omega
          have hnil : bv ((D.drop at1).take m) = [] := by rw [hm0]; rfl
          have hcs : ∀ ad, A = some ad → ∀ j u, (bv ((D.drop at1).take m))[j]? = some u → (W.alloc (.cells #[] 5)).cell? (ad.add j) = some u := fun ad _ j u hu => by rw [hnil] at hu; simp at hu
          have hnn : A = none → m = 0 ∧ 0 = 0 := fun _ => ⟨hm0, rfl⟩
          have HCS := Lib.hid hcs; have HNN := Lib.hid hnn
          clear hm0 hnil hcs hnn hform hnone
          subst hac
          go_region_held3 (fun w' => w'.cell? ⟨R, 0, none⟩ = some (.slice A n c) ∧ w'.cell? ⟨R, 1, none⟩ = some (.int .i64 (at2 : Int)))
            (first
              | (go_split_ands; refine ⟨?_, ?_⟩ <;> assumption)
              | (go_split_ands; refine ⟨?_, ?_⟩ <;> (refine (hgrow3.cell_far _ (by simp; omega) (by simp [Value.ownBlock]; omega)).trans ?_; assumption))
              | go_keep)
            ((refine step_append_any _ (by rfl) _ _ _ (by rfl) W.heap.size 5 i0 _ 1 1 Tryz.underlying22 hi hz0 hz1 hz2 rfl (by omega) _ 0 (bv []) (by rfl) ((own_lit0 (w := W) (Nat.le_refl _)).drew)
                A m 0 (bv ((D.drop c).take m)) (by rfl) HNN.out HL2.out HCS.out (bv_one _) (by unfold maxLen; omega) (by omega) (by simp) ?_; intro v3 w3 hown3 hgrow3))
          rw [← bv_append, List.nil_append, Nat.zero_add] at hown3
          obtain ⟨B, c', rfl⟩ := row_slice hown3
          have hg3 : W.grownBy w3 (some R) := grown_new hgrow3
          have hg3' : W.grownBy w3 none := grown_new hgrow3
          have hfin : RBytes w R s A n c D (.returned (.slice B m c')) w3 := by
            refine ⟨B, m, c', rfl, ?_, ?_, grown_trans HGW.out hg3⟩
            · rw [HB2.out]; exact row_weaken hown3 HGW.out.size
            · rw [HB2.out]
              have h2 := HMV.out.grown hg3' (by simp) (fun _ _ => by simp)
              rw [HAT2.out] at h2
              exact ⟨_, _, h2⟩
          have HFIN := Lib.hid hfin
          clear hown3 hgrow3 hg3 hg3' hfin
          go_wp2
          go_ret
          exact HFIN.out
        · obtain ⟨ad, rfl⟩ : ∃ ad, A = some ad := by
            cases A with
            | some ad => exact ⟨ad, rfl⟩
            | none =>
              have h1 := hnone rfl
              omega
          obtain ⟨b, rfl⟩ := hform ad rfl
          have hcs : ∀ j u, (bv ((D.drop at1).take m))[j]? = some u → W.cell? ((⟨b, at1, none⟩ : Addr).add j) = some u := by
            intro j u hu
            have hj : j < m := by
              have := (List.getElem?_eq_some_iff.1 hu).1
              simp [bv] at this; omega
            have hl := HLEN.out
            obtain ⟨b', o', e', hc'⟩ := HRD.out (at1 + j) (by omega)
            obtain ⟨rfl, rfl⟩ : b = b' ∧ 0 = o' := by simpa using e'
            rw [Addr.add_lit, ← hu, ← Nat.zero_add (at1 + j), hc']
            simp [bv, hj, show at1 + j < D.length by omega]
          have HCS := Lib.hid hcs
          clear hform hnone hcs
          go_region_held3 (fun w' => w'.cell? ⟨R, 0, none⟩ = some (.slice (some ⟨b, 0, none⟩) n c) ∧ w'.cell? ⟨R, 1, none⟩ = some (.int .i64 (at2 : Int)))
            (first
              | (go_split_ands; refine ⟨?_, ?_⟩ <;> assumption)
              | (go_split_ands; refine ⟨?_, ?_⟩ <;> (refine (hgrow3.cell_far _ (by simp; omega) (by simp [Value.ownBlock]; omega)).trans ?_; assumption))
              | go_keep)
            ((refine step_append_any _ (by rfl) _ _ _ (by rfl) W.heap.size 5 i0 _ 1 1 Tryz.underlying22 hi hz0 hz1 hz2 rfl (by omega) _ 0 (bv []) (by rfl) ((own_lit0 (w := W) (Nat.le_refl _)).drew)
                (some ⟨b, at1, none⟩) m (c - at1) (bv ((D.drop at1).take m)) (by rfl) (fun h => by cases h) HL2.out (src_old HCS.out _) (bv_one _) (by unfold maxLen; omega) (by omega) (by simp) ?_; intro v3 w3 hown3 hgrow3))
          rw [← bv_append, List.nil_append, Nat.zero_add] at hown3
          obtain ⟨B, c', rfl⟩ := row_slice hown3
          have hg3 : W.grownBy w3 (some R) := grown_new hgrow3
          have hg3' : W.grownBy w3 none := grown_new hgrow3
          have hfin : RBytes w R s (some ⟨b, 0, none⟩) n c D (.returned (.slice B m c')) w3 := by
            refine ⟨B, m, c', rfl, ?_, ?_, grown_trans HGW.out hg3⟩
            · rw [HB2.out]; exact row_weaken hown3 HGW.out.size
            · rw [HB2.out]
              have h2 := HMV.out.grown hg3' (by simp) (fun _ _ => by simp)
              rw [HAT2.out] at h2
              exact ⟨_, _, h2⟩
          have HFIN := Lib.hid hfin
          clear hown3 hgrow3 hg3 hg3' hfin
          go_wp2
          go_ret
          exact HFIN.out
end Go.Proofs.YtidcfjmibljkeaaGreatDoor.K

/- The contracts of the reference's Check and Get. -/
namespace Go.Proofs.YtidcfjmibljkeaaGreatDoor.K
open Go Go.RowKit

theorem refN_grown {w w' : World} {R : Nat} {s : M.Rdr} {A : Option Addr} {n c : Nat} {D : List (BitVec 8)} (h : RefN w R s A n c D) {row : Option Nat} (hg : w.grownBy w' row) (hR : row ≠ some R) (hA : ∀ a, A = some a → row ≠ some a.block) : RefN w' R s A n c D := by
  obtain ⟨at', bad, h⟩ := h
  exact ⟨at', bad, h.grown hg hR hA⟩
theorem same_dec {w0 : World} {A B : Option Addr} {n m c d : Nat} {bs cs : List (BitVec 8)} (hx : RowRd w0 ⟨A, n, c⟩ bs) (hy : RowRd w0 ⟨B, m, d⟩ cs) (hn2 : n ≤ 4611686018427387904) (hm2 : m ≤ 4611686018427387904) {w : World} (h : Since w0 w) :
    Calls Tryz.prog 19 #[.slice A n c, .slice B m d] w fun e w' => e = .returned (.bool (decide (bs = cs))) ∧ Since w w' :=
  (SameBytes_any A B n m c d bs cs w (h.row hx).rd (h.row hy).rd hx.len hy.len hn2 hm2).mono fun e w' ⟨he, q, hw⟩ => ⟨he, by subst hw; exact below_drewN (Below.refl _ _) q⟩
set_option maxHeartbeats 8000000 in
set_option maxRecDepth 100000 in
theorem rcheckB_any (key : List (BitVec 8)) (b : M.Bun) (K : Option Addr) (kn kc : Nat) (A : Option Addr) (n c : Nat) (B : Option Addr) (m d : Nat) (C : Option Addr) (k l : Nat) (w : World) (hkr : RowRd w ⟨K, kn, kc⟩ key) (h : BunIn w b A n c B m d C k l) (hkn : kn ≤ 10000000000) (hn : n ≤ 10000000000) (hm : m ≤ 10000000000) (hk : k ≤ 10000000000) :
    Calls Tryz.prog 21 #[.slice K kn kc, .agg #[.int .i64 b.ver, .slice A n c, .slice B m d, .slice C k l]] w fun e w' => e = .returned (.int .i64 (M.bcheckE key b : Int)) ∧ Since w w' := by
  have H := Lib.hid h; have HK := Lib.hid hkr
  have HL := Lib.hid (show b.code.length = n ∧ b.dig.length = m ∧ b.tag.length = k from ⟨h.code.len, h.dig.len, h.tag.len⟩)
  have BK0 := Lib.hid ((Bank.nil (Below.refl w.heap.size w)).box #[.int .i64 b.ver, .slice A n c, .slice B m d, .slice C k l] 26 (by simp))
  clear h hkr
  go_enter Tryz.func21, Tryz.ntmps21
  go_wp2_with fail
  generalize hw1 : w.alloc (.cells #[.int .i64 b.ver, .slice A n c, .slice B m d, .slice C k l] 26) = w1 at *
  clear hw1
  refine (rwrong_any b A B C n c m d k l w1 HL.out.1 HL.out.2.1 HL.out.2.2).mono ?_
  rintro e w2 ⟨rfl, hs2⟩
  have BK2 := Lib.hid (BK0.out.call hs2)
  clear hs2 BK0
  by_cases hE : M.bwrong b = 0
  · have HE := Lib.hid hE
    have HM := Lib.hid (show M.bmakeE b.ver b.code = 0 by
      obtain ⟨h1, h2, h3, _, _⟩ := (M.bwrong_zero b).1 hE
      unfold M.bmakeE; rw [if_neg (by omega), if_neg (by omega)])
    rw [hE]
    clear hE
    have x0 := BK2.out.cell 0 rfl 0 rfl
    have x1 := BK2.out.cell 0 rfl 1 rfl
    go_wp2_with fail
    refine (rmake_any key b.code b.ver K A kn kc n c w2 (Since.row BK2.out.since HK.out) (Since.row BK2.out.since H.out.code) hkn hn).mono ?_
    rintro e w3 ⟨v, rfl, A3, n3, c3, B3, m3, d3, C3, k3, l3, rfl, hn3, hm3, hk3, hB3⟩
    rw [HM.out]
    have hmk : M.bmake key b.ver b.code = M.bseal key b.ver b.code := by unfold M.bmake; rw [if_pos HM.out]
    rw [hmk] at hn3 hm3 hk3 hB3
    rw [hmk]
    have BK3 := Lib.hid (BK2.out.call hB3.since)
    have HD3 := Lib.hid (show RowRd w3 ⟨B3, m3, d3⟩ (M.bdig b.ver b.code) from RowRd.of_row (hB3.at 1 rfl))
    have HT3 := Lib.hid (show RowRd w3 ⟨C3, k3, l3⟩ (M.tag key (M.bdig b.ver b.code)) from RowRd.of_row (hB3.at 0 rfl))
    have hm3' : m3 ≤ 32 := by rw [hm3]; exact Nat.le_of_eq (M.bdig_length _ _)
    have hk3' : k3 ≤ 32 := by rw [hk3]; exact Nat.le_of_eq (M.tag_length _ _)
    have y2 := BK3.out.cell 0 rfl 2 rfl
    have y3 := BK3.out.cell 0 rfl 3 rfl
    have hby : w.heap.size < w3.heap.size := block_lt_of_cell y2
    clear hn3 hm3 hk3 hB3 hmk x0 x1 BK2
    go_wp2_with fail
    have BK4 := Lib.hid (BK3.out.box #[.int .i64 (M.bseal key b.ver b.code).ver, .slice A3 n3 c3, .slice B3 m3 d3, .slice C3 k3 l3] 26 (by simp))
    have S34 := Lib.hid (show Since w3 (w3.alloc (.cells #[.int .i64 (M.bseal key b.ver b.code).ver, .slice A3 n3 c3, .slice B3 m3 d3, .slice C3 k3 l3] 26)) from Since.alloc (Below.refl _ _) _)
    generalize hX : w3.heap.size = X at *
    generalize hw4 : w3.alloc (.cells #[.int .i64 (M.bseal key b.ver b.code).ver, .slice A3 n3 c3, .slice B3 m3 d3, .slice C3 k3 l3] 26) = w4 at *
    clear hw4 y2 y3 hX
    refine (same_dec (Since.row BK4.out.since H.out.dig) (Since.row S34.out HD3.out) (by omega) (by omega) (Below.refl _ _)).mono ?_
    rintro e w5 ⟨rfl, hs5⟩
    have BK5 := Lib.hid (BK4.out.call hs5); have S35 := Lib.hid (Since.add S34.out hs5)
    have y3 := BK5.out.cell 1 rfl 3 rfl
    have z3 := BK5.out.cell 0 rfl 3 rfl
    clear hs5 BK4
    by_cases hd : b.dig = M.bdig b.ver b.code
    · have HD := Lib.hid hd
      rw [decide_eq_true hd]
      clear hd
      go_wp2_with fail
      refine (same_dec (Since.row BK5.out.since H.out.tag) (Since.row S35.out HT3.out) (by omega) (by omega) (Below.refl _ _)).mono ?_
      rintro e w6 ⟨rfl, hs6⟩
      have BK6 := Lib.hid (BK5.out.call hs6)
      clear hs6 y3 z3
      by_cases ht : b.tag = M.tag key (M.bdig b.ver b.code)
      · rw [decide_eq_true ht]
        have HFIN := Lib.hid (show (Ending.returned (.int .i64 0) = .returned (.int .i64 (M.bcheckE key b : Int))) ∧ Since w w6 from ⟨by unfold M.bcheckE; rw [if_neg (by rw [HE.out]; decide), if_pos ⟨HD.out.symm, ht.symm⟩]; rfl, BK6.out.since⟩)
        clear ht
        go_wp2_with fail
        go_ret
        exact HFIN.out
      · rw [decide_eq_false ht]
        have HFIN := Lib.hid (show (Ending.returned (.int .i64 11) = .returned (.int .i64 (M.bcheckE key b : Int))) ∧ Since w w6 from ⟨by unfold M.bcheckE; rw [if_neg (by rw [HE.out]; decide), if_neg (fun h => ht h.2.symm)]; rfl, BK6.out.since⟩)
        clear ht
        go_wp2_with fail
        go_ret
        exact HFIN.out
    · rw [decide_eq_false hd]
      have HFIN := Lib.hid (show (Ending.returned (.int .i64 11) = .returned (.int .i64 (M.bcheckE key b : Int))) ∧ Since w w5 from ⟨by unfold M.bcheckE; rw [if_neg (by rw [HE.out]; decide), if_neg (fun h => hd h.1.symm)]; rfl, BK5.out.since⟩)
      clear hd
      go_wp2_with fail
      go_ret
      exact HFIN.out
  · have hE1 : ((M.bwrong b : Int) != 0) = true := by simpa using hE
    have HFIN := Lib.hid (show (Ending.returned (.int .i64 4) = .returned (.int .i64 (M.bcheckE key b : Int))) ∧ Since w w2 from ⟨by unfold M.bcheckE; rw [if_pos hE]; rfl, BK2.out.since⟩)
    clear hE
    go_wp2_with fail
    go_ret
    exact HFIN.out
theorem rlen_number (s : M.Rdr) (N : Nat) (h : ∀ l, s = some l → l.length ≤ N) : ∀ l, (M.rdNumber s).2 = some l → l.length ≤ N := by
  cases s with
  | none => intro l h; simp [M.rdNumber] at h
  | some l =>
    have hl := h l rfl
    intro r hr
    simp only [M.rdNumber] at hr
    split at hr
    · simp at hr
    · simp only [Option.some.injEq] at hr
      rw [← hr, List.length_drop]; omega
theorem rlen_bytes (s : M.Rdr) (N : Nat) (h : ∀ l, s = some l → l.length ≤ N) : (M.rdBytes s).1.length ≤ N ∧ ∀ l, (M.rdBytes s).2 = some l → l.length ≤ N := by
  have h1 := rlen_number s N h
  unfold M.rdBytes
  cases hr : M.rdNumber s with
  | mk n o =>
    rw [hr] at h1
    cases o with
    | none => exact ⟨Nat.zero_le _, fun l h => by simp at h⟩
    | some r =>
      have hrl := h1 r rfl
      simp only
      split
      · exact ⟨Nat.zero_le _, fun l h => by simp at h⟩
      · refine ⟨by rw [List.length_take]; omega, fun l h => ?_⟩
        simp only [Option.some.injEq] at h
        rw [← h, List.length_drop]; omega
end Go.Proofs.YtidcfjmibljkeaaGreatDoor.K

/- The contract of the reference's Get. -/
namespace Go.Proofs.YtidcfjmibljkeaaGreatDoor.K
open Go Go.RowKit

/-- tag, digest, code out of a bank -/
theorem keep5 {w0 w : World} {p q r s t : Acc} (h : Bank w0 w [p, q, r, s, t]) : Bank w0 w [p, q, r] :=
  h.sub (.cons_cons _ (.cons_cons _ (.cons_cons _ (.cons _ (.cons _ .slnil)))))
/-- the four that are read, and what is left -/
structure Read4 (bs : List (BitVec 8)) (b : M.Bun) (s : M.Rdr) : Prop where
  eq : M.bread bs = (b, s)
set_option maxHeartbeats 16000000 in
set_option maxRecDepth 100000 in
theorem rgetB_any (A : Option Addr) (n c : Nat) (bs : List (BitVec 8)) (w : World) (hr : RowRd w ⟨A, n, c⟩ bs) (hn : n ≤ 10000000000) :
    Calls Tryz.prog 25 #[.slice A n c] w (ToldE w (M.bget bs) (M.bgetE bs)) := by
  have HR := Lib.hid hr; have HLEN := Lib.hid (show bs.length = n from hr.len)
  have BK0 := Lib.hid ((Bank.nil (Below.refl w.heap.size w)).box #[.int .i64 0, .slice none 0 0, .slice none 0 0, .slice none 0 0] 26 (by simp))
  clear hr
  go_enter Tryz.func25, Tryz.ntmps25
  go_wp2_with fail
  generalize hw1 : w.alloc (.cells #[.int .i64 0, .slice none 0 0, .slice none 0 0, .slice none 0 0] 26) = w1 at *
  clear hw1
  refine (rNew_any A n c bs w1 (Since.row BK0.out.since HR.out) (by omega)).mono ?_
  rintro e w2 ⟨R, Bd, cB, rfl, hR, hq, hBd, hb⟩
  have H2 := Lib.hid (Held.start (Q := fun w s => RefN w R s Bd n cB bs) BK0.out ⟨0, false, hq⟩ hb hR hq.lt hBd (fun w w' s row h hg hR hA => refN_grown h hg hR hA))
  clear hq hBd hb hR BK0
  obtain ⟨s1, hs1⟩ : ∃ s1, s1 = (M.rdNumber (some bs)).2 := ⟨_, rfl⟩
  obtain ⟨v1, hv1⟩ : ∃ v1, v1 = (M.rdNumber (some bs)).1 := ⟨_, rfl⟩
  obtain ⟨s2, hs2⟩ : ∃ s2, s2 = (M.rdBytes s1).2 := ⟨_, rfl⟩
  obtain ⟨b2, hb2⟩ : ∃ b2, b2 = (M.rdBytes s1).1 := ⟨_, rfl⟩
  obtain ⟨s3, hs3⟩ : ∃ s3, s3 = (M.rdBytes s2).2 := ⟨_, rfl⟩
  obtain ⟨b3, hb3⟩ : ∃ b3, b3 = (M.rdBytes s2).1 := ⟨_, rfl⟩
  obtain ⟨s4, hs4⟩ : ∃ s4, s4 = (M.rdBytes s3).2 := ⟨_, rfl⟩
  obtain ⟨b4, hb4⟩ : ∃ b4, b4 = (M.rdBytes s3).1 := ⟨_, rfl⟩
  have HRD := Lib.hid (show M.bread bs = (⟨v1, b2, b3, b4⟩, s4) by rw [hs4, hb4, hs3, hb3, hs2, hb2, hs1, hv1]; rfl)
  have E1 := Lib.hid (show M.rdNumber (some bs) = (v1, s1) by rw [hs1, hv1])
  have E2 := Lib.hid (show M.rdBytes s1 = (b2, s2) by rw [hs2, hb2])
  have E3 := Lib.hid (show M.rdBytes s2 = (b3, s3) by rw [hs3, hb3])
  have E4 := Lib.hid (show M.rdBytes s3 = (b4, s4) by rw [hs4, hb4])
  clear hs1 hv1 hs2 hb2 hs3 hb3 hs4 hb4
  go_wp2_with fail
  obtain ⟨at1, bad1, hq1⟩ := H2.out.q
  refine (rNumber_any R _ Bd n cB at1 bad1 bs w2 hq1).mono ?_
  rintro e w3 ⟨rfl, hq, hg⟩
  rw [E1.out] at hq
  rw [E1.out]
  have H3 := Lib.hid (H2.out.step hq hg)
  clear hq hg hq1 H2
  go_wp2_with fail
  have H4 := Lib.hid (H3.out.box #[.int .i64 v1, .slice none 0 0, .slice none 0 0, .slice none 0 0] 26 (by simp))
  generalize hX : w3.heap.size = X at *
  generalize hw4 : w3.alloc (.cells #[.int .i64 v1, .slice none 0 0, .slice none 0 0, .slice none 0 0] 26) = w4 at *
  clear hw4 hX H3
  obtain ⟨at2, bad2, hq2⟩ := H4.out.q
  refine (rBytes_any R _ Bd n cB at2 bad2 bs w4 hq2).mono ?_
  rintro e w5 ⟨B5, m5, c5, rfl, ho, hq, hg⟩
  rw [E2.out] at hq ho
  have M5 := Lib.hid (show b2.length = m5 from (RowRd.of_row ho).len)
  have H5 := Lib.hid (H4.out.row hq hg ho)
  have x1 := H5.out.bank.cell 1 rfl 1 rfl
  have f1 := H5.out.bank.free 1 rfl 1
  have H6 := Lib.hid (H5.out.set 1 rfl 1 (.slice B5 m5 c5))
  clear hq hg ho hq2 H4 H5
  go_wp2_with fail
  generalize hw6 : w5.setCell ⟨X, 1, none⟩ (.slice B5 m5 c5) = w6 at *
  clear hw6 x1 f1
  obtain ⟨at3, bad3, hq3⟩ := H6.out.q
  refine (rBytes_any R _ Bd n cB at3 bad3 bs w6 hq3).mono ?_
  rintro e w7 ⟨B7, m7, c7, rfl, ho, hq, hg⟩
  rw [E3.out] at hq ho
  have M7 := Lib.hid (show b3.length = m7 from (RowRd.of_row ho).len)
  have H7 := Lib.hid (H6.out.row hq hg ho)
  have x2 := H7.out.bank.cell 2 rfl 2 rfl
  have f2 := H7.out.bank.free 2 rfl 2
  have H8 := Lib.hid (H7.out.set 2 rfl 2 (.slice B7 m7 c7))
  clear hq hg ho hq3 H6 H7
  go_wp2_with fail
  generalize hw8 : w7.setCell ⟨X, 2, none⟩ (.slice B7 m7 c7) = w8 at *
  clear hw8 x2 f2
  obtain ⟨at4, bad4, hq4⟩ := H8.out.q
  refine (rBytes_any R _ Bd n cB at4 bad4 bs w8 hq4).mono ?_
  rintro e w9 ⟨B9, m9, c9, rfl, ho, hq, hg⟩
  rw [E4.out] at hq ho
  have M9 := Lib.hid (show b4.length = m9 from (RowRd.of_row ho).len)
  have H9 := Lib.hid (H8.out.row hq hg ho)
  have x3 := H9.out.bank.cell 3 rfl 3 rfl
  have f3 := H9.out.bank.free 3 rfl 3
  have H10 := Lib.hid (H9.out.set 3 rfl 3 (.slice B9 m9 c9))
  clear hq hg ho hq4 H8 H9
  go_wp2_with fail
  generalize hw10 : w9.setCell ⟨X, 3, none⟩ (.slice B9 m9 c9) = w10 at *
  clear hw10 x3 f3
  obtain ⟨at5, bad5, hq5⟩ := H10.out.q
  refine (rDone_any R _ Bd n cB at5 bad5 bs w10 hq5).mono ?_
  rintro e w11 ⟨rfl, q, rfl⟩
  have H11 := Lib.hid (H10.out.call (below_drewN (Below.refl _ _) q))
  generalize w10.drewN q = w11 at *
  clear hq5 H10
  have y0 := H11.out.bank.cell 3 rfl 0 rfl
  have y1 := H11.out.bank.cell 3 rfl 1 rfl
  have y2 := H11.out.bank.cell 3 rfl 2 rfl
  have y3 := H11.out.bank.cell 3 rfl 3 rfl
  by_cases hs : s4 = some []
  · rw [decide_eq_true hs]
    have HS := Lib.hid hs
    clear hs
    go_wp2_with fail
    refine (rwrong_any ⟨v1, b2, b3, b4⟩ B5 B7 B9 m5 c5 m7 c7 m9 c9 w11 M5.out M7.out M9.out).mono ?_
    rintro e w12 ⟨rfl, hs12⟩
    have BK := Lib.hid (H11.out.bank.call hs12)
    clear hs12 y0 y1 y2 y3 H11
    have z0 := BK.out.cell 3 rfl 0 rfl
    have z1 := BK.out.cell 3 rfl 1 rfl
    have z2 := BK.out.cell 3 rfl 2 rfl
    have z3 := BK.out.cell 3 rfl 3 rfl
    have HRES := Lib.hid (BK.out.boxAt 4 rfl).2
    by_cases hE : M.bwrong ⟨v1, b2, b3, b4⟩ = 0
    · rw [hE]
      have HFIN := Lib.hid (show ToldE w (M.bget bs) (M.bgetE bs) (.returned (.tuple #[.agg (bunL v1 B5 m5 c5 B7 m7 c7 B9 m9 c9).toArray, .int .i64 0])) (w12.setRow w.heap.size (bunL v1 B5 m5 c5 B7 m7 c7 B9 m9 c9).toArray) from by
        have h := BK.out.boxRow 4 rfl (bunL v1 B5 m5 c5 B7 m7 c7 B9 m9 c9) rfl (by decide)
        have hge : M.bgetE bs = 0 := by unfold M.bgetE; rw [HRD.out, if_pos ⟨HS.out, hE⟩]
        have hg : M.bget bs = ⟨v1, b2, b3, b4⟩ := by unfold M.bget; rw [if_pos hge, HRD.out]
        rw [hg, hge]
        exact ⟨_, rfl, B5, m5, c5, B7, m7, c7, B9, m9, c9, rfl, M5.out.symm, M7.out.symm, M9.out.symm, keep5 h⟩)
      clear hE
      go_wp2_with (with_reducible refine wpList_store_row rfl 26 (.tmp 2) (.tmp 29) rfl w.heap.size (bunL v1 B5 m5 c5 B7 m7 c7 B9 m9 c9).toArray rfl rfl 26 _ HRES.out (infoBunL v1 B5 m5 c5 B7 m7 c7 B9 m9 c9) rfl (bunL_one _ _ _ _ _ _ _ _ _ _) ?_)
      refine bodyPost_ret (v := .tuple #[.agg (bunL v1 B5 m5 c5 B7 m7 c7 B9 m9 c9).toArray, .int .i64 0]) ?_ rfl HFIN.out
      exact results_cell_tmp rfl _ _ w.heap.size _ _ rfl rfl (load_bun _ _ _ _ _ _ _ _ _ _ (setRow_heap _ _ _ _ _ _ HRES.out))
    · have hE1 : ((M.bwrong ⟨v1, b2, b3, b4⟩ : Int) != 0) = true := by simpa using hE
      have HFIN := Lib.hid (show ToldE w (M.bget bs) (M.bgetE bs) (.returned (.tuple #[.agg zeroV.toArray, .int .i64 4])) (w12.setRow w.heap.size zeroV.toArray) from by
        have h := BK.out.boxRow 4 rfl zeroV rfl (by decide)
        have hge : M.bgetE bs = 4 := by unfold M.bgetE; rw [HRD.out, if_neg (fun h => hE h.2)]
        have hg : M.bget bs = M.zeroBun := by unfold M.bget; rw [if_neg (by rw [hge]; decide)]
        rw [hg, hge]
        exact ⟨_, rfl, told_zero h.since⟩)
      clear hE
      go_wp2_with (with_reducible refine wpList_store_row rfl 26 (.tmp 2) (.tmp 28) rfl w.heap.size zeroV.toArray rfl rfl 26 _ HRES.out (infoBunL 0 none 0 0 none 0 0 none 0 0) rfl (bunL_one _ _ _ _ _ _ _ _ _ _) ?_)
      refine bodyPost_ret (v := .tuple #[.agg zeroV.toArray, .int .i64 4]) ?_ rfl HFIN.out
      exact results_cell_tmp rfl _ _ w.heap.size _ _ rfl rfl (load_bun _ _ _ _ _ _ _ _ _ _ (setRow_heap _ _ _ _ _ _ HRES.out))
  · rw [decide_eq_false hs]
    have HRES := Lib.hid (H11.out.bank.boxAt 4 rfl).2
    have HFIN := Lib.hid (show ToldE w (M.bget bs) (M.bgetE bs) (.returned (.tuple #[.agg zeroV.toArray, .int .i64 4])) (w11.setRow w.heap.size zeroV.toArray) from by
      have h := H11.out.bank.boxRow 4 rfl zeroV rfl (by decide)
      have hge : M.bgetE bs = 4 := by unfold M.bgetE; rw [HRD.out, if_neg (fun h => hs h.1)]
      have hg : M.bget bs = M.zeroBun := by unfold M.bget; rw [if_neg (by rw [hge]; decide)]
      rw [hg, hge]
      exact ⟨_, rfl, told_zero h.since⟩)
    clear hs
    go_wp2_with (with_reducible refine wpList_store_row rfl 26 (.tmp 2) (.tmp 28) rfl w.heap.size zeroV.toArray rfl rfl 26 _ HRES.out (infoBunL 0 none 0 0 none 0 0 none 0 0) rfl (bunL_one _ _ _ _ _ _ _ _ _ _) ?_)
    refine bodyPost_ret (v := .tuple #[.agg zeroV.toArray, .int .i64 4]) ?_ rfl HFIN.out
    exact results_cell_tmp rfl _ _ w.heap.size _ _ rfl rfl (load_bun _ _ _ _ _ _ _ _ _ _ (setRow_heap _ _ _ _ _ _ HRES.out))
end Go.Proofs.YtidcfjmibljkeaaGreatDoor.K

/- What the two tables of sha hold when a call begins, out of the rows' condition; a world for the witnesses. -/
namespace Go.Proofs.YtidcfjmibljkeaaGreatDoor.K
open Go Go.RowKit

theorem own : ownKnob Tryz.prog.godebug = none := by kernel_rfl
theorem laidOut : laidOutB Tryz.prog = true := by kernel_rfl

theorem laid_tail {P : Program} {x : String × DataW Unit} {r : List (String × DataW Unit)} {w : World} (h : laidMet P (x :: r) w) : laidMet P r w := by
  obtain ⟨ps, hv, hnd, hrows⟩ := h
  obtain ⟨n, d⟩ := x
  obtain ⟨g, t, cs, fuel, p, q, _, _, _, _, hq, rfl⟩ := hv
  exact ⟨q, hq, List.Nodup.sublist (List.sublist_append_right _ _) hnd, fun b off hm => hrows b off (List.mem_append_right _ hm)⟩

def intsOf (l : List (BitVec 32)) : List Int := l.map fun x => (x.toNat : Int)
theorem intsOf_at (l : List (BitVec 32)) (k : Nat) (h : k < l.length) : Value.int .u32 ((intsOf l).getD k 0) = W32 (M.at32 l k) := by
  simp [intsOf, M.at32, W32, h]

def laidTwo {H : Type} : List (String × DataW H) := [("barbican/sha.rounds", Rows.laid_barbican_sha_rounds), ("barbican/sha.first", Rows.laid_barbican_sha_first)]
theorem rounds_data {H : Type} : (Rows.laid_barbican_sha_rounds : DataW H) = Lib.tabData .u32 (intsOf M.kList) := by kernel_rfl
theorem first_data {H : Type} : (Rows.laid_barbican_sha_first : DataW H) = Lib.tabData .u32 (intsOf M.first.list) := by kernel_rfl
theorem gRounds : Tryz.prog.globalNamed "barbican/sha.rounds" = some 1 := by kernel_rfl
theorem gFirst : Tryz.prog.globalNamed "barbican/sha.first" = some 0 := by kernel_rfl
theorem gRoundsType : (Tryz.prog.globals[1]?).map (·.type) = some 218 := by kernel_rfl
theorem gFirstType : (Tryz.prog.globals[0]?).map (·.type) = some 133 := by kernel_rfl
theorem cellsRounds : Tryz.prog.cellsOf 218 = 64 := by kernel_rfl
theorem cellsFirst : Tryz.prog.cellsOf 133 = 8 := by kernel_rfl
theorem cellsU32 : Tryz.prog.cellsOf 131 = 1 := by kernel_rfl

theorem hasK_of {W : World} (h : laidMet Tryz.prog laidTwo W) : HasK W := by
  have ht : Lib.TabIs Tryz.prog W "barbican/sha.rounds" .u32 (intsOf M.kList) := by
    rw [laidTwo, rounds_data] at h
    exact Lib.tabIs_of_head gRounds gRoundsType Tryz.underlying218 Tryz.underlying131 cellsU32 cellsRounds h
  intro k hk
  rw [ht.cell gRounds k (by simp [intsOf, M.kList]; omega), intsOf_at _ _ (by simp [M.kList]; omega)]
theorem hasF_of {W : World} (h : laidMet Tryz.prog laidTwo W) : HasF W := by
  have ht : Lib.TabIs Tryz.prog W "barbican/sha.first" .u32 (intsOf M.first.list) := by
    have h := laid_tail h
    rw [first_data] at h
    exact Lib.tabIs_of_head gFirst gFirstType Tryz.underlying133 Tryz.underlying131 cellsU32 cellsFirst h
  intro k hk
  rw [ht.cell gFirst k (by simp [intsOf, M.first, M.St.list]; omega), intsOf_at _ _ (by simp [M.first, M.St.list]; omega)]

/-! ### what comes in -/
/-- a byte that came in -/
theorem B8_of_wf {n : Int} (h : (Lit.int .u8 n).wf = true) : ∃ b : BitVec 8, Value.int .u8 n = B8 b := by
  have h' : 0 ≤ n ∧ n < 256 := by
    simp [Lit.wf, IntKind.min, IntKind.max, IntKind.bits, IntKind.signed] at h
    omega
  refine ⟨BitVec.ofInt 8 n, ?_⟩
  simp only [B8, BitVec.toNat_ofInt, Value.int.injEq, true_and]
  omega
/-- a slice of bytes that came in reads as a list -/
theorem Rd.of_ints {w : World} {x : Addr} {zs : List Int} (hcell : ∀ i, i < zs.length → w.cell? (x.add i) = some (.int .u8 (zs.getD i 0))) (hwz : ∀ n ∈ zs, (Lit.int .u8 n).wf = true) (n : Nat) :
    Rd w (some x) ((zs.take n).map (BitVec.ofInt 8)) := by
  intro k hk
  have hk2 : k < zs.length := by simp at hk; omega
  have hc := hcell k hk2
  obtain ⟨b, o, s⟩ := x
  have hs : s = none := by simpa [Addr.add] using World.cell?_spot (hcell 0 (by omega))
  subst hs
  refine ⟨b, o, rfl, ?_⟩
  rw [Addr.add_lit] at hc
  rw [hc]
  obtain ⟨y, hy⟩ := B8_of_wf (hwz zs[k] (List.getElem_mem _))
  have e : zs.getD k 0 = zs[k] := by simp [hk2]
  rw [e, hy]
  simp only [B8, Value.int.injEq, true_and] at hy
  simp only [List.getElem_map, List.getElem_take, hy, BitVec.ofInt_natCast, ofNat_self]

def putCells (cs : Array Value) : Obj → Obj
  | .cells _ t frozen => .cells cs t frozen
  | o => o
/-- a world for the witnesses: the settled one, the two tables holding what the text lays -/
noncomputable def laidWorld (os : Os) : World :=
  { World.holding Tryz.prog os ⟨#[], #[], []⟩ with heap := ((World.holding Tryz.prog os ⟨#[], #[], []⟩).heap.modify 1 (putCells ((intsOf M.kList).map fun z => Value.int .u32 z).toArray)).modify 0 (putCells ((intsOf M.first.list).map fun z => Value.int .u32 z).toArray) }
end Go.Proofs.YtidcfjmibljkeaaGreatDoor.K

/- (made of XOpen by a program: the names that XShaLaid has are left out) -/
/- What comes in: bytes, numbers, entries, lists of them, out of the statement's own reading of the arguments. -/
namespace Go.Proofs.YtidcfjmibljkeaaGreatDoor.K
open Go Go.RowKit Go.ChangeShapes Go.WideShapes Go.Deep

set_option maxRecDepth 100000
theorem inI64_of_wf {n : Int} (h : (Lit.int .i64 n).wf = true) : M.inI64 n := by
  simp [Lit.wf, IntKind.min, IntKind.max, IntKind.bits, IntKind.signed] at h
  exact ⟨by omega, by omega⟩

theorem cellsByte : Tryz.prog.cellsOf 5 = 1 := by kernel_rfl
theorem cellsInt : Tryz.prog.cellsOf 3 = 1 := by kernel_rfl
theorem cellsBool : Tryz.prog.cellsOf 4 = 1 := by kernel_rfl
theorem cellsBytes : Tryz.prog.cellsOf 22 = 1 := by kernel_rfl
theorem cellsEnt : Tryz.prog.cellsOf 183 = 6 := by kernel_rfl
theorem cellsKind : Tryz.prog.cellsOf 181 = 1 := by kernel_rfl

section
variable {H : Type} {enc : TypeId × Value → H} {W : World} {base b0 : Nat} {sp : Nat → Bool} {held : Bool} {r : Reach}
theorem cs_bytes {fuel : Nat} {v : Value} {x : DataW H × List MemPlace} (h : DataW.trod enc Tryz.prog W base sp held fuel 22 [v] = some x) :
    ∃ A n c bs, v = .slice A n c ∧ RowRd W ⟨A, n, c⟩ bs ∧ n ≤ c ∧ c ≤ 9223372036854775807 := by
  rcases open_ints Tryz.underlying22 Tryz.underlying5 cellsByte h with ⟨hcs, _⟩ | ⟨x, l, c, zs, hcs, _, hl, hm, hz, hx, hcell, hwz⟩
  · obtain rfl : v = .slice none 0 0 := by simpa using hcs
    exact ⟨none, 0, 0, [], rfl, ⟨Rd.of_nil _ _, rfl, fun _ => rfl⟩, by omega, by omega⟩
  · obtain rfl : v = .slice (some x) l c := by simpa using hcs
    unfold maxLen at hm
    refine ⟨some x, l, c, _, rfl, ⟨Rd.of_ints hcell hwz l, ?_, fun h => by cases h⟩, hl, hm⟩
    simp only [List.length_map, List.length_take]
    split at hz <;> omega
theorem cs_int {fuel : Nat} {v : Value} {x : DataW H × List MemPlace} (h : DataW.trod enc Tryz.prog W base sp held fuel 3 [v] = some x) : ∃ n, v = .int .i64 n ∧ M.inI64 n := by
  obtain ⟨n, hcs, _, hw⟩ := DataW.trod_int Tryz.underlying3 h
  obtain rfl : v = .int .i64 n := by simpa using hcs
  exact ⟨n, rfl, inI64_of_wf hw⟩
theorem cs_bool {fuel : Nat} {v : Value} {x : DataW H × List MemPlace} (h : DataW.trod enc Tryz.prog W base sp held fuel 4 [v] = some x) : ∃ b, v = .bool b := by
  obtain ⟨b, hcs, _⟩ := DataW.trod_bool Tryz.underlying4 h
  exact ⟨b, by simpa using hcs⟩
theorem cs_kind {fuel : Nat} {v : Value} {x : DataW H × List MemPlace} (h : DataW.trod enc Tryz.prog W base sp held fuel 181 [v] = some x) : ∃ b, v = B8 b := by
  obtain ⟨n, hcs, _, hw⟩ := DataW.trod_int Tryz.underlying181 h
  obtain rfl : v = .int .u8 n := by simpa using hcs
  exact B8_of_wf hw
/-- bytes that came in -/
theorem open_bytes {v : Value} {d : DataW H} {p : List MemPlace} (hv : Value.okWide Tryz.prog W r b0 22 v) (h : DataW.Trod enc Tryz.prog W base sp held 22 v d p) :
    ∃ A n c bs, v = .slice A n c ∧ RowRd W ⟨A, n, c⟩ bs ∧ n ≤ c ∧ c ≤ 9223372036854775807 := by
  obtain ⟨A, l, c, rfl⟩ := okWide_slice Tryz.underlying22 hv
  obtain ⟨fuel, hf⟩ := h
  exact cs_bytes hf
/-- a number that came in -/
theorem open_num {v : Value} {d : DataW H} {p : List MemPlace} (hv : Value.okWide Tryz.prog W r b0 3 v) (h : DataW.Trod enc Tryz.prog W base sp held 3 v d p) : ∃ n, v = .int .i64 n ∧ M.inI64 n := by
  obtain ⟨n, rfl, _, _, hw⟩ := open_int Tryz.underlying3 hv h
  exact ⟨n, rfl, inI64_of_wf hw⟩
/-- numbers that came in: those that are read -/
def Nums (W : World) (A : Option Addr) (n : Nat) : Prop := ∀ i, i < n → ∃ b o z, A = some ⟨b, o, none⟩ ∧ W.cell? ⟨b, o + i, none⟩ = some (.int .i64 z)
theorem Nums.below {w w' : World} {A : Option Addr} {n : Nat} (h : Nums w A n) (hb : Below w.heap.size w w') : Nums w' A n := fun i hi => by
  obtain ⟨b, o, z, e, hc⟩ := h i hi
  exact ⟨b, o, z, e, (hb.cell (p := ⟨b, o + i, none⟩) (block_lt_of_cell hc)).trans hc⟩
theorem open_nums {v : Value} {d : DataW H} {p : List MemPlace} (hv : Value.okWide Tryz.prog W r b0 47 v) (h : DataW.Trod enc Tryz.prog W base sp held 47 v d p) :
    ∃ A n c, v = .slice A n c ∧ Nums W A n ∧ n ≤ c ∧ c ≤ 9223372036854775807 := by
  obtain ⟨A, l, c, rfl⟩ := okWide_slice Tryz.underlying47 hv
  obtain ⟨fuel, hf⟩ := h
  rcases open_ints Tryz.underlying47 Tryz.underlying3 cellsInt hf with ⟨hcs, _⟩ | ⟨x, l, c, zs, hcs, _, hl, hm, hz, hx, hcell, hwz⟩
  · simp [Value.cells] at hcs
    obtain ⟨rfl, rfl, rfl⟩ := hcs
    exact ⟨none, 0, 0, rfl, fun i hi => absurd hi (Nat.not_lt_zero _), by omega, by omega⟩
  · simp [Value.cells] at hcs
    obtain ⟨rfl, rfl, rfl⟩ := hcs
    unfold maxLen at hm
    have hlz : l ≤ zs.length := by split at hz <;> omega
    refine ⟨_, _, _, rfl, fun i hi => ?_, hl, hm⟩
    obtain ⟨b, o, s⟩ := x
    have hs : s = none := by simpa [Addr.add] using World.cell?_spot (hcell 0 (by omega))
    subst hs
    exact ⟨b, o, _, rfl, by rw [← Addr.add_lit]; exact hcell i (by omega)⟩
/-- six cells that read as an entry -/
theorem cs_entry {fuel : Nat} {cs : List Value} {x : DataW H × List MemPlace} (h : DataW.trod enc Tryz.prog W base sp held fuel 183 cs = some x) :
    ∃ (e : M.Ent) (A : Option Addr) (n c : Nat), cs = [.int .i64 e.term, B8 e.kind, .int .i64 e.version, .int .i64 e.server, .bool e.good, .slice A n c] ∧ M.inI64 e.term ∧ M.inI64 e.version ∧ M.inI64 e.server ∧ RowRd W ⟨A, n, c⟩ e.data ∧ n ≤ c ∧ c ≤ 9223372036854775807 := by
  obtain ⟨xs, n, _, _, hlen, hxl, hf⟩ := DataW.trod_struct Tryz.underlying183 h
  rw [cellsEnt] at hlen
  match cs, hlen with
  | [c0, c1, c2, c3, c4, c5], _ =>
    match xs, hxl with
    | [y0, y1, y2, y3, y4, y5], _ =>
      have f0 : DataW.trod enc Tryz.prog W base sp held n 3 [c0] = some y0 := by simpa [cellsInt] using hf 0 _ rfl
      have f1 : DataW.trod enc Tryz.prog W base sp held n 181 [c1] = some y1 := by simpa [cellsKind] using hf 1 _ rfl
      have f2 : DataW.trod enc Tryz.prog W base sp held n 3 [c2] = some y2 := by simpa [cellsInt] using hf 2 _ rfl
      have f3 : DataW.trod enc Tryz.prog W base sp held n 3 [c3] = some y3 := by simpa [cellsInt] using hf 3 _ rfl
      have f4 : DataW.trod enc Tryz.prog W base sp held n 4 [c4] = some y4 := by simpa [cellsBool] using hf 4 _ rfl
      have f5 : DataW.trod enc Tryz.prog W base sp held n 22 [c5] = some y5 := by simpa [cellsBytes] using hf 5 _ rfl
      obtain ⟨t, rfl, ht⟩ := cs_int f0
      obtain ⟨k, rfl⟩ := cs_kind f1
      obtain ⟨v, rfl, hv⟩ := cs_int f2
      obtain ⟨s, rfl, hs⟩ := cs_int f3
      obtain ⟨g, rfl⟩ := cs_bool f4
      obtain ⟨A, m, c, bs, rfl, hr, h1, h2⟩ := cs_bytes f5
      exact ⟨⟨t, k, v, s, g, bs⟩, A, m, c, rfl, ht, hv, hs, hr, h1, h2⟩
theorem open_entry {v : Value} {d : DataW H} {p : List MemPlace} (hv : Value.okWide Tryz.prog W r b0 183 v) (h : DataW.Trod enc Tryz.prog W base sp held 183 v d p) :
    ∃ (e : M.Ent) (A : Option Addr) (n c : Nat), v = .agg #[.int .i64 e.term, B8 e.kind, .int .i64 e.version, .int .i64 e.server, .bool e.good, .slice A n c] ∧ M.inI64 e.term ∧ M.inI64 e.version ∧ M.inI64 e.server ∧ RowRd W ⟨A, n, c⟩ e.data ∧ n ≤ c ∧ c ≤ 9223372036854775807 := by
  obtain ⟨cs, rfl, hsz⟩ := okWide_struct Tryz.underlying183 hv
  obtain ⟨fuel, hf⟩ := h
  obtain ⟨e, A, n, c, h0, h1⟩ := cs_entry hf
  refine ⟨e, A, n, c, ?_, h1⟩
  have : cs.toList = _ := h0
  rw [← this]
/-- an entry in memory, its first cell at o of block b -/
def EntAt (W : World) (b o : Nat) (e : M.Ent) : Prop := ∃ A n c, (∀ j u, [Value.int .i64 e.term, B8 e.kind, .int .i64 e.version, .int .i64 e.server, .bool e.good, .slice A n c][j]? = some u → W.cell? ⟨b, o + j, none⟩ = some u) ∧ M.inI64 e.term ∧ M.inI64 e.version ∧ M.inI64 e.server ∧ RowRd W ⟨A, n, c⟩ e.data ∧ n ≤ c ∧ c ≤ 9223372036854775807
/-- entries that came in -/
def Ents (W : World) (A : Option Addr) (es : List M.Ent) : Prop := ∀ i, (h : i < es.length) → ∃ b o, A = some ⟨b, o, none⟩ ∧ EntAt W b (o + i * 6) es[i]
theorem EntAt.below {w w' : World} {b o : Nat} {e : M.Ent} (h : EntAt w b o e) (hb : Below w.heap.size w w') : EntAt w' b o e := by
  obtain ⟨A, n, c, hc, h1, h2, h3, h4, h5⟩ := h
  exact ⟨A, n, c, fun j u hu => (hb.cell (p := ⟨b, o + j, none⟩) (block_lt_of_cell (hc j u hu))).trans (hc j u hu), h1, h2, h3, h4.below hb, h5⟩
theorem Ents.below {w w' : World} {A : Option Addr} {es : List M.Ent} (h : Ents w A es) (hb : Below w.heap.size w w') : Ents w' A es := fun i hi => by
  obtain ⟨b, o, e, hc⟩ := h i hi
  exact ⟨b, o, e, hc.below hb⟩
theorem open_entries {v : Value} {d : DataW H} {p : List MemPlace} (hv : Value.okWide Tryz.prog W r b0 180 v) (h : DataW.Trod enc Tryz.prog W base sp held 180 v d p) :
    ∃ A n c es, v = .slice A n c ∧ Ents W A es ∧ es.length = n ∧ (A = none → c = 0) ∧ n ≤ c ∧ c ≤ 9223372036854775807 := by
  obtain ⟨A, l, c, rfl⟩ := okWide_slice Tryz.underlying180 hv
  obtain ⟨fuel, hf⟩ := h
  rcases open_slice Tryz.underlying180 hf with ⟨hcs, _⟩ | ⟨a, len, cap, m, n, D, Pl, hcs, hb, hl, hm, hmm, hx, hi⟩
  · simp [Value.cells] at hcs
    obtain ⟨rfl, rfl, rfl⟩ := hcs
    exact ⟨none, 0, 0, [], rfl, fun i hi => absurd hi (Nat.not_lt_zero _), rfl, fun _ => rfl, by omega, by omega⟩
  · simp [Value.cells] at hcs
    obtain ⟨rfl, rfl, rfl⟩ := hcs
    unfold maxLen at hm
    have hlm : l ≤ m := by split at hmm <;> omega
    rw [cellsEnt] at hi
    have hev : ∀ i : Nat, ∃ e : M.Ent, i < l → ∃ b o, a = ⟨b, o, none⟩ ∧ EntAt W b (o + i * 6) e := by
      intro i
      by_cases hil : i < l
      · obtain ⟨cs', hc, ht⟩ := hi i (by omega)
        obtain ⟨e, A, n2, c2, rfl, hr⟩ := cs_entry ht
        obtain ⟨_, _, hat⟩ := World.cells?_some hc
        obtain ⟨b, o, s⟩ := a
        obtain ⟨cs0, hc0, ht0⟩ := hi 0 (by omega)
        obtain ⟨_, _, _, _, rfl, _⟩ := cs_entry ht0
        obtain ⟨_, _, hat0⟩ := World.cells?_some hc0
        have hs : s = none := by simpa [Addr.add] using World.cell?_spot ((hat0 0 (by omega)).trans rfl)
        subst hs
        refine ⟨e, fun _ => ⟨b, o, rfl, A, n2, c2, fun j u hu => ?_, hr⟩⟩
        have hj : j < 6 := (List.getElem?_eq_some_iff.1 hu).1
        have h1 := hat j hj
        rw [hu, Addr.add_lit, Addr.add_lit] at h1
        exact h1
      · exact ⟨M.zeroEnt, fun h => absurd h hil⟩
    obtain ⟨f, hf⟩ := Classical.axiomOfChoice hev
    refine ⟨_, _, _, (List.range l).map f, rfl, fun i hi2 => ?_, by simp, (fun h => by cases h), hl, hm⟩
    have hil : i < l := by simpa using hi2
    obtain ⟨b, o, rfl, he⟩ := hf i hil
    exact ⟨b, o, rfl, by simpa using he⟩
end
end Go.Proofs.YtidcfjmibljkeaaGreatDoor.K

/- Bundles that came in, out of the statement's own reading of the arguments; lengths below the reach. -/
namespace Go.Proofs.YtidcfjmibljkeaaGreatDoor.K
open Go Go.RowKit Go.ChangeShapes Go.WideShapes Go.Deep

set_option maxRecDepth 100000
theorem cellsBun : Tryz.prog.cellsOf 26 = 4 := by kernel_rfl
theorem bytesOfByteB : Tryz.prog.bytesOf 5 = 1 := by kernel_rfl
section
variable {H : Type} {enc : TypeId × Value → H} {W : World} {base b0 : Nat} {sp : Nat → Bool} {held : Bool} {r : Reach}
/-- bytes that came in, their length under the reach -/
theorem cs_bytesX {fuel : Nat} {v : Value} {x : DataW H × List MemPlace} (h : DataW.trod enc Tryz.prog W base sp held fuel 22 [v] = some x) :
    ∃ A n c bs, v = .slice A n c ∧ RowRd W ⟨A, n, c⟩ bs ∧ n ≤ c ∧ c ≤ 9223372036854775807 ∧ ((∀ z ∈ x.1.weights Tryz.prog 22, z ≤ reachBytes) → n ≤ 140737488351232) := by
  rcases open_ints Tryz.underlying22 Tryz.underlying5 cellsByte h with ⟨hcs, _⟩ | ⟨a, l, c, zs, hcs, _, hl, hm, hz, hx, hcell, hwz⟩
  · obtain rfl : v = .slice none 0 0 := by simpa using hcs
    exact ⟨none, 0, 0, [], rfl, ⟨Rd.of_nil _ _, rfl, fun _ => rfl⟩, by omega, by omega, fun _ => by omega⟩
  · obtain rfl : v = .slice (some a) l c := by simpa using hcs
    unfold maxLen at hm
    have hlz : l ≤ zs.length := by split at hz <;> omega
    refine ⟨some a, l, c, _, rfl, ⟨Rd.of_ints hcell hwz l, ?_, fun h => by cases h⟩, hl, hm, fun hw => ?_⟩
    · simp only [List.length_map, List.length_take]
      omega
    · have hu : Tryz.prog.underlying 22 = some (.slice 5) := Tryz.underlying22
      have := hw (((lits .u8 (zs.take l)).length + (lits .u8 (zs.drop l)).length) * Tryz.prog.bytesOf 5) (by rw [hx]; simp only [DataW.weights, hu, List.mem_cons]; exact .inl rfl)
      rw [bytesOfByteB] at this
      unfold reachBytes at this
      simp [lits] at this
      omega
theorem open_bytesX {v : Value} {d : DataW H} {p : List MemPlace} (hv : Value.okWide Tryz.prog W r b0 22 v) (h : DataW.Trod enc Tryz.prog W base sp held 22 v d p) :
    ∃ A n c bs, v = .slice A n c ∧ RowRd W ⟨A, n, c⟩ bs ∧ n ≤ c ∧ c ≤ 9223372036854775807 ∧ ((∀ z ∈ d.weights Tryz.prog 22, z ≤ reachBytes) → n ≤ 140737488351232) := by
  obtain ⟨A, l, c, rfl⟩ := okWide_slice Tryz.underlying22 hv
  obtain ⟨fuel, hf⟩ := h
  exact cs_bytesX hf
theorem cs_bundle {fuel : Nat} {cs : List Value} {x : DataW H × List MemPlace} (h : DataW.trod enc Tryz.prog W base sp held fuel 26 cs = some x) :
    ∃ (b : M.Bun) (A : Option Addr) (n c : Nat) (B : Option Addr) (m d : Nat) (C : Option Addr) (k l : Nat), cs = [.int .i64 b.ver, .slice A n c, .slice B m d, .slice C k l] ∧ M.inI64 b.ver ∧ BunIn W b A n c B m d C k l ∧
      ((∀ z ∈ x.1.weights Tryz.prog 26, z ≤ reachBytes) → n ≤ 140737488351232 ∧ m ≤ 140737488351232 ∧ k ≤ 140737488351232) := by
  obtain ⟨xs, f, _, hx, hlen, hxl, hf⟩ := DataW.trod_struct Tryz.underlying26 h
  rw [cellsBun] at hlen
  match cs, hlen with
  | [c0, c1, c2, c3], _ =>
    match xs, hxl with
    | [y0, y1, y2, y3], _ =>
      have f0 : DataW.trod enc Tryz.prog W base sp held f 3 [c0] = some y0 := by simpa [cellsInt] using hf 0 _ rfl
      have f1 : DataW.trod enc Tryz.prog W base sp held f 22 [c1] = some y1 := by simpa [cellsBytes] using hf 1 _ rfl
      have f2 : DataW.trod enc Tryz.prog W base sp held f 22 [c2] = some y2 := by simpa [cellsBytes] using hf 2 _ rfl
      have f3 : DataW.trod enc Tryz.prog W base sp held f 22 [c3] = some y3 := by simpa [cellsBytes] using hf 3 _ rfl
      obtain ⟨v, rfl, ht⟩ := cs_int f0
      obtain ⟨A, n, c, b1, rfl, r1, _, _, w1⟩ := cs_bytesX f1
      obtain ⟨B, m, d, b2, rfl, r2, _, _, w2⟩ := cs_bytesX f2
      obtain ⟨C, k, l, b3, rfl, r3, _, _, w3⟩ := cs_bytesX f3
      have hu := Tryz.underlying26
      refine ⟨⟨v, b1, b2, b3⟩, A, n, c, B, m, d, C, k, l, rfl, ht, ⟨r1, r2, r3⟩, fun hw => ⟨w1 fun z hz => hw z ?_, w2 fun z hz => hw z ?_, w3 fun z hz => hw z ?_⟩⟩
      all_goals rw [hx]
      all_goals simp [DataW.weights, hu, DataW.weightsEach, hz]
theorem open_bundle {v : Value} {d : DataW H} {p : List MemPlace} (hv : Value.okWide Tryz.prog W r b0 26 v) (h : DataW.Trod enc Tryz.prog W base sp held 26 v d p) :
    ∃ (b : M.Bun) (A : Option Addr) (n c : Nat) (B : Option Addr) (m e : Nat) (C : Option Addr) (k l : Nat), v = .agg #[.int .i64 b.ver, .slice A n c, .slice B m e, .slice C k l] ∧ M.inI64 b.ver ∧ BunIn W b A n c B m e C k l ∧
      ((∀ z ∈ d.weights Tryz.prog 26, z ≤ reachBytes) → n ≤ 140737488351232 ∧ m ≤ 140737488351232 ∧ k ≤ 140737488351232) := by
  obtain ⟨cs, rfl, hsz⟩ := okWide_struct Tryz.underlying26 hv
  obtain ⟨fuel, hf⟩ := h
  obtain ⟨b, A, n, c, B, m, e, C, k, l, h0, h1⟩ := cs_bundle hf
  refine ⟨b, A, n, c, B, m, e, C, k, l, ?_, h1⟩
  have : cs.toList = _ := h0
  rw [← this]
end
end Go.Proofs.YtidcfjmibljkeaaGreatDoor.K
