/- The contract of barbicanlaw04.ShaSums: it tells true of any bytes. -/
import Derived.Test.YtjnhfmicadcmnaaDoorRefSum
import Derived.Test.YtjnhfmicadcmnaaDoorShaAwake
import Derived.Test.YtjnhfmicadcmnaaDoorLent
namespace Go.Proofs.YtjnhfmicadcmnaaDoor.K
open Go Go.RowKit

theorem lent_rd {w : World} {g : Nat} {bs ms : List (BitVec 8)} {t : TypeId} (hg : w.heap[g]? = some (.cells (bv (bs ++ ms)).toArray t (0, 0))) : Rd w (some ⟨g, 0, none⟩) bs :=
  Rd.of_block hg (by rw [List.toList_toArray, bv_append, List.take_left' (bv_length bs)])

set_option maxHeartbeats 1000000 in
set_option maxRecDepth 100000 in
theorem sums_any (A : Option Addr) (n c : Nat) (bs : List (BitVec 8)) (w : World) (hr : Rd w A bs) (hn : bs.length = n) (hnone : A = none → c = 0) (hK : HasK w) (hF : HasF w) :
    Calls Tryd.prog 3 #[.slice A n c] w fun e w' => e = .returned (.bool true) ∧ Below w.heap.size w w' := by
  have HK := Lib.hid hK; have HF := Lib.hid hF; have HR := Lib.hid hr; have HN := Lib.hid hn
  clear hK hF hr hn
  by_cases h3 : 3000 < n
  · have p : (3000 : Int) < (n : Int) := by omega
    go_enter Tryd.func3, Tryd.ntmps3
    go_wp2_with fail
    refine (awake4_any _ HK.out HF.out).mono ?_
    rintro e w1 ⟨rfl, hb1⟩
    have HB := Lib.hid hb1; clear hb1
    go_wp2
    go_ret
    exact ⟨rfl, HB.out⟩
  · have p : ¬ (3000 : Int) < (n : Int) := by omega
    go_enter Tryd.func3, Tryd.ntmps3
    go_wp2_with fail
    refine (awake4_any _ HK.out HF.out).mono ?_
    rintro e w1 ⟨rfl, hb1⟩
    have HB1 := Lib.hid hb1; clear hb1
    go_wp2_with fail
    refine (LentBytes_any A n c bs w1 (HR.out.below HB1.out) HN.out (by omega) hnone).mono ?_
    rintro e w2 ⟨g, rfl, hg, hblk, hb2⟩
    have hb02 : Below w.heap.size w w2 := HB1.out.trans (hb2.mono HB1.out.size)
    have HB2 := Lib.hid hb02; have HG := Lib.hid hblk
    have hgl : g < w2.heap.size := (Array.getElem?_eq_some_iff.1 hblk).1
    clear hb2 hb02 hblk
    go_wp2_with fail
    refine (Sum_any (some ⟨g, 0, none⟩) n (n + 12) bs w2 (lent_rd HG.out) HN.out (by omega) (HK.out.below HB2.out) (HF.out.below HB2.out)).mono ?_
    rintro e w3 ⟨g3, c3, rfl, hown3, hb3⟩
    have hb03 : Below w.heap.size w w3 := HB2.out.trans (hb3.mono HB2.out.size)
    have hg3 : w3.heap[g]? = some (.cells (bv (bs ++ marks 1 0 12)).toArray 5 (0, 0)) := (hb3.block _ hgl).trans HG.out
    have hl3 := hb3.size
    have HB3 := Lib.hid hb03; have HG3 := Lib.hid hg3; have HO3 := Lib.hid hown3
    clear hb03 hg3 hown3 hb3 HG
    go_wp2_with fail
    refine (RefSum_any A n c bs w3 (HR.out.below HB3.out) HN.out (by omega) hnone).mono ?_
    rintro e w4 ⟨g4, c4, rfl, hown4, hb4⟩
    have hb04 : Below w.heap.size w w4 := HB3.out.trans (hb4.mono HB3.out.size)
    have hg4 : w4.heap[g]? = some (.cells (bv (bs ++ marks 1 0 12)).toArray 5 (0, 0)) := (hb4.block _ (by omega)).trans HG3.out
    have hr3 : Rd w4 (some ⟨g3, 0, none⟩) (M.sum bs) := (Rd.of_own HO3.out).below hb4
    have hr4 : Rd w4 (some ⟨g4, 0, none⟩) (M.sum bs) := Rd.of_own hown4
    have HB4 := Lib.hid hb04; have HG4 := Lib.hid hg4; have HR3 := Lib.hid hr3; have HR4 := Lib.hid hr4
    clear hb04 hg4 hr3 hr4 hown4 hb4 HG3 HO3
    go_wp2_with fail
    refine (SameBytes_any (some ⟨g3, 0, none⟩) (some ⟨g4, 0, none⟩) 32 32 c3 c4 (M.sum bs) (M.sum bs) _ HR3.out HR4.out (M.sum_length _) (M.sum_length _) (by omega) (by omega)).mono ?_
    rintro e w5 ⟨rfl, q, rfl⟩
    rw [decide_eq_true rfl]
    have hb05 := below_drewN HB4.out q
    have HB5 := Lib.hid hb05
    have hg5 : (w4.drewN q).heap[g]? = some (.cells (bv (bs ++ marks 1 0 12)).toArray 5 (0, 0)) := HG4.out
    have HG5 := Lib.hid hg5
    clear hb05 hg5 HG4
    go_wp2_with fail
    refine (KeptBytes_any g A n c bs _ HG5.out (HR.out.below HB5.out) HN.out (by omega)).mono ?_
    rintro e w6 ⟨rfl, q2, rfl⟩
    clear HB5 HG5
    go_wp2
    go_ret
    exact ⟨rfl, below_drewN HB4.out _⟩
end Go.Proofs.YtjnhfmicadcmnaaDoor.K
