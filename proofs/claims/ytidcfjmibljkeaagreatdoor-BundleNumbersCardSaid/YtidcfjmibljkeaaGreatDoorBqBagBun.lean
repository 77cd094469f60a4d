/- barbicankit's putBundles, for a list of one bundle, over a bank. -/
import Derived.Test.YtidcfjmibljkeaaGreatDoorBqBagB
import Derived.Test.YtidcfjmibljkeaaGreatDoorBqFlatBundles
namespace Go.Proofs.YtidcfjmibljkeaaGreatDoor.K
open Go Go.RowKit

set_option maxHeartbeats 8000000 in
set_option maxRecDepth 100000 in
theorem putBundlesB_any {w0 : World} {L : List Acc} (g i j j2 ib gb : Nat) (cs : List Value) (A5 : Option Addr) (n5 c5 : Nat) (xs : List Value) (A14 : Option Addr) (n14 c14 : Nat) (ys : List Value) (v : Int) (A : Option Addr) (n c : Nat) (B : Option Addr) (m d : Nat) (C : Option Addr) (k l : Nat) (w : World) (hB : Bank w0 w L)
    (hi : L[i]? = some (boxAcc g 79 cs)) (hj : L[j]? = some (lstAcc (.slice A5 n5 c5) n5 22 xs)) (hj2 : L[j2]? = some (lstAcc (.slice A14 n14 c14) n14 34 ys)) (hib : L[ib]? = some (boxAcc gb 26 [.int .i64 v, .slice A n c, .slice B m d, .slice C k l]))
    (hij : i ≠ j) (hij2 : i ≠ j2) (hjj : j ≠ j2) (hbi : ib ≠ i) (hbj : ib ≠ j) (hbj2 : ib ≠ j2) (hcs : cs.length = 21) (h5 : cs[5]? = some (.slice A5 n5 c5)) (h14 : cs[14]? = some (.slice A14 n14 c14)) (hn : n5 ≤ 999997) (hn14 : n14 ≤ 1000000) :
    Calls Tryz.prog 40 #[.pointer (some ⟨g, 0, none⟩), .slice (some ⟨gb, 0, none⟩) 1 1] w fun e w' => ∃ A' c' A2 c2, e = .returned (.tuple #[]) ∧
      Bank w0 w' (((L.set j2 (lstAcc (.slice A2 (n14 + 1) c2) (n14 + 1) 34 (ys ++ [.slice (some ⟨gb, 0, none⟩) 1 1]))).set j (lstAcc (.slice A' (n5 + 3) c') (n5 + 3) 22 (xs ++ [.slice A n c, .slice B m d, .slice C k l]))).set i (boxAcc g 79 ((cs.set 14 (.slice A2 (n14 + 1) c2)).set 5 (.slice A' (n5 + 3) c')))) := by
  have hil : i < L.length := (List.getElem?_eq_some_iff.1 hi).1
  have hjl : j < L.length := (List.getElem?_eq_some_iff.1 hj).1
  have c14 := hB.cell i hi 14 h14
  have HB := Lib.hid hB; have HI := Lib.hid hi; have HJ := Lib.hid hj; have HJ2 := Lib.hid hj2; have HIB := Lib.hid hib; have HC := Lib.hid hcs
  clear hB hi hj hj2 hib hcs
  go_enter Tryz.func40, Tryz.ntmps40
  go_wp2_with (first
    | (at_builtin; refine wpList_append_bankG (HB.out.alloc _) rfl (.tmp 9) (.tmp 11) 35 rfl 34 (.slice none 0 0) 1 24 G.infoLBundles Tryz.underlying35 rfl (by decide) j2 A14 n14 _ ys rfl HJ2.out ⟨w.heap.size, 0, none⟩ 1 1 [.slice (some ⟨gb, 0, none⟩) 1 1] rfl rfl (cell_last _ _ _) (by intro u hu; simp at hu; subst hu; rfl) (by unfold maxLen; omega) (by omega) ?_; intro A2 n2 c2 w1 hn2 hB1 _ _; have hi1 : (L.set j2 (lstAcc (.slice A2 n2 c2) n2 34 (ys ++ [.slice (some ⟨gb, 0, none⟩) 1 1])))[i]? = some (boxAcc g 79 cs) := (by rw [List.getElem?_set_ne (Ne.symm hij2)]; exact HI.out); have d14 := hB1.cell i hi1 14 h14; have f14 := hB1.free i hi1 14; have BK2 := Lib.hid (Bank.boxSet hB1 i hi1 14 (.slice A2 n2 c2)); have HN := Lib.hid hn2; clear hB1 hn2 hi1)
    | (with_reducible refine wpList_store_one rfl 35 (.tmp 14) (.tmp 12) rfl ⟨g, 14, none⟩ _ _ rfl rfl rfl (by kernel_rfl) d14 f14 ?_))
  generalize w1.setCell ⟨g, 14, none⟩ (.slice A2 n2 c2) = w2 at *
  clear d14 f14 HB
  have hb2 : ((L.set j2 (lstAcc (.slice A2 n2 c2) n2 34 (ys ++ [.slice (some ⟨gb, 0, none⟩) 1 1]))).set i (boxAcc g 79 (cs.set 14 (.slice A2 n2 c2))))[ib]? = some (boxAcc gb 26 [.int .i64 v, .slice A n c, .slice B m d, .slice C k l]) := by
    rw [List.getElem?_set_ne (Ne.symm hbi), List.getElem?_set_ne (Ne.symm hbj2)]; exact HIB.out
  have x0 := BK2.out.cell ib hb2 0 rfl
  have x1 := BK2.out.cell ib hb2 1 rfl
  have x2 := BK2.out.cell ib hb2 2 rfl
  have x3 := BK2.out.cell ib hb2 3 rfl
  clear hb2
  refine wp_loop_rounds 2 ?_
  rw [rounds_succ]
  go_wp2_with fail
  clear x0 x1 x2 x3
  refine (oneBundleB_any g i j (cs.set 14 (.slice A2 n2 c2)) A5 n5 c5 xs v A n c B m d C k l w2 BK2.out (List.getElem?_set_self (by simp; omega)) (by rw [List.getElem?_set_ne hij, List.getElem?_set_ne (Ne.symm hjj)]; exact HJ.out) hij (by rw [List.length_set]; exact HC.out) (by rw [List.getElem?_set_ne (by decide)]; exact h5) (by omega)).mono ?_
  rintro e w3 ⟨A', c', rfl, hB3⟩
  have HB3 := Lib.hid hB3
  clear hB3 BK2
  go_wp2_with fail
  rw [rounds_succ]
  go_wp2_with fail
  go_end0
  obtain rfl := HN.out
  refine ⟨A', c', A2, c2, rfl, ?_⟩
  have h := HB3.out
  rw [List.set_comm _ _ hij, List.set_set] at h
  exact h
end Go.Proofs.YtidcfjmibljkeaaGreatDoor.K
