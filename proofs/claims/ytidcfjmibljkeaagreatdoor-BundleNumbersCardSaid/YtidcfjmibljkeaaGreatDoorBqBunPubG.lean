/- The contract of bundle's Get. -/
import Derived.Test.YtidcfjmibljkeaaGreatDoorBq9
namespace Go.Proofs.YtidcfjmibljkeaaGreatDoor.K
open Go Go.RowKit

theorem getC_zero (bs : List (BitVec 8)) : getC bs = 0 ↔ M.bgetE bs = 0 := by
  unfold getC M.bgetE
  by_cases h1 : (M.bread bs).2 = some []
  · by_cases h2 : M.bwrong (M.bread bs).1 = 0
    · rw [if_pos h1, if_pos ⟨h1, h2⟩]; simp [h2]
    · rw [if_pos h1, if_neg (fun h => h2 h.2)]; simp [h2]
  · rw [if_neg h1, if_neg (fun h => h1 h.1)]
theorem bgetE_four (bs : List (BitVec 8)) (h : getC bs ≠ 0) : M.bgetE bs = 4 := by
  have h1 : M.bgetE bs ≠ 0 := fun e => h ((getC_zero bs).2 e)
  unfold M.bgetE at h1 ⊢
  by_cases h2 : (M.bread bs).2 = some [] ∧ M.bwrong (M.bread bs).1 = 0
  · rw [if_pos h2] at h1; exact absurd rfl h1
  · rw [if_neg h2]
set_option maxHeartbeats 8000000 in
set_option maxRecDepth 100000 in
theorem pgetB_any (A : Option Addr) (n c : Nat) (bs : List (BitVec 8)) (w : World) (hr : RowRd w ⟨A, n, c⟩ bs) (hn : n ≤ 10000000000) :
    Calls Tryz.prog 24 #[.slice A n c] w (ToldE w (M.bget bs) (M.bgetE bs)) := by
  have hmf : ∀ (fn : Fn) (first cap : Array Value) (w : World), (Instr.makeFunc fn first cap).run Tryz.prog w = .ok (.func fn first cap) w := fun _ _ _ _ => rfl
  have HR := Lib.hid hr
  have BK0 := Lib.hid (((Bank.nil (Below.refl w.heap.size w)).box #[.slice A n c] 22 (by simp)).box #[.int .i64 0, .slice none 0 0, .slice none 0 0, .slice none 0 0] 26 (by simp))
  rw [World.size_alloc] at BK0
  clear hr
  go_enter Tryz.func24, Tryz.ntmps24
  go_wp2_with fail
  generalize hw1 : (w.alloc (.cells #[.slice A n c] 22)).alloc (.cells #[.int .i64 0, .slice none 0 0, .slice none 0 0, .slice none 0 0] 26) = w1 at *
  clear hw1
  have S12 := Lib.hid (Since.alloc (Since.alloc (Below.refl w1.heap.size w1) (.cells #[.int .i64 0, .slice none 0 0, .slice none 0 0, .slice none 0 0] 26)) (.cells #[.int .i64 0] 27))
  have hcp := BK0.out.cell 1 rfl 0 rfl
  refine (triedGet_any ⟨w.heap.size, 0, none⟩ (M.bread bs).1 (getC bs) w1 (get1_any w.heap.size A n c bs _ ((S12.out.cell (block_lt_of_cell hcp)).trans hcp) (Since.row (Since.add BK0.out.since S12.out) HR.out) hn)).mono ?_
  rintro e w2 ⟨x, rfl, A2, n2, c2, B2, m2, d2, C2, k2, l2, rfl, hn2, hm2, hk2, hB⟩
  have BK2 := Lib.hid (bank_under BK0.out hB)
  have HN2 := Lib.hid hn2; have HM2 := Lib.hid hm2; have HK2 := Lib.hid hk2
  clear hB BK0 S12 hcp hn2 hm2 hk2
  obtain ⟨v2, hv2⟩ : ∃ v2, v2 = (orZero (getC bs) (M.bread bs).1).ver := ⟨_, rfl⟩
  have HV2 := Lib.hid hv2
  rw [← hv2]
  clear hv2
  by_cases hE : getC bs = 0
  · have HG := Lib.hid (show M.bgetE bs = 0 ∧ M.bget bs = orZero (getC bs) (M.bread bs).1 from ⟨(getC_zero bs).1 hE, by unfold M.bget orZero; rw [if_pos ((getC_zero bs).1 hE), if_pos hE]⟩)
    rw [hE]
    clear hE
    have BK3 := Lib.hid (BK2.out.box #[.int .i64 v2, .slice A2 n2 c2, .slice B2 m2 d2, .slice C2 k2 l2] 26 (by simp))
    have HRES := Lib.hid (BK3.out.boxAt 4 rfl).2
    have HFIN := Lib.hid (show ToldE w (M.bget bs) (M.bgetE bs) (.returned (.tuple #[.agg (bunL v2 A2 n2 c2 B2 m2 d2 C2 k2 l2).toArray, .int .i64 0])) ((w2.alloc (.cells #[.int .i64 v2, .slice A2 n2 c2, .slice B2 m2 d2, .slice C2 k2 l2] 26)).setRow (w.heap.size + 1) (bunL v2 A2 n2 c2 B2 m2 d2 C2 k2 l2).toArray) from by
      have h := BK3.out.boxRow 4 rfl (bunL v2 A2 n2 c2 B2 m2 d2 C2 k2 l2) rfl (by decide)
      rw [HG.out.1, HG.out.2]
      exact ⟨_, rfl, A2, n2, c2, B2, m2, d2, C2, k2, l2, by rw [HV2.out]; rfl, HN2.out, HM2.out, HK2.out, h.sub (.cons _ (.cons_cons _ (.cons_cons _ (.cons_cons _ (.cons _ (.cons _ .slnil))))))⟩)
    go_wp2_with (with_reducible refine wpList_store_row rfl 26 (.tmp 2) (.tmp 14) rfl (w.heap.size + 1) (bunL v2 A2 n2 c2 B2 m2 d2 C2 k2 l2).toArray rfl rfl 26 _ HRES.out (infoBunL v2 A2 n2 c2 B2 m2 d2 C2 k2 l2) rfl (bunL_one _ _ _ _ _ _ _ _ _ _) ?_)
    refine bodyPost_ret (v := .tuple #[.agg (bunL v2 A2 n2 c2 B2 m2 d2 C2 k2 l2).toArray, .int .i64 0]) ?_ rfl HFIN.out
    exact results_cell_tmp rfl _ _ (w.heap.size + 1) _ _ rfl rfl (load_bun _ _ _ _ _ _ _ _ _ _ (setRow_heap _ _ _ _ _ _ HRES.out))
  · have HG := Lib.hid (show M.bgetE bs = 4 ∧ M.bget bs = M.zeroBun from ⟨bgetE_four bs hE, by unfold M.bget; rw [if_neg (by rw [bgetE_four bs hE]; decide)]⟩)
    have hE1 : ((getC bs : Int) != 0) = true := by simpa using hE
    clear hE
    have BK3 := Lib.hid (BK2.out.box #[.int .i64 v2, .slice A2 n2 c2, .slice B2 m2 d2, .slice C2 k2 l2] 26 (by simp))
    have HRES := Lib.hid (BK3.out.boxAt 4 rfl).2
    have HFIN := Lib.hid (show ToldE w (M.bget bs) (M.bgetE bs) (.returned (.tuple #[.agg zeroV.toArray, .int .i64 4])) ((w2.alloc (.cells #[.int .i64 v2, .slice A2 n2 c2, .slice B2 m2 d2, .slice C2 k2 l2] 26)).setRow (w.heap.size + 1) zeroV.toArray) from by
      have h := BK3.out.boxRow 4 rfl zeroV rfl (by decide)
      rw [HG.out.1, HG.out.2]
      exact ⟨_, rfl, told_zero h.since⟩)
    go_wp2_with (with_reducible refine wpList_store_row rfl 26 (.tmp 2) (.tmp 13) rfl (w.heap.size + 1) zeroV.toArray rfl rfl 26 _ HRES.out (infoBunL 0 none 0 0 none 0 0 none 0 0) rfl (bunL_one _ _ _ _ _ _ _ _ _ _) ?_)
    refine bodyPost_ret (v := .tuple #[.agg zeroV.toArray, .int .i64 4]) ?_ rfl HFIN.out
    exact results_cell_tmp rfl _ _ (w.heap.size + 1) _ _ rfl rfl (load_bun _ _ _ _ _ _ _ _ _ _ (setRow_heap _ _ _ _ _ _ HRES.out))
end Go.Proofs.YtidcfjmibljkeaaGreatDoor.K
