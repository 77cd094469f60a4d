/- The contracts of disk's Cut, Append and Crash. -/
import Derived.Test.YtfpjmeknjhhakaaSqDskDo
namespace Go.Proofs.Ytfpjmeknjhhakaa.K
open Go Go.RowKit Go.Maps

set_option maxHeartbeats 1000000 in
set_option maxRecDepth 100000 in
theorem cut1_any (w0 w : World) (D R I : Nat) (room : Int) (f : Fil) (L : List Acc) (k : Nat) (h : Dk w0 w D R room (some f) (boxAcc I 3 [.int .i64 (k : Int)] :: L)) (hk : k ≤ f.n) (hn : f.n ≤ 100000000) :
    Calls Try.prog 113 #[.pointer (some ⟨f.g, 0, none⟩), .pointer (some ⟨I, 0, none⟩)] w fun e w' => e = .returned (.int .i64 0) ∧ ∃ A c, Dk w0 w' D R room (some ⟨f.g, A, k, c, f.bs.take k, k⟩) (boxAcc I 3 [.int .i64 (k : Int)] :: L) := by
  have i0 := h.cell 0 rfl 0 rfl
  have f0 := h.f0
  have k0 : ¬ (k : Int) < 0 := by omega
  have k1 : ¬ (f.n : Int) < (k : Int) := by omega
  have H0 := Lib.hid h
  clear h
  go_enter Try.func113, Try.ntmps113
  go_wp2_with fail
  have ri0 := cell_regrown i0
  have rf0 := cell_regrown f0
  have d0 : decide ((k : Int) < 0) = false := by simp
  have d1 : decide ((f.n : Int) < (k : Int)) = false := by simpa using k1
  clear i0 f0
  refine wp_region_quiet_below (by kernel_rfl) (by kernel_rfl) ?_
  repeat (refine @wpQuiet_step _ _ _ _ _ _ _ ?_; intro K hK; go_simp; (refine hK _ ?_; clear hK K))
  refine wpQuiet_nil ?_
  intro _ hw'
  obtain ⟨⟨dq, osq⟩, hw''⟩ := hw'
  subst hw''
  have i0 := ri0 dq osq
  have HC := Lib.hid (cut_any w0 _ D R room f _ (H0.out.call (below_regrown w dq osq)) k hk hn)
  clear ri0 rf0 H0 d0 d1
  go_wp2_with fail
  refine HC.out.mono ?_
  rintro e w1 ⟨rfl, A, c, hz⟩
  have HZ := Lib.hid hz
  clear hz HC
  go_wp2
  go_ret
  exact ⟨rfl, A, c, HZ.out⟩
set_option maxHeartbeats 1000000 in
set_option maxRecDepth 100000 in
theorem dCut_some (w0 w : World) (D R : Nat) (room : Int) (f : Fil) (L : List Acc) (k : Nat) (h : Dk w0 w D R room (some f) L) (hk : k ≤ f.n) (hn : f.n ≤ 100000000) :
    Calls Try.prog 59 #[.pointer (some ⟨D, 0, none⟩), .string storeS, .int .i64 (k : Int)] w fun e w' => e = .returned (.int .i64 0) ∧ ∃ A c, Dk w0 w' D R room (some ⟨f.g, A, k, c, f.bs.take k, k⟩) L := by
  have h1 := h.box #[.int .i64 (k : Int)] 3 (by simp)
  have HC := Lib.hid (with_some w0 _ D R room f _ h1 113 #[.pointer (some ⟨w.heap.size, 0, none⟩)] (.int .i64 0) _ (.inr (.inr ⟨rfl, _, rfl⟩)) (cut1_any w0 _ D R w.heap.size room f L k h1 hk hn))
  clear h h1
  generalize storeS = s at *
  go_enter Try.func59, Try.ntmps59
  go_wp2_with fail
  refine HC.out.mono ?_
  rintro e w1 ⟨rfl, A, c, hz⟩
  have HZ := Lib.hid (hz.sub (.cons _ (List.Sublist.refl _)))
  clear hz HC
  go_wp2
  go_ret
  exact ⟨rfl, A, c, HZ.out⟩
end Go.Proofs.Ytfpjmeknjhhakaa.K
