/- The contracts of the law's ack, cell, and of the reference's within and May. -/
import Derived.Test.YtfpjmeknjhhakaaSqStoApp
import Derived.Test.YtfpjmeknjhhakaaSqStoOpen
import Derived.Test.YtfpjmeknjhhakaaSqStoEnts
namespace Go.Proofs.Ytfpjmeknjhhakaa.K
open Go Go.RowKit Go.Maps

def ackE (k : Int) : M.Ent := ⟨1, 4#8, 1, k, true, []⟩
set_option maxHeartbeats 1000000 in
set_option maxRecDepth 100000 in
theorem ack_any (k : Int) (w : World) : Calls Try.prog 40 #[.int .i64 k] w fun e w' => e = .returned (.agg #[.int .i64 1, .int .u8 4, .int .i64 1, .int .i64 k, .bool true, .slice none 0 0]) ∧ Since w w' := by
  go_enter Try.func40, Try.ntmps40
  go_wp2
  refine bodyPost_ret (v := .agg #[.int .i64 1, .int .u8 4, .int .i64 1, .int .i64 k, .bool true, .slice none 0 0]) ?_ rfl ⟨rfl, Since.alloc (Below.refl _ _) _⟩
  exact results_cell_row rfl _ _ w.heap.size 81 _ (0, 0) _ rfl (heap_alloc_new w _) Try.underlying81 rfl (by kernel_rfl)
set_option maxHeartbeats 1000000 in
set_option maxRecDepth 100000 in
theorem lcell_any (a b c d : Int) (w : World) : Calls Try.prog 64 #[.agg #[.int .i64 a, .int .i64 b, .int .i64 c, .int .i64 d]] w fun e w' => e = .returned (.agg #[.int .i64 a, .int .i64 b, .int .i64 c, .int .i64 d]) ∧ Since w w' := by
  go_enter Try.func64, Try.ntmps64
  go_wp2
  refine bodyPost_ret (v := .agg #[.int .i64 a, .int .i64 b, .int .i64 c, .int .i64 d]) ?_ rfl ⟨rfl, Since.alloc (Since.alloc (Below.refl _ _) _) _⟩
  exact results_cell_row rfl _ _ (w.heap.size + 1) 83 _ (0, 0) _ rfl (by have h := heap_alloc_new (w.alloc (.cells #[.int .i64 a, .int .i64 b, .int .i64 c, .int .i64 d] 65)) (.cells #[.int .i64 a, .int .i64 b, .int .i64 c, .int .i64 d] 83); rw [World.size_alloc] at h; exact h) Try.underlying83 rfl (by kernel_rfl)
theorem within_cases (n m : Int) : (S.wi n m = true ∧ 0 ≤ n ∧ n ≤ m) ∨ (S.wi n m = false ∧ ¬ 0 ≤ n) ∨ (S.wi n m = false ∧ 0 ≤ n ∧ ¬ n ≤ m) := by
  unfold S.wi
  by_cases h : 0 ≤ n
  · by_cases h2 : n ≤ m
    · exact .inl ⟨by simp [h, h2], h, h2⟩
    · exact .inr (.inr ⟨by simp [h2], h, h2⟩)
  · exact .inr (.inl ⟨by simp [h], h⟩)
set_option maxHeartbeats 1000000 in
set_option maxRecDepth 100000 in
theorem rwithin_any (n m : Int) (w : World) : Calls Try.prog 155 #[.int .i64 n, .int .i64 m] w fun e w' => e = .returned (.bool (S.wi n m)) ∧ w = w' := by
  rcases within_cases n m with ⟨e, h1, h2⟩ | ⟨e, h1⟩ | ⟨e, h1, h2⟩
  all_goals
    have HE := Lib.hid e
    clear e
    go_enter Try.func155, Try.ntmps155
    go_wp2
    go_ret
    exact ⟨by rw [HE.out]; rfl, rfl⟩
set_option maxHeartbeats 2000000 in
set_option maxRecDepth 100000 in
theorem rMay_any (c : S.Cl) (w : World) : Calls Try.prog 117 #[.agg #[.int .i64 c.term, .int .i64 c.vote, .int .i64 c.applied, .int .i64 c.active]] w (MayPost w (S.may c)) := by
  have HS := Lib.hid (Since.alloc (Below.refl w.heap.size w) (.cells #[.int .i64 c.term, .int .i64 c.vote, .int .i64 c.applied, .int .i64 c.active] 83))
  obtain ⟨a0, a1, a2, a3⟩ := c
  unfold S.may
  have HW := Lib.hid rwithin_any
  obtain ⟨b0, hb0⟩ : ∃ b, b = S.wi a0 1099511627776 := ⟨_, rfl⟩
  obtain ⟨b1, hb1⟩ : ∃ b, b = S.wi a1 7 := ⟨_, rfl⟩
  obtain ⟨b2, hb2⟩ : ∃ b, b = S.wi a2 1073741824 := ⟨_, rfl⟩
  obtain ⟨b3, hb3⟩ : ∃ b, b = S.wi a3 1073741824 := ⟨_, rfl⟩
  rw [← hb0, ← hb1, ← hb2, ← hb3]
  have H0 := Lib.hid hb0; have H1 := Lib.hid hb1; have H2 := Lib.hid hb2; have H3 := Lib.hid hb3
  clear hb0 hb1 hb2 hb3
  go_enter Try.func117, Try.ntmps117
  go_wp2_with fail
  refine (HW.out a0 1099511627776 _).mono ?_
  rintro e w1 ⟨rfl, rfl⟩
  rw [← H0.out]
  cases b0 with
  | false => go_wp2; go_ret; exact ⟨rfl, HS.out⟩
  | true =>
  go_wp2_with fail
  refine (HW.out a1 7 _).mono ?_
  rintro e w1 ⟨rfl, rfl⟩
  rw [← H1.out]
  cases b1 with
  | false => go_wp2; go_ret; exact ⟨rfl, HS.out⟩
  | true =>
  go_wp2_with fail
  refine (HW.out a2 1073741824 _).mono ?_
  rintro e w1 ⟨rfl, rfl⟩
  rw [← H2.out]
  cases b2 with
  | false => go_wp2; go_ret; exact ⟨rfl, HS.out⟩
  | true =>
  go_wp2_with fail
  refine (HW.out a3 1073741824 _).mono ?_
  rintro e w1 ⟨rfl, rfl⟩
  rw [← H3.out]
  go_wp2
  go_ret
  exact ⟨rfl, HS.out⟩
end Go.Proofs.Ytfpjmeknjhhakaa.K
