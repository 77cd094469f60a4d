/- The contracts of store's may and there, of the reference's May. -/
import Derived.Test.YtfpjmeknjhhakaaSqDskCrash
import Derived.Test.YtfpjmeknjhhakaaSq8
namespace Go.Proofs.Ytfpjmeknjhhakaa.K
open Go Go.RowKit Go.Maps

/-- a cell as a value -/
def clCells (c : S.Cl) : List Value := [.int .i64 c.term, .int .i64 c.vote, .int .i64 c.applied, .int .i64 c.active]
theorem wi_cases (n m : Int) : (S.wi n m = true ∧ ¬ n < 0 ∧ ¬ m < n) ∨ (S.wi n m = false ∧ n < 0) ∨ (S.wi n m = false ∧ ¬ n < 0 ∧ m < n) := by
  unfold S.wi
  by_cases h : n < 0
  · exact .inr (.inl ⟨by simp; omega, h⟩)
  · by_cases h2 : m < n
    · exact .inr (.inr ⟨by simp; omega, h, h2⟩)
    · exact .inl ⟨by simp; omega, h, h2⟩
theorem idx4 (a b c d : Value) (k : Nat) (v : Value) (hk : k < 4) (hv : #[a, b, c, d][k]? = some v) (w : World) : (Instr.index 198 (.agg #[a, b, c, d]) (.int .i64 (k : Int))).run Try.prog w = .ok v w :=
  run_index_agg 198 3 4 _ k _ _ Try.underlying198 (by kernel_rfl) Try.underlying3 rfl hk hv w
def MayPost (w : World) (b : Bool) (e : Ending) (w' : World) : Prop := e = .returned (.bool b) ∧ Since w w'
set_option maxHeartbeats 4000000 in
set_option maxRecDepth 100000 in
theorem may_any (c : S.Cl) (w : World) : Calls Try.prog 67 #[.agg #[.int .i64 c.term, .int .i64 c.vote, .int .i64 c.applied, .int .i64 c.active]] w (MayPost w (S.may c)) := by
  have HS := Lib.hid (Since.alloc (Below.refl w.heap.size w) (.cells #[.int .i64 c.term, .int .i64 c.vote, .int .i64 c.applied, .int .i64 c.active] 65))
  obtain ⟨a0, a1, a2, a3⟩ := c
  unfold S.may
  have x0 : ∀ w, (Instr.index 198 (.agg #[.int .i64 1099511627776, .int .i64 7, .int .i64 1073741824, .int .i64 1073741824]) (.int .i64 0)).run Try.prog w = .ok (.int .i64 1099511627776) w := idx4 _ _ _ _ 0 _ (by decide) rfl
  have y0 : ∀ w, (Instr.index 198 (.agg #[.int .i64 a0, .int .i64 a1, .int .i64 a2, .int .i64 a3]) (.int .i64 0)).run Try.prog w = .ok (.int .i64 a0) w := idx4 _ _ _ _ 0 _ (by decide) rfl
  have x1 : ∀ w, (Instr.index 198 (.agg #[.int .i64 1099511627776, .int .i64 7, .int .i64 1073741824, .int .i64 1073741824]) (.int .i64 1)).run Try.prog w = .ok (.int .i64 7) w := idx4 _ _ _ _ 1 _ (by decide) rfl
  have y1 : ∀ w, (Instr.index 198 (.agg #[.int .i64 a0, .int .i64 a1, .int .i64 a2, .int .i64 a3]) (.int .i64 1)).run Try.prog w = .ok (.int .i64 a1) w := idx4 _ _ _ _ 1 _ (by decide) rfl
  have x2 : ∀ w, (Instr.index 198 (.agg #[.int .i64 1099511627776, .int .i64 7, .int .i64 1073741824, .int .i64 1073741824]) (.int .i64 2)).run Try.prog w = .ok (.int .i64 1073741824) w := idx4 _ _ _ _ 2 _ (by decide) rfl
  have y2 : ∀ w, (Instr.index 198 (.agg #[.int .i64 a0, .int .i64 a1, .int .i64 a2, .int .i64 a3]) (.int .i64 2)).run Try.prog w = .ok (.int .i64 a2) w := idx4 _ _ _ _ 2 _ (by decide) rfl
  have x3 : ∀ w, (Instr.index 198 (.agg #[.int .i64 1099511627776, .int .i64 7, .int .i64 1073741824, .int .i64 1073741824]) (.int .i64 3)).run Try.prog w = .ok (.int .i64 1073741824) w := idx4 _ _ _ _ 3 _ (by decide) rfl
  have y3 : ∀ w, (Instr.index 198 (.agg #[.int .i64 a0, .int .i64 a1, .int .i64 a2, .int .i64 a3]) (.int .i64 3)).run Try.prog w = .ok (.int .i64 a3) w := idx4 _ _ _ _ 3 _ (by decide) rfl
  go_enter Try.func67, Try.ntmps67
  go_wp2
  refine wp_loop_rounds 5 ?_
  rw [rounds_succ]
  rcases wi_cases a0 1099511627776 with ⟨e0, u0, v0⟩ | ⟨e0, u0⟩ | ⟨e0, u0, v0⟩
  rotate_left
  · have HF := Lib.hid e0
    clear e0
    go_wp2
    go_ret
    exact ⟨by simp [HF.out], HS.out⟩
  · have HF := Lib.hid e0
    clear e0
    go_wp2
    go_ret
    exact ⟨by simp [HF.out], HS.out⟩
  have E0 := Lib.hid e0
  clear e0
  go_wp2_with fail
  clear u0 v0
  rw [rounds_succ]
  rcases wi_cases a1 7 with ⟨e1, u1, v1⟩ | ⟨e1, u1⟩ | ⟨e1, u1, v1⟩
  rotate_left
  · have HF := Lib.hid e1
    clear e1
    go_wp2
    go_ret
    exact ⟨by simp [HF.out], HS.out⟩
  · have HF := Lib.hid e1
    clear e1
    go_wp2
    go_ret
    exact ⟨by simp [HF.out], HS.out⟩
  have E1 := Lib.hid e1
  clear e1
  go_wp2_with fail
  clear u1 v1
  rw [rounds_succ]
  rcases wi_cases a2 1073741824 with ⟨e2, u2, v2⟩ | ⟨e2, u2⟩ | ⟨e2, u2, v2⟩
  rotate_left
  · have HF := Lib.hid e2
    clear e2
    go_wp2
    go_ret
    exact ⟨by simp [HF.out], HS.out⟩
  · have HF := Lib.hid e2
    clear e2
    go_wp2
    go_ret
    exact ⟨by simp [HF.out], HS.out⟩
  have E2 := Lib.hid e2
  clear e2
  go_wp2_with fail
  clear u2 v2
  rw [rounds_succ]
  rcases wi_cases a3 1073741824 with ⟨e3, u3, v3⟩ | ⟨e3, u3⟩ | ⟨e3, u3, v3⟩
  rotate_left
  · have HF := Lib.hid e3
    clear e3
    go_wp2
    go_ret
    exact ⟨by simp [HF.out], HS.out⟩
  · have HF := Lib.hid e3
    clear e3
    go_wp2
    go_ret
    exact ⟨by simp [HF.out], HS.out⟩
  have E3 := Lib.hid e3
  clear e3
  go_wp2_with fail
  clear u3 v3
  rw [rounds_succ]
  go_wp2
  go_ret
  exact ⟨by simp [E0.out, E1.out, E2.out, E3.out], HS.out⟩
end Go.Proofs.Ytfpjmeknjhhakaa.K
