/- The contract of disk's Crash. -/
import Derived.Test.YtfpjmeknjhhakaaSqDskApp
import Derived.Test.YtfpjmeknjhhakaaSq8
namespace Go.Proofs.Ytfpjmeknjhhakaa.K
open Go Go.RowKit Go.Maps

/-- how much of the file stands behind a crash -/
def crashAt (safe keep n : Nat) : Nat := safe + min keep (n - safe)
set_option maxHeartbeats 1000000 in
set_option maxRecDepth 100000 in
theorem crash_none (w0 w : World) (D R : Nat) (room : Int) (L : List Acc) (k : Int) (h : Dk w0 w D R room none L) :
    Calls Try.prog 52 #[.pointer (some ⟨D, 0, none⟩), .int .i64 k] w fun e w' => e = .returned (.int .i64 0) ∧ Dk w0 w' D R room none L := by
  have c0 := h.c0
  have HKN := Lib.hid (known_any D R room w h.disk)
  have ht := Try.underlying129
  have r1 := range_one (P := Try.prog) ht h.one
  have hs : Since w (w.alloc (.mapIter (some R) 0 #[] 0)) := Since.alloc (Below.refl _ _) _
  have n1 := next_none (P := Try.prog) (ty := 0) (heap_alloc_new w (.mapIter (some R) 0 #[] 0)) (h.one.eq (hs.block R h.lt.2))
  have HS := Lib.hid (h.call hs)
  clear h ht hs
  simp only [Option.map_none, oneClock] at r1
  go_enter Try.func52, Try.ntmps52
  go_wp2_with (go_at_call 53; refine HKN.out.mono ?_; rintro e w' ⟨rfl, rfl⟩)
  refine wp_loop_rounds 1 ?_
  rw [rounds_succ]
  go_wp2
  go_ret
  exact ⟨rfl, HS.out⟩
set_option maxHeartbeats 4000000 in
set_option maxRecDepth 100000 in
theorem crash_at (w0 w : World) (D R : Nat) (room : Int) (f : Fil) (L : List Acc) (k q : Nat) (hq : q = crashAt f.safe k f.n) (h : Dk w0 w D R room (some f) L) (hs : f.safe ≤ f.n) (hn : f.n ≤ 100000000) (hk : k ≤ 100000000) :
    Calls Try.prog 52 #[.pointer (some ⟨D, 0, none⟩), .int .i64 (k : Int)] w fun e w' => e = .returned (.int .i64 0) ∧ ∃ A c, Dk w0 w' D R room (some ⟨f.g, A, q, c, f.bs.take q, q⟩) L := by
  have c0 := h.c0
  have HKN := Lib.hid (known_any D R room w h.disk)
  have ht := Try.underlying129
  have r1 := range_one (P := Try.prog) ht h.one
  have hs' : ∀ o, Since w (w.alloc o) := fun o => Since.alloc (Below.refl _ _) o
  have hone : ∀ o, IsOne (w.alloc o) R storeS (some f.ptr) := fun o => h.one.eq ((hs' o).block R h.lt.2)
  have n1 := next_one (P := Try.prog) (ty := 0) (heap_alloc_new w (.mapIter (some R) 1 #[] 1)) (hone _)
  have e1 := entry_one (P := Try.prog) (heap_alloc_new w (.mapIter (some R) 1 #[0] 1)) (hone _)
  rw [setBlock_allocQ] at n1
  have H1 := Lib.hid (h.call (hs' (.mapIter (some R) 1 #[0] 1)))
  have hit : (w.alloc (.mapIter (some R) 1 #[0] 1)).heap[w.heap.size]? = some (.mapIter (some R) 1 #[0] 1) := heap_alloc_new w _
  have HIT := Lib.hid hit
  have hne : f.g ≠ w.heap.size := fun e => by have h1 := (h.side.bank.lt (p := f.box) (b := f.g) (.tail _ (.head _)) rfl).2; omega
  have HNE := Lib.hid hne
  simp only [Option.map_some, oneClock] at r1
  unfold Fil.ptr at n1 e1
  clear h ht hs' hone hit hne
  go_enter Try.func52, Try.ntmps52
  go_wp2_with (go_at_call 53; refine HKN.out.mono ?_; rintro e w' ⟨rfl, rfl⟩)
  refine wp_loop_rounds 2 ?_
  rw [rounds_succ]
  go_wp2_with fail
  clear r1 n1 e1 c0 HKN
  generalize w.alloc (.mapIter (some R) 1 #[0] 1) = w1 at *
  generalize w.heap.size = X at *
  have hD := H1.out.drew
  have f0 := hD.f0
  have f1 := hD.f1
  have k0 : ¬ (k : Int) < 0 := by omega
  have hw1 : IntKind.i64.wrap ((f.n : Int) - (f.safe : Int)) = (f.n : Int) - (f.safe : Int) := IntWalk.i64_in _ (by omega)
  have hqn : q ≤ f.n := by rw [hq]; unfold crashAt; omega
  have hx : (∃ x : Int, (f.n : Int) - (f.safe : Int) < (k : Int) ∧ ¬ (k : Int) < (f.n : Int) - (f.safe : Int) ∧ x = (f.n : Int) - (f.safe : Int) ∧ IntKind.i64.wrap ((f.safe : Int) + ((f.n : Int) - (f.safe : Int))) = (q : Int)) ∨ (¬ (f.n : Int) - (f.safe : Int) < (k : Int) ∧ (k : Int) ≤ (f.n : Int) - (f.safe : Int) ∧ IntKind.i64.wrap ((f.safe : Int) + (k : Int)) = (q : Int)) := by
    rcases Nat.lt_or_ge (f.n - f.safe) k with h1 | h1
    · refine .inl ⟨_, by omega, by omega, rfl, ?_⟩
      rw [IntWalk.i64_in _ (by omega), hq]; unfold crashAt; omega
    · refine .inr ⟨by omega, by omega, ?_⟩
      rw [IntWalk.i64_in _ (by omega), hq]; unfold crashAt; omega
  have HQ := Lib.hid hq
  clear hq
  have HD := Lib.hid hD
  clear hD
  rcases hx with ⟨x, i1, i2, hx, hw2⟩ | ⟨i1, i2, hw2⟩
  all_goals
    refine WL.region (SApp 19 (fun w' => w'.cell? ⟨f.g, 0, none⟩ = some (.slice f.A f.n f.c) ∧ w'.cell? ⟨f.g, 1, none⟩ = some (.int .i64 (f.safe : Int))) (fun _ => True)) (by kernel_rfl) ?_
    try clear hx
    intro hsh
    have hS : SApp 19 (fun w' => w'.cell? ⟨f.g, 0, none⟩ = some (.slice f.A f.n f.c) ∧ w'.cell? ⟨f.g, 1, none⟩ = some (.int .i64 (f.safe : Int))) (fun _ => True) (Array.replicate 20 false) w1.drew := ⟨fun _ => ⟨f0, f1⟩, trivial⟩
    clear f0 f1
    refine WL.take (i := 0) (v := ?_) (S0 := fun _ => True) rfl (by kernel_rfl) (by kernel_rfl) (by kernel_rfl) (fun _ _ _ h => h) (SApp.hm (by decide)) (SApp.any) hsh (Or.inl ⟨by rfl, ?_⟩) hS ?_
    rotate_left
    · intro w hSw; clear hSw; go_simp <;> rfl
    clear hsh hS; intro hsh hS
    try simp only [Act.put, List.setIfInBounds_toArray, List.set_cons_zero, List.set_cons_succ]
    refine WL.take (i := 1) (v := ?_) (S0 := fun _ => True) rfl (by kernel_rfl) (by kernel_rfl) (by kernel_rfl) (fun _ _ _ h => h) (SApp.hm (by decide)) (SApp.any) hsh (Or.inl ⟨by rfl, ?_⟩) hS ?_
    rotate_left
    · intro w hSw; clear hSw; go_simp <;> rfl
    clear hsh hS; intro hsh hS
    try simp only [Act.put, List.setIfInBounds_toArray, List.set_cons_zero, List.set_cons_succ]
    refine WL.take (i := 2) (v := ?_) (S0 := fun _ => True) rfl (by kernel_rfl) (by kernel_rfl) (by kernel_rfl) (fun _ _ _ h => h) (SApp.hm (by decide)) (SApp.any) hsh (Or.inl ⟨by rfl, ?_⟩) hS ?_
    rotate_left
    · intro w hSw; clear hSw; go_simp <;> rfl
    clear hsh hS; intro hsh hS
    try simp only [Act.put, List.setIfInBounds_toArray, List.set_cons_zero, List.set_cons_succ]
    refine WL.take (i := 3) (v := ?_) (S0 := fun _ => True) rfl (by kernel_rfl) (by kernel_rfl) (by kernel_rfl) (fun _ _ _ h => h) (SApp.hm (by decide)) (SApp.any) hsh (Or.inl ⟨by rfl, ?_⟩) hS ?_
    rotate_left
    · intro w hSw; clear hSw; go_simp <;> rfl
    clear hsh hS; intro hsh hS
    try simp only [Act.put, List.setIfInBounds_toArray, List.set_cons_zero, List.set_cons_succ]
    refine WL.take (i := 4) (v := ?_) rfl (by kernel_rfl) (by kernel_rfl) (by kernel_rfl) (fun _ _ _ h => h) (SApp.hm (by decide)) (SApp.far [18, 4] (by kernel_rfl) rfl) hsh (Or.inl ⟨by rfl, ?_⟩) hS ?_
    rotate_left
    · intro w hSw; (have hc := hSw.1); clear hSw; go_simp <;> rfl
    clear hsh hS; intro hsh hS
    try simp only [Act.put, List.setIfInBounds_toArray, List.set_cons_zero, List.set_cons_succ]
    refine WL.take (i := 5) (v := ?_) (S0 := fun _ => True) rfl (by kernel_rfl) (by kernel_rfl) (by kernel_rfl) (fun _ _ _ h => h) (SApp.hm (by decide)) (SApp.any) hsh (Or.inl ⟨by rfl, ?_⟩) hS ?_
    rotate_left
    · intro w hSw; clear hSw; go_simp <;> rfl
    clear hsh hS; intro hsh hS
    try simp only [Act.put, List.setIfInBounds_toArray, List.set_cons_zero, List.set_cons_succ]
    refine WL.take (i := 6) (v := ?_) (S0 := fun _ => True) rfl (by kernel_rfl) (by kernel_rfl) (by kernel_rfl) (fun _ _ _ h => h) (SApp.hm (by decide)) (SApp.any) hsh (Or.inl ⟨by rfl, ?_⟩) hS ?_
    rotate_left
    · intro w hSw; clear hSw; go_simp <;> rfl
    clear hsh hS; intro hsh hS
    try simp only [Act.put, List.setIfInBounds_toArray, List.set_cons_zero, List.set_cons_succ]
    refine WL.take (i := 7) (v := ?_) (S0 := fun _ => True) rfl (by kernel_rfl) (by kernel_rfl) (by kernel_rfl) (fun _ _ _ h => h) (SApp.hm (by decide)) (SApp.any) hsh (Or.inl ⟨by rfl, ?_⟩) hS ?_
    rotate_left
    · intro w hSw; clear hSw; go_simp <;> rfl
    clear hsh hS; intro hsh hS
    try simp only [Act.put, List.setIfInBounds_toArray, List.set_cons_zero, List.set_cons_succ]
    refine WL.take (i := 8) (v := ?_) (S0 := fun _ => True) rfl (by kernel_rfl) (by kernel_rfl) (by kernel_rfl) (fun _ _ _ h => h) (SApp.hm (by decide)) (SApp.any) hsh (Or.inl ⟨by rfl, ?_⟩) hS ?_
    rotate_left
    · intro w hSw; clear hSw; go_simp <;> rfl
    clear hsh hS; intro hsh hS
    try simp only [Act.put, List.setIfInBounds_toArray, List.set_cons_zero, List.set_cons_succ]
    refine WL.take (i := 9) (v := ?_) (S0 := fun _ => True) rfl (by kernel_rfl) (by kernel_rfl) (by kernel_rfl) (fun _ _ _ h => h) (SApp.hm (by decide)) (SApp.any) hsh (Or.inl ⟨by rfl, ?_⟩) hS ?_
    rotate_left
    · intro w hSw; clear hSw; go_simp <;> rfl
    clear hsh hS; intro hsh hS
    try simp only [Act.put, List.setIfInBounds_toArray, List.set_cons_zero, List.set_cons_succ]
    refine WL.take (i := 10) (v := ?_) rfl (by kernel_rfl) (by kernel_rfl) (by kernel_rfl) (fun _ _ _ h => h) (SApp.hm (by decide)) (SApp.far [18, 17, 16, 11, 10] (by kernel_rfl) rfl) hsh (Or.inl ⟨by rfl, ?_⟩) hS ?_
    rotate_left
    · intro w hSw; (have hc := hSw.1); clear hSw; go_simp <;> rfl
    clear hsh hS; intro hsh hS
    try simp only [Act.put, List.setIfInBounds_toArray, List.set_cons_zero, List.set_cons_succ]
    refine WL.take (i := 11) (v := ?_) (S0 := fun _ => True) rfl (by kernel_rfl) (by kernel_rfl) (by kernel_rfl) (fun _ _ _ h => h) (SApp.hm (by decide)) (SApp.any) hsh (Or.inl ⟨by rfl, ?_⟩) hS ?_
    rotate_left
    · intro w hSw; clear hSw; go_simp <;> rfl
    clear hsh hS; intro hsh hS
    try simp only [Act.put, List.setIfInBounds_toArray, List.set_cons_zero, List.set_cons_succ]
    refine WL.take (i := 12) (v := ?_) (S0 := fun _ => True) rfl (by kernel_rfl) (by kernel_rfl) (by kernel_rfl) (fun _ _ _ h => h) (SApp.hm (by decide)) (SApp.any) hsh (Or.inl ⟨by rfl, ?_⟩) hS ?_
    rotate_left
    · intro w hSw; clear hSw; go_simp <;> rfl
    clear hsh hS; intro hsh hS
    try simp only [Act.put, List.setIfInBounds_toArray, List.set_cons_zero, List.set_cons_succ]
    refine WL.take (i := 13) (v := ?_) (S0 := fun _ => True) rfl (by kernel_rfl) (by kernel_rfl) (by kernel_rfl) (fun _ _ _ h => h) (SApp.hm (by decide)) (SApp.any) hsh (Or.inl ⟨by rfl, ?_⟩) hS ?_
    rotate_left
    · intro w hSw; clear hSw; go_simp <;> rfl
    clear hsh hS; intro hsh hS
    try simp only [Act.put, List.setIfInBounds_toArray, List.set_cons_zero, List.set_cons_succ]
    refine WL.take (i := 14) (v := ?_) (S0 := fun _ => True) rfl (by kernel_rfl) (by kernel_rfl) (by kernel_rfl) (fun _ _ _ h => h) (SApp.hm (by decide)) (SApp.any) hsh (Or.inl ⟨by rfl, ?_⟩) hS ?_
    rotate_left
    · intro w hSw; clear hSw; go_simp <;> rfl
    clear hsh hS; intro hsh hS
    try simp only [Act.put, List.setIfInBounds_toArray, List.set_cons_zero, List.set_cons_succ]
    refine WL.take (i := 15) (v := ?_) rfl (by kernel_rfl) (by kernel_rfl) (by kernel_rfl) (fun _ _ _ h => h) (SApp.hm (by decide)) (SApp.far [18, 17, 16, 15] (by kernel_rfl) rfl) hsh (Or.inl ⟨by rfl, ?_⟩) hS ?_
    rotate_left
    · intro w hSw; (have hc := hSw.1); clear hSw; go_simp <;> rfl
    clear hsh hS; intro hsh hS
    try simp only [Act.put, List.setIfInBounds_toArray, List.set_cons_zero, List.set_cons_succ]
    refine WL.take (i := 16) (v := ?_) (S0 := fun _ => True) rfl (by kernel_rfl) (by kernel_rfl) (by kernel_rfl) (fun _ _ _ h => h) (SApp.hm (by decide)) (SApp.any) hsh (Or.inl ⟨by rfl, ?_⟩) hS ?_
    rotate_left
    · intro w hSw; clear hSw; go_simp <;> rfl
    clear hsh hS; intro hsh hS
    try simp only [Act.put, List.setIfInBounds_toArray, List.set_cons_zero, List.set_cons_succ]
    refine WL.take (i := 17) (v := ?_) (S0 := fun _ => True) rfl (by kernel_rfl) (by kernel_rfl) (by kernel_rfl) (fun _ _ _ h => h) (SApp.hm (by decide)) (SApp.any) hsh (Or.inl ⟨by rfl, ?_⟩) hS ?_
    rotate_left
    · intro w hSw; clear hSw; go_simp <;> rfl
    clear hsh hS; intro hsh hS
    try simp only [Act.put, List.setIfInBounds_toArray, List.set_cons_zero, List.set_cons_succ]
    refine WL.take (i := 18) (v := ?_) (S0 := fun _ => True) rfl (by kernel_rfl) (by kernel_rfl) (by kernel_rfl) (fun _ _ _ h => h) (SApp.hm (by decide)) (SApp.any) hsh (Or.inl ⟨by rfl, ?_⟩) hS ?_
    rotate_left
    · intro w hSw; clear hSw; go_simp <;> rfl
    clear hsh hS; intro hsh hS
    try simp only [Act.put, List.setIfInBounds_toArray, List.set_cons_zero, List.set_cons_succ]
    have HSH := Lib.hid hsh
    clear hsh hS
    refine WL.one (i := 19) HSH.out (by kernel_rfl) rfl ?_
    intro K hK
    have HKK := Lib.hid hK
    clear hK
    go_simp
    refine (cutG_any w0 _ D R room f L HD.out q hqn hn).mono ?_
    rintro e w2 ⟨rfl, A, c, hz, hg⟩
    refine HKK.out _ _ (SApp.intro (fun h => (by cases h)) trivial) ?_
    intro _ _
    refine WL.done (by kernel_rfl) ?_ _
    have hit2 : w2.heap[X]? = some (.mapIter (some R) 1 #[0] 1) := (hg.block X (Array.getElem?_eq_some_iff.1 HIT.out).1 (fun e => HNE.out (by simpa using e.symm))).trans HIT.out
    have n2 := next_over (P := Try.prog) (ty := 0) hit2 hz.one
    have HZ := Lib.hid hz
    clear hz hg hit2 HKK K
    simp only [Exit.then, Exit.inBlock]
    rw [rounds_succ]
    go_wp2
    go_ret
    exact ⟨rfl, A, c, HZ.out⟩
end Go.Proofs.Ytfpjmeknjhhakaa.K
