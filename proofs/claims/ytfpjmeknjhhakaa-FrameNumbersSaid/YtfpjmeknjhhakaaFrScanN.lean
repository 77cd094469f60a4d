/- frame's scan.next, in what holds between two rounds. -/
import Derived.Test.YtfpjmeknjhhakaaFrScanS
namespace Go.Proofs.Ytfpjmeknjhhakaa.K
open Go Go.RowKit

/-- a frame is at hand -/
def SPend (w0 : World) (l0 : List (BitVec 8)) (Bx S Bf Lr Dd : Nat) (rec : LoopState → Option Code → Loop) (T : List Acc) (ps : List FR) (p : FR) (W : World) : Prop :=
  ∃ A n c u Fa cF, Bank w0 W (p.acc :: (T ++ backL Bx S Bf A n c u false Fa cF ps)) ∧ LeftAt w0 l0 A n c u (ps ++ [p]) ∧ W.heap[Lr]? = some (.loop (rec .ready none)) ∧ W.heap[Dd]? = some (.deferred (some [])) ∧ w0.heap.size ≤ Lr ∧ w0.heap.size ≤ Dd
def NextI (w0 : World) (l0 : List (BitVec 8)) (Bx S Bf Lr Dd : Nat) (rec : LoopState → Option Code → Loop) (T : List Acc) (ps : List FR) (e : Ending) (W' : World) : Prop :=
  (∃ p : FR, e = .returned (.tuple #[.agg #[.int .i64 p.k, .slice p.x.A p.x.n p.x.c], .bool true]) ∧ SPend w0 l0 Bx S Bf Lr Dd rec T ps p W') ∨
  (∃ kd D m d, e = .returned (.tuple #[.agg #[.int .i64 kd, .slice D m d], .bool false]) ∧ SEnd w0 l0 Bx S Bf Lr Dd rec T ps W')
theorem back_at {T : List Acc} {X : List Acc} (i : Nat) : (T ++ X)[T.length + i]? = X[i]? := by
  rw [List.getElem?_append_right (by omega), show T.length + i - T.length = i by omega]
theorem back_set {T : List Acc} {X : List Acc} (i : Nat) (y : Acc) : (T ++ X).set (T.length + i) y = T ++ X.set i y := by
  rw [List.set_append_right _ _ (by omega), show T.length + i - T.length = i by omega]
theorem next_inv (w0 : World) (l0 : List (BitVec 8)) (Bx S Bf Lr Dd : Nat) (rec : LoopState → Option Code → Loop) (T : List Acc) (ps : List FR) (W : World) (hl0 : l0.length ≤ 100000000000) (h : SInv w0 l0 Bx S Bf Lr Dd rec T ps W) :
    Calls Try.prog 105 #[.pointer (some ⟨S, 0, none⟩)] W (NextI w0 l0 Bx S Bf Lr Dd rec T ps) := by
  obtain ⟨A, n, c, u, Fa, cF, hB, hL, hLr, hDd, hLr0, hDd0⟩ := h
  have hSi : (T ++ backL Bx S Bf A n c u false Fa cF ps)[T.length + 1]? = some (boxAcc S 124 (scanL A n c u false)) := by rw [back_at]; rfl
  obtain ⟨hS0, hSg⟩ := hB.boxAt (T.length + 1) hSi
  have hne : ∀ a, A = some a → a.block ≠ S := fun a e e2 => by have := hL.lay a e; omega
  have hun := hL.un
  have hdrop : (l0.drop u).length = n := hL.row.len
  have hLS : ∀ {o : Obj}, o.isCells = false → ∀ l, W.heap[l]? = some o → l ≠ S := fun {o} ho l hl e => by
    subst e
    rw [hSg] at hl
    cases hl
    simp [Obj.isCells] at ho
  refine (next_any S A n c u (l0.drop u) W hSg (Since.row hB.since hL.row) hL.nc hL.c63 (by omega) hne).mono ?_
  rintro e W' (⟨s, kd, D, m, d, hf, rfl, hS', hg⟩ | ⟨f, A', D, m, d, hf, hm, rfl, ho, hS', hr', hA', hg⟩)
  · refine .inr ⟨kd, D, m, d, rfl, A, n, c, u, s, Fa, cF, ?_, ?_, by omega, hL.few, ?_, ?_, hLr0, hDd0⟩
    · have := hB.scanned (T.length + 1) hSi (vs' := scanL A n c u s) rfl (by simp [scanL]) hg hS'
      rw [back_set] at this
      exact this
    · rw [hL.eq, F.scan_none hf]; simp
    · exact (hg.block Lr (Array.getElem?_eq_some_iff.1 hLr).1 (by have := hLS (by rfl) _ hLr; simpa using this)).trans hLr
    · exact (hg.block Dd (Array.getElem?_eq_some_iff.1 hDd).1 (by have := hLS (by rfl) _ hDd; simpa using this)).trans hDd
  · have h1 := F.first_some hf
    rw [hdrop] at h1
    have hm2 : f.data.length = m := hm.symm
    rw [hm2] at h1
    have hB2 := hB.scanned (T.length + 1) hSi (vs' := scanL A' (n - (9 + m)) (c - (9 + m)) (u + (9 + m)) false) rfl (by simp [scanL]) hg hS'
    rw [back_set] at hB2
    have hlt : ∀ p ∈ T ++ (backL Bx S Bf A n c u false Fa cF ps).set 1 (boxAcc S 124 (scanL A' (n - (9 + m)) (c - (9 + m)) (u + (9 + m)) false)), ∀ b, p.v.ownBlock = some b → b < W.heap.size := by
      intro p hp b hb
      rcases List.mem_append.1 hp with hp | hp
      · exact (hB.lt (List.mem_append_left _ hp) hb).2
      · rcases List.mem_or_eq_of_mem_set hp with hp | hp
        · exact (hB.lt (List.mem_append_right _ hp) hb).2
        · subst hp
          have : S = b := by simpa [boxAcc, Value.ownBlock] using hb
          subst this
          exact (Array.getElem?_eq_some_iff.1 hSg).1
    have hB3 := hB2.fresh hlt hB.since.size ho
    refine .inl ⟨⟨f.kind, ⟨D, m, d⟩, f.data⟩, rfl, A', n - (9 + m), c - (9 + m), u + (9 + m), Fa, cF, hB3, ?_, ?_, ?_, hLr0, hDd0⟩
    · have hlay : ∀ a, A' = some a → a.block < w0.heap.size := fun a e => by
        obtain ⟨a0, e0, e1⟩ := hA' a e
        rw [← e1]; exact hL.lay a0 e0
      have hdd : (l0.drop u).drop (9 + m) = l0.drop (u + (9 + m)) := by rw [List.drop_drop]
      rw [hdd] at hr'
      refine ⟨⟨fun k hk => ?_, hr'.len, hr'.none⟩, ?_, ?_, ?_, ?_, hlay, ?_⟩
      · obtain ⟨b, o, e, hc⟩ := hr'.rd k hk
        have hb : b < w0.heap.size := hlay _ e
        refine ⟨b, o, e, ?_⟩
        have hbS : b ≠ S := by omega
        rw [← hc]
        have h2 := hB3.since.cell (p := ⟨b, o + k, none⟩) hb
        exact h2.symm
      · have := hL.nc; omega
      · have := hL.c63; omega
      · omega
      · have := hL.few; simp; omega
      · rw [hL.eq, F.scan_some hf, hm2, hdd]
        simp [FR.fr, Nat.add_assoc]
    · exact (hg.block Lr (Array.getElem?_eq_some_iff.1 hLr).1 (by have := hLS (by rfl) _ hLr; simpa using this)).trans hLr
    · exact (hg.block Dd (Array.getElem?_eq_some_iff.1 hDd).1 (by have := hLS (by rfl) _ hDd; simpa using this)).trans hDd
end Go.Proofs.Ytfpjmeknjhhakaa.K
