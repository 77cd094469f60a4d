/- The contract of frame.Scan. -/
import Derived.Test.YtfpjmeknjhhakaaFrRound
namespace Go.Proofs.Ytfpjmeknjhhakaa.K
open Go Go.RowKit Go.Shelf
attribute [local go_sem] Oper.semAt_some

/-- the body of the range in frame.Scan -/
def ScanPost (w : World) (l0 : List (BitVec 8)) (e : Ending) (W' : World) : Prop := ∃ (ps : List FR) (Fa : Option Addr) (cF u : Nat) (s : Bool), e = .returned (.tuple #[.slice Fa ps.length cF, .int .i64 (u : Int), .bool s]) ∧ F.scan l0 = (ps.map FR.fr, u, s) ∧ u ≤ l0.length ∧ ps.length * 9 ≤ u ∧ Bank w W' (frAcc Fa cF ps :: ps.reverse.map FR.acc)
theorem Bank.dropL {w0 w : World} {T L : List Acc} (h : Bank w0 w (T ++ L)) : Bank w0 w L := by
  induction T with
  | nil => exact h
  | cons p T ih => exact ih (Bank.drop h)
set_option maxHeartbeats 4000000 in
set_option maxRecDepth 100000 in
theorem scan_any (A : Option Addr) (n c : Nat) (l0 : List (BitVec 8)) (w : World) (hr : RowRd w ⟨A, n, c⟩ l0) (hn : n ≤ c) (hc : c ≤ 9223372036854775807) (hl0 : l0.length ≤ 100000000000) (hA : ∀ a, A = some a → a.block < w.heap.size) :
    Calls Try.prog 23 #[.slice A n c] w (ScanPost w l0) := by
  have HR := Lib.hid hr
  have hlen : l0.length = n := hr.len
  have HLEN := Lib.hid hlen
  clear hr hlen
  refine (callsIn_wide (n := 9)).1 (callsIn_of_wp_marks Try.func23 rfl trivial ?_ rfl)
  simp only [Try.ntmps23, List.size_toArray, List.length_cons, List.length_nil, Nat.reduceAdd, Nat.reduceSub, Array.replicate_succ, Array.replicate_zero, List.push_toArray, List.append_toArray, List.nil_append, List.cons_append]
  gi_wp2_with fail
  refine ⟨trivial, ?_⟩
  refine (callsIn_wide.2 (all_any _ _)).mono ?_
  rintro e w' ⟨rfl, rfl⟩
  gi_wp2_with fail
  have hB0 : Bank w (((w.alloc (.cells #[.slice none 0 0] 25)).alloc (.cells #[.slice A n c, .int .i64 0, .bool false] 124)).alloc (.cells #[.pointer (some ⟨w.heap.size + 1, 0, none⟩)] 120)) (backL (w.heap.size + 1 + 1) (w.heap.size + 1) w.heap.size A n c 0 false none 0 []) := by
    have h1 := (Bank.nil (Below.refl w.heap.size w)).none 36 2
    have h2 := h1.box #[.slice none 0 0] 25 (by simp)
    have h3 := h2.box #[.slice A n c, .int .i64 0, .bool false] 124 (by simp)
    have h4 := h3.box #[.pointer (some ⟨w.heap.size + 1, 0, none⟩)] 120 (by simp)
    simp only [World.size_alloc] at h3 h4
    exact h4
  have hL0 : LeftAt w l0 A n c 0 [] := ⟨HR.out, hn, hc, by rw [HLEN.out]; omega, by simp, hA, by simp⟩
  have HB0 := Lib.hid hB0; have HL0 := Lib.hid hL0
  clear hB0 hL0
  generalize ((w.alloc (.cells #[.slice none 0 0] 25)).alloc (.cells #[.slice A n c, .int .i64 0, .bool false] 124)).alloc (.cells #[.pointer (some ⟨w.heap.size + 1, 0, none⟩)] 120) = W0 at *
  refine wp_scan_range w l0 (w.heap.size + 1 + 1) (w.heap.size + 1) w.heap.size A n c hl0 rfl HB0.out HL0.out ?round ?done
  case round =>
    intro rec Lr Dd T ps p W hok h
    obtain ⟨A1, n1, c1, u, Fa, cF, hB, hL, h1, h2, h3, h4⟩ := h
    have hps : ps.length * 9 ≤ 100000000000 := by have h5 := hL.few; have h6 := hL.un; rw [List.length_append] at h5; omega
    have hB1 := hB.box #[.int .i64 p.k, .slice p.x.A p.x.n p.x.c] 36 (by simp)
    have h1' := heap_alloc_keep (.cells #[.int .i64 p.k, .slice p.x.A p.x.n p.x.c] 36) h1
    have h2' := heap_alloc_keep (.cells #[.int .i64 p.k, .slice p.x.A p.x.n p.x.c] 36) h2
    have hlt := (Array.getElem?_eq_some_iff.1 h1').1
    have B2 := Lib.hid (show Bank w _ ((boxAcc W.heap.size 36 [.int .i64 p.k, .slice p.x.A p.x.n p.x.c] :: p.acc :: T) ++ backL (w.heap.size + 1 + 1) (w.heap.size + 1) w.heap.size A1 n1 c1 u false Fa cF ps) from hB1.putLoop (.loop { rec .ready none with state := .busy }) h3 h1' rfl)
    have L2 := Lib.hid (World.putObj_heap_same (o := .loop { rec .ready none with state := .busy }) hlt)
    have D2 := Lib.hid ((World.putObj_heap_other (o := .loop { rec .ready none with state := .busy }) (show Dd ≠ Lr from fun e => by subst e; rw [h1'] at h2'; cases h2')).trans h2')
    have HBR := Lib.hid (run_beginRound (P := Try.prog) h1' (hok.1 _ _))
    have HL := Lib.hid hL; have HOK := Lib.hid hok
    clear hB hB1 h1 h2 h1' h2' hlt hL hok
    gi_wp2_with fail
    refine ⟨_, HBR.out, ?_⟩
    generalize (W.alloc (.cells #[.int .i64 p.k, .slice p.x.A p.x.n p.x.c] 36)).putObj Lr (.loop { rec .ready none with state := .busy }) = W2 at *
    generalize W.heap.size = X at *
    have hTl : ∃ T', T' = (boxAcc X 36 [.int .i64 p.k, .slice p.x.A p.x.n p.x.c] :: p.acc :: T) := ⟨_, rfl⟩
    have x0 := B2.out.cell 0 rfl 0 rfl
    have x1 := B2.out.cell 0 rfl 1 rfl
    obtain ⟨T', hT'⟩ := hTl
    have HT' := Lib.hid hT'
    have B2' := Lib.hid (show Bank w W2 (T' ++ backL (w.heap.size + 1 + 1) (w.heap.size + 1) w.heap.size A1 n1 c1 u false Fa cF ps) by rw [hT']; exact B2.out)
    clear hT' B2 HBR
    have cb := B2'.out.cell (T'.length + 2) (by rw [back_at]; rfl) 0 rfl
    gi_wp2_with (gi_at_builtin; refine wpListIn_append_bankG (B2'.out.alloc _) rfl _ _ 25 rfl 36 _ 2 32 infoFrame Try.underlying25 rfl (by decide) (T'.length + 3) _ _ _ (ps.flatMap FR.cells) rfl (by rw [back_at]; rfl) ⟨W2.heap.size, 0, none⟩ 1 1 [.int .i64 p.k, .slice p.x.A p.x.n p.x.c] rfl rfl (cells_lit2 _ _ _ _) (by intro v hv; simp at hv; rcases hv with rfl | rfl <;> rfl) (by unfold maxLen; omega) (by omega) ?_; intro A3 n3 c3 w3 hn3 hB3 hg3; rw [back_set] at hB3; have HN3 := Lib.hid hn3; have HB3 := Lib.hid hB3; have HG3 := Lib.hid hg3; have cb3 := hB3.cell (T'.length + 2) (by rw [back_at]; rfl) 0 rfl; have fb3 := hB3.free (T'.length + 2) (by rw [back_at]; rfl) 0; clear hn3 hB3 hg3 cb x0 x1)
    have hl2 := L2.out
    have hd2 := D2.out
    have hne : ∀ {o : Obj}, o.isCells = false → ∀ l, (W2.alloc (.cells #[.int .i64 p.k, .slice p.x.A p.x.n p.x.c] 36)).heap[l]? = some o → (Value.slice Fa ps.length cF).ownBlock ≠ some l := fun {o} ho l hl e => by
      rcases (((B2'.out.alloc (.cells #[.int .i64 p.k, .slice p.x.A p.x.n p.x.c] 36)).at (T'.length + 3) (p := frAcc Fa cF ps) (by rw [back_at]; rfl))).2 with ⟨h0, _⟩ | ⟨g, cap, cur, hv, _, hg, _⟩
      · have h0' : Value.slice Fa ps.length cF = .slice none 0 0 := h0
        rw [h0'] at e; cases e
      · have hv' : Value.slice Fa ps.length cF = .slice (some ⟨g, 0, none⟩) ps.length cap := hv
        rw [hv'] at e
        have e2 : g = l := by simpa [Value.ownBlock] using e
        subst e2
        rw [hg] at hl
        cases hl
        simp [Obj.isCells] at ho
    have hl3 := heap_alloc_keep (.cells #[.int .i64 p.k, .slice p.x.A p.x.n p.x.c] 36) hl2
    have hd3 := heap_alloc_keep (.cells #[.int .i64 p.k, .slice p.x.A p.x.n p.x.c] 36) hd2
    have hl4 := (HG3.out.block Lr (Array.getElem?_eq_some_iff.1 hl3).1 (fun e => hne rfl _ hl3 e.symm)).trans hl3
    have hd4 := (HG3.out.block Dd (Array.getElem?_eq_some_iff.1 hd3).1 (fun e => hne rfl _ hd3 e.symm)).trans hd3
    have hbf := (HB3.out.boxAt (T'.length + 2) (by rw [back_at]; rfl)).2
    have hl5 := heap_set_keep (j := 0) (v := .slice A3 n3 c3) hl4 ⟨_, _, _, hbf⟩ rfl
    have hd5 := heap_set_keep (j := 0) (v := .slice A3 n3 c3) hd4 ⟨_, _, _, hbf⟩ rfl
    refine ⟨_, _, run_endRound none hl5, rfl, ?_⟩
    have hB4 := HB3.out.boxSet (T'.length + 2) (by rw [back_at]; rfl) 0 (.slice A3 n3 c3)
    rw [back_set] at hB4
    have hB5 := hB4.putLoop (.loop { { rec .ready none with state := .busy } with state := if (none : Option Code).isNone then .ready else .done, pending := none }) h3 hl5 rfl
    have hn3 := HN3.out
    subst hn3
    have hB6 := hB5
    rw [HT'.out] at hB6
    have hB7 := (Bank.drop hB6).perm (perm_told _ _ _ _ _ _ _)
    refine ⟨A1, n1, c1, u, A3, c3, ?_, HL.out, ?_, ?_, h3, h4⟩
    · rw [show backL (w.heap.size + 1 + 1) (w.heap.size + 1) w.heap.size A1 n1 c1 u false A3 c3 (ps ++ [p]) = boxAcc (w.heap.size + 1 + 1) 120 [.pointer (some ⟨w.heap.size + 1, 0, none⟩)] :: boxAcc (w.heap.size + 1) 124 (scanL A1 n1 c1 u false) :: boxAcc w.heap.size 25 [.slice A3 (ps.length + 1) c3] :: ⟨.slice A3 (ps.length + 1) c3, ps.length + 1, 36, 2, ps.flatMap FR.cells ++ [.int .i64 p.k, .slice p.x.A p.x.n p.x.c]⟩ :: p.acc :: ps.reverse.map FR.acc by
        simp [backL, frAcc, FR.cells, Rw.v]]
      exact hB7
    · have := World.putObj_heap_same (o := .loop { { rec .ready none with state := .busy } with state := if (none : Option Code).isNone then .ready else .done, pending := none }) (Array.getElem?_eq_some_iff.1 hl5).1
      rw [this]
      exact congrArg (fun r => some (Obj.loop r)) HOK.out.2.2
    · exact (World.putObj_heap_other (fun e => by subst e; rw [hl5] at hd5; cases hd5)).trans hd5
  case done =>
    intro Dd T ps A1 n1 c1 u s Fa cF W hB hsc hu h9 hk hk0
    have cb := hB.cell (T.length + 2) (by rw [back_at]; rfl) 0 rfl
    have fb := hB.free (T.length + 2) (by rw [back_at]; rfl) 0
    have s1 := hB.cell (T.length + 1) (by rw [back_at]; rfl) 1 rfl
    have s2 := hB.cell (T.length + 1) (by rw [back_at]; rfl) 2 rfl
    have hB0x := hB
    have HB := Lib.hid hB; have HSC := Lib.hid hsc; have HK := Lib.hid hk
    clear hB hsc hk
    gi_wp2_with fail
    have hbx := (hB0x.boxAt (T.length + 2) (by rw [back_at]; rfl)).2
    have HK5 := Lib.hid (show (World.drew (W.setCell ⟨w.heap.size, 0, none⟩ (.slice Fa ps.length cF))).heap[Dd]? = some (.deferred (some [])) from heap_set_keep (j := 0) (v := .slice Fa ps.length cF) HK.out ⟨_, _, _, hbx⟩ rfl)
    have HB5 := Lib.hid (Bank.drew (HB.out.boxSet (T.length + 2) (by rw [back_at]; rfl) 0 (.slice Fa ps.length cF)))
    have HB6 := Lib.hid (HB5.out.putLoop (.deferred none) hk0 HK5.out rfl)
    have hfin : ∃ T', (T ++ backL (w.heap.size + 1 + 1) (w.heap.size + 1) w.heap.size A1 n1 c1 u s Fa cF ps).set (T.length + 2) (boxAcc w.heap.size 25 ([Value.slice Fa ps.length cF].set 0 (.slice Fa ps.length cF))) = T' := ⟨_, rfl⟩
    clear hfin hbx
    have HB7 := Lib.hid (HB6.out.cell (T.length + 2) (by rw [back_set, back_at]; rfl) 0 rfl)
    have HP := Lib.hid (show ScanPost w l0 (.returned (.tuple #[.slice Fa ps.length cF, .int .i64 (u : Int), .bool s])) ((World.drew (W.setCell ⟨w.heap.size, 0, none⟩ (.slice Fa ps.length cF))).putObj Dd (.deferred none)) from by
      refine ⟨ps, Fa, cF, u, s, rfl, HSC.out, hu, h9, ?_⟩
      have h := HB6.out
      rw [back_set] at h
      have h2 := h.perm (L' := T ++ [boxAcc (w.heap.size + 1 + 1) 120 [.pointer (some ⟨w.heap.size + 1, 0, none⟩)], boxAcc (w.heap.size + 1) 124 (scanL A1 n1 c1 u s), boxAcc w.heap.size 25 [.slice Fa ps.length cF]] ++ (frAcc Fa cF ps :: ps.reverse.map FR.acc)) (by simp [backL])
      exact h2.dropL)
    refine wpIn_wide.2 ?_
    refine wp_region_noPanic ?_
    go_region_law (fail)
    all_goals refine NoPanic.normal ?_
    all_goals
      gi_wp2_with fail
      refine ⟨by simp, .inl ⟨_, _, rfl, run_takeDeferred HK5.out, ?_⟩⟩
      refine ⟨.tuple #[.slice Fa ps.length cF, .int .i64 (u : Int), .bool s], ?_, HP.out⟩
      have hc5 := HB7.out
      simp [results, Try.results23, go_sem, hc5]
end Go.Proofs.Ytfpjmeknjhhakaa.K
