/- One round of frame.Scan's range over a function. -/
import Derived.Test.YtfpjmeknjhhakaaFrAll
namespace Go.Proofs.Ytfpjmeknjhhakaa.K
open Go Go.RowKit Go.Shelf
attribute [local go_sem] Oper.semAt_some

theorem wpListIn_append_bankG {F : Fence} {nn : Nat} {P : Program} {w0 w : World} {L : List Acc} {ops : Array Oper} {rest : List Oper} {o : Oper} {a : Act} {Q : Exit → Act → World → Prop} (h : Bank w0 w L) (hgd : o.guard = Option.none) (s y : Operand) (t : TypeId)
    (ho : o.op = .call { callee := .builtin .append, args := #[s, y], argTypes := #[t, t] })
    (e : TypeId) (z : Value) (size bytes : Nat) (hz : (P.info? e).map (fun i => (i.zero, i.size, i.bytes)) = some (some z, size, bytes)) (ht : P.underlying t = some (.slice e)) (hzs : z.cells.size = size) (hsz : 0 < size)
    (k : Nat) (A : Option Addr) (n cap : Nat) (xs : List Value) (hs : a.eval s = .slice A n cap) (hk : L[k]? = some ⟨.slice A n cap, n, e, size, xs⟩)
    (ad : Addr) (m c : Nat) (news : List Value) (hx : a.eval y = .slice (some ad) m c) (hl : news.length = m * size) (hnews : ∀ j u, news[j]? = some u → w.cell? (ad.add j) = some u) (h1 : ∀ u ∈ news, u.oneCell' = true)
    (h63 : n + m ≤ maxLen) (hbytes : (n + m) * bytes ≤ 140737488355328)
    (hK : ∀ A' n' c' w', n' = n + m → Bank w0 w' (L.set k ⟨.slice A' n' c', n', e, size, xs ++ news⟩) → w.grownBy w' (Value.slice A n cap).ownBlock → wpListIn F nn P ops Q rest (a.put o.dst (.slice A' n' c')) w') : wpListIn F nn P ops Q (o :: rest) a w := by
  obtain ⟨i0, hi, hz0, hz1, hz2⟩ := info_parts hz
  refine wpListIn_plain hgd fun K hK' => ?_
  obtain ⟨A', c', w', hr, h2, h3, h4⟩ := run_append_bankG (P := P) h t o.type e i0 z size bytes ht hi hz0 hz1 hz2 hzs hsz k A n cap xs hk ad m c news hl hnews h1 h63 hbytes
  unfold Oper.wpIn
  refine ⟨?_, ?_⟩
  · simp [Oper.about, ho, resolve, Target.leads, Sem.run_pure]
  · rw [Oper.semAt_plain F _ _ (by rw [ho]; intro c hc'; cases hc')]
    simp [execOp, ho, resolve, invoke, builtin, hs, hx, hr, Result.andThen]
    exact hK' _ _ (hK A' _ c' w' rfl h2 h3)
theorem infoFrame : (Try.prog.info? 36).map (fun i => (i.zero, i.size, i.bytes)) = some (some (.agg #[.int .i64 0, .slice none 0 0]), 2, 32) := by kernel_rfl
/-- a range over a function: the record, and the mark, are laid; the one call -/
theorem wp_rangeFunc_F {F : Fence} {nn : Nat} {P : Program} {g : Operand} {ps : Array Tmp} {assign body : Code} {Q : Exit → Act → World → Prop} {a : Act} {w : World} (hro : F.round = none) (h1 : F.depth.isSome = true → 1 ≤ nn) {gf : Nat} {lb : Array Value} (hg : a.eval g = .func (.func gf) #[] lb) (hFg : F.fn gf) (eg : ∀ args w, (callFunc gf args).run P w = .ok (.enter gf args) w)
    (h : ∀ fn, F.fn fn → CallsIn F (nn - 1) P gf (#[.func (.yield (w.heap.size + 1)) #[] #[]] ++ lb) ((w.alloc (.deferred (some []))).alloc (.loop { state := .ready, pending := none, fn, tmps := a.tmps, params := ps, assign, body, defers := w.heap.size }))
      (rangePost F nn P (w.heap.size + 1) Q { a with defers := [{ target := .collected w.heap.size, args := #[] }] ++ a.defers })) :
    (Code.rangeFunc g ps assign body).wpIn F nn P Q a w := by
  refine wpIn_rangeFunc ?_
  intro fn hfn
  rw [hro]
  have hh := h fn hfn
  obtain ⟨W1, hW1⟩ : ∃ W1, (w.alloc (.deferred (some []))).alloc (.loop { state := .ready, pending := none, fn, tmps := a.tmps, params := ps, assign, body, defers := w.heap.size }) = W1 := ⟨_, rfl⟩
  rw [hW1] at hh
  refine ⟨w.heap.size + 1, [{ target := .collected w.heap.size, args := #[] }], W1, { target := .fn (.func gf) lb, args := #[.func (.yield (w.heap.size + 1)) #[] #[]] }, W1, gf, #[.func (.yield (w.heap.size + 1)) #[] #[]] ++ lb, W1, ?_, ?_, ?_, ?_, h1, ?_⟩
  · rw [← hW1]; exact run_enterLoop_outer _ _ _ _ _
  · simp only [resolve, hg]
    simp [go_sem]
  · intro f' hf'; simp [Target.leads] at hf'; subst hf'; exact hFg
  · simp [invoke, go_sem, eg]
  · exact hh
section
variable {w0 : World} {l0 : List (BitVec 8)} {Bx S Bf Lr Dd : Nat} {T : List Acc} {ps : List FR} {p : FR} {W : World}
theorem perm_told (a b c d q : Acc) (T R : List Acc) : (q :: (T ++ a :: b :: c :: d :: R)).Perm (T ++ a :: b :: c :: d :: q :: R) := by
  have h1 : (q :: (T ++ a :: b :: c :: d :: R)) = q :: ((T ++ [a, b, c, d]) ++ R) := by simp
  have h2 : (T ++ a :: b :: c :: d :: q :: R) = (T ++ [a, b, c, d]) ++ q :: R := by simp
  rw [h1, h2]
  exact List.perm_middle.symm
end
theorem cells_lit2 (w : World) (a b : Value) (t : TypeId) : ∀ j u, [a, b][j]? = some u → (w.alloc (.cells #[a, b] t)).cell? ((⟨w.heap.size, 0, none⟩ : Addr).add j) = some u := by
  intro j u hu
  match j, hu with
  | 0, hu => simp at hu; subst hu; simp [Addr.add]
  | 1, hu => simp at hu; subst hu; simp [Addr.add]
/-- what a record is good for -/
def RecOk (rec : LoopState → Option Code → Loop) : Prop := (∀ st pe, (rec st pe).state = st) ∧ (∀ pe, (rec .ready pe).pending = pe) ∧ { { rec .ready none with state := .busy } with state := .ready, pending := none } = rec .ready none
/-- the range over the scan's iterator -/
theorem wp_scan_range {g : Operand} {assign body : Code} {Q : Exit → Act → World → Prop} {a : Act} {W0 : World} {tt : Tmp} (w : World) (l0 : List (BitVec 8)) (Bx S Bf : Nat) (A : Option Addr) (n c : Nat) (hl0 : l0.length ≤ 100000000000)
    (hg : a.eval g = .func (.func 104) #[] #[.pointer (some ⟨Bx, 0, none⟩)]) (hB0 : Bank w W0 (backL Bx S Bf A n c 0 false none 0 [])) (hL0 : LeftAt w l0 A n c 0 [])
    (hround : ∀ (rec : LoopState → Option Code → Loop) (Lr Dd : Nat) T ps p W, RecOk rec → SPend w l0 Bx S Bf Lr Dd rec T ps p W →
      assign.wpIn (Fence.wide.inRound Lr) 7 Try.prog (Exit.then (fun a₁ w₁ => ∃ w₂, (Instr.beginRound Lr).run Try.prog w₁ = .ok () w₂ ∧ body.wpIn (Fence.wide.inRound Lr) 7 Try.prog (roundPost Try.prog Lr (fun e W' => e = .returned (.bool true) ∧ SInv w l0 Bx S Bf Lr Dd rec T (ps ++ [p]) W')) a₁ w₂) (fun _ _ _ => False))
        { tmps := (#[tt].zip #[Value.agg #[.int .i64 p.k, .slice p.x.A p.x.n p.x.c]]).foldl (fun tmps (t, a) => tmps.setIfInBounds t a) a.tmps, defers := [] } W)
    (hdone : ∀ Dd T ps A n c u s Fa cF W, Bank w W (T ++ backL Bx S Bf A n c u s Fa cF ps) → F.scan l0 = (ps.map FR.fr, u, s) → u ≤ l0.length → ps.length * 9 ≤ u → W.heap[Dd]? = some (.deferred (some [])) → w.heap.size ≤ Dd → Q .normal { a with defers := [{ target := .collected Dd, args := #[] }] ++ a.defers } W) :
    (Code.rangeFunc g #[tt] assign body).wpIn Fence.wide 9 Try.prog Q a W0 := by
  refine wp_rangeFunc_F rfl (fun h => by simp [Fence.wide] at h) hg trivial (enters_of Try.func104 (by kernel_rfl) rfl) ?_
  intro fn hfn
  obtain ⟨rec, hrec⟩ : ∃ rec : LoopState → Option Code → Loop, rec = fun st pe => { state := st, pending := pe, fn, tmps := a.tmps, params := #[tt], assign, body, defers := W0.heap.size } := ⟨_, rfl⟩
  have hok : RecOk rec := by rw [hrec]; exact ⟨fun _ _ => rfl, fun _ => rfl, rfl⟩
  obtain ⟨W1, hW1⟩ : ∃ W1, (W0.alloc (.deferred (some []))).alloc (.loop (rec .ready none)) = W1 := ⟨_, rfl⟩
  have hL1 : W1.heap[W0.heap.size + 1]? = some (.loop (rec .ready none)) := by
    rw [← hW1]; have := World.alloc_heap_new (W0.alloc (.deferred (some []))) (.loop (rec .ready none)); rwa [World.size_alloc] at this
  have hK1 : W1.heap[W0.heap.size]? = some (.deferred (some [])) := by
    rw [← hW1]; exact (Below.heap_alloc _ _ _ (by simp)).trans (World.alloc_heap_new W0 _)
  have hB1 : Bank w W1 (backL Bx S Bf A n c 0 false none 0 []) := by rw [← hW1]; exact (hB0.alloc _).alloc _
  have hsz := hB0.since.size
  have h0 : SInv w l0 Bx S Bf (W0.heap.size + 1) W0.heap.size rec [] [] W1 := ⟨A, n, c, 0, none, 0, hB1, hL0, hL1, hK1, by omega, hsz⟩
  have hlit : (W0.alloc (.deferred (some []))).alloc (.loop { state := .ready, pending := none, fn, tmps := a.tmps, params := #[tt], assign, body, defers := W0.heap.size }) = W1 := by rw [← hW1, hrec]
  rw [hlit]
  refine (all1_in w l0 Bx S Bf (W0.heap.size + 1) W0.heap.size rec 8 hl0 ?_ W1 h0).mono ?_
  · intro T ps p W hP
    have hP' := hP
    obtain ⟨_, _, _, _, _, _, _, _, hl, _⟩ := hP
    have hy := run_yield (P := Try.prog) (args := #[Value.agg #[.int .i64 p.k, .slice p.x.A p.x.n p.x.c]]) hl (by rw [hrec]; rfl)
    have hrd := hround rec _ _ T ps p W hok hP'
    rw [hrec] at hy
    exact ⟨fn, _, assign, body, hy, roundIn_of_wpIn hfn hrd⟩
  · rintro e W2 ⟨⟨v, rfl⟩, T, ps, A', n', c', u, s, Fa, cF, hB, hsc, hu, h9, hl, hk, hl0', hk0'⟩
    have hrun := run_endLoop (P := Try.prog) hl (by rw [hok.1]; simp)
    rw [hok.2.1] at hrun
    refine ⟨none, _, hrun, ?_⟩
    refine hdone W0.heap.size T ps A' n' c' u s Fa cF _ (hB.putLoop _ hl0' hl rfl) hsc hu h9 ?_ hk0'
    exact (World.putObj_heap_other (by omega)).trans hk
end Go.Proofs.Ytfpjmeknjhhakaa.K
