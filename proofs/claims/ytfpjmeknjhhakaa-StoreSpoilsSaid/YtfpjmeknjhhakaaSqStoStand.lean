/- The contract of store's stand. -/
import Derived.Test.YtfpjmeknjhhakaaSqSto
import Derived.Test.YtfpjmeknjhhakaaSq8
namespace Go.Proofs.Ytfpjmeknjhhakaa.K
open Go Go.RowKit Go.Maps

/-- an append onto a slice cut at its end: a new row -/
theorem step_append_grows {P : Program} {ops : Array Oper} {o : Oper} {a : Act} {w : World} {K : Act → World → Prop} {Q : Exit → Act → World → Prop} {E : Prop} (hgd : o.guard = Option.none) (s y : Operand) (t : TypeId)
    (ho : o.op = .call { callee := .builtin .append, args := #[s, y], argTypes := #[t, t] })
    (e : TypeId) (z : Value) (size bytes : Nat) (hz : (P.info? e).map (fun i => (i.zero, i.size, i.bytes)) = some (some z, size, bytes)) (ht : P.underlying t = some (.slice e)) (hzs : z.cells.size = size) (hsz : 0 < size)
    (ao : Option Addr) (k : Nat) (olds : List Value) (hs : a.eval s = .slice ao k k) (hnone : ao = Option.none → k = 0) (hlo : olds.length = k * size) (holds : ∀ b, ao = some b → ∀ j u, olds[j]? = some u → w.cell? (b.add j) = some u)
    (ad : Addr) (m c : Nat) (news : List Value) (hx : a.eval y = .slice (some ad) m c) (hl : news.length = m * size) (hnews : ∀ j u, news[j]? = some u → w.cell? (ad.add j) = some u) (h1 : ∀ u ∈ news, u.oneCell' = true)
    (hm : 0 < m) (h63 : k + m ≤ maxLen) (hbytes : (k + m) * bytes ≤ 140737488355328)
    (hK : ∀ A' n' c' w', n' = k + m → w'.ownsRow w.heap.size e size (.slice A' n' c') n' (olds ++ news) → Below w.heap.size w w' → K (a.put o.dst (.slice A' n' c')) w') :
    if Region.wanted o (yielded ops a.tmps) = true then Oper.wp P o a w K Q else E := by
  have hw : Region.wanted o (yielded ops a.tmps) = true := by simp [Region.wanted, hgd]
  rw [if_pos hw]
  obtain ⟨i0, hi, hz0, hz1, hz2⟩ := info_parts hz
  have key : ∃ v' w', (Builtin.append_ #[t, t] o.type #[.slice ao k k, .slice (some ad) m c]).run P w = .ok v' w' ∧ w'.ownsRow w.heap.size e size v' (k + m) (olds ++ news) ∧ w.grownBy w' Option.none := by
    cases ao with
    | some b => exact run_append_arg_grows (P := P) w t o.type e i0 z size bytes ht hi hz0 hz1 hz2 hzs hsz b k k olds hlo (holds b rfl) ad m c news hl hnews (by omega) h63 hbytes
    | none =>
      obtain rfl := hnone rfl
      obtain rfl : olds = [] := List.eq_nil_of_length_eq_zero (by simpa using hlo)
      obtain ⟨v', w', hrun, r1, r2, _⟩ := run_append_own (P := P) w w.heap.size t o.type e i0 z size bytes ht hi hz0 hz1 hz2 hzs hsz (.slice Option.none 0 0) 0 [] (World.ownsRow_nil w _ e size) ad m c news hl hnews h1 h63 hbytes (Nat.le_refl _)
      exact ⟨v', w', hrun, r1, r2⟩
  obtain ⟨v', w', hrun, r1, r2⟩ := key
  obtain ⟨A', c', rfl⟩ := row_slice r1
  unfold Oper.wp execOp
  simp only [ho, resolve, invoke, builtin, Sem.run_bind, Sem.run_pure, Result.andThen_ok, List.map_toArray, List.map_cons, List.map_nil, hs, hx, hrun]
  exact hK A' _ c' w' rfl r1 ⟨r2.os, r2.tape, r2.output, r2.size, fun k hk => r2.block k hk (by simp)⟩
theorem evs_len (xs : List EV) : (xs.flatMap EV.cells).length = xs.length * 6 := by
  induction xs with
  | nil => rfl
  | cons x xs ih => rw [List.flatMap_cons, List.length_append, ih, x.cells_length, List.length_cons]; omega
theorem evs_take (xs : List EV) (q j : Nat) (u : Value) (h : ((xs.take q).flatMap EV.cells)[j]? = some u) : (xs.flatMap EV.cells)[j]? = some u := by
  have h1 := (List.getElem?_eq_some_iff.1 h).1
  rw [show xs.flatMap EV.cells = (xs.take q).flatMap EV.cells ++ (xs.drop q).flatMap EV.cells by rw [← List.flatMap_append, List.take_append_drop], List.getElem?_append_left h1]
  exact h
/-- a slice cut at its end, for good -/
theorem run_cut3 {P : Program} {t e : TypeId} (ht : P.underlying t = some (.slice e)) {es : Nat} (hsz : ∀ w, (sizeOf e).run P w = .ok es w) {A : Option Addr} (hA : A = Option.none ∨ ∃ g, A = some ⟨g, 0, Option.none⟩) (n c q : Nat) (hq : q ≤ c) (w : World) :
    (Instr.slice t (.slice A n c) Option.none (some (.int .i64 (q : Int))) (some (.int .i64 (q : Int)))).run P w = .ok (.slice A q q) w := by
  have h1 : (Instr.sliceBounds true n c Option.none (some (.int .i64 (q : Int))) (some (.int .i64 (q : Int)))).run P w = .ok (0, q, q) w := by
    simp [Instr.sliceBounds, run_sliceBound, hq, Result.andThen]
  simp only [Instr.slice, Sem.run_bind, run_underlying ht, Result.andThen, h1, hsz, Sem.run_pure]
  rcases hA with rfl | ⟨g, rfl⟩
  · simp
  · by_cases h0 : q = 0
    · subst h0; simp
    · simp [h0, Addr.add]
/-- a frame of an entry was done, or not -/
def StandPost (w0 : World) (Z : Nat) (xs : List EV) (d : List (BitVec 8)) (e : Ending) (w' : World) : Prop := ∃ w1,
  ((¬ ((S.rdIE (some d)).2.2 = some [] ∧ 1 ≤ (S.rdIE (some d)).1 ∧ (S.rdIE (some d)).1 ≤ xs.length + 1)) ∧ e = .returned (.bool false) ∧ Since w0 w1 ∧ w' = w1) ∨
  (((S.rdIE (some d)).2.2 = some [] ∧ 1 ≤ (S.rdIE (some d)).1 ∧ (S.rdIE (some d)).1 ≤ xs.length + 1) ∧ e = .returned (.bool true) ∧ ∃ A' c' B m cB,
    Bank w0 w1 [evsAcc A' (((S.rdIE (some d)).1 - 1).toNat + 1) c' (xs.take ((S.rdIE (some d)).1 - 1).toNat ++ [⟨(S.rdIE (some d)).2.1, B, m, cB⟩]), rowAcc B m cB (S.rdIE (some d)).2.1.data] ∧ w' = w1.setCell ⟨Z, 5, none⟩ (.slice A' (((S.rdIE (some d)).1 - 1).toNat + 1) c'))
set_option maxHeartbeats 4000000 in
set_option maxRecDepth 100000 in
theorem stand_any (w0 w : World) (Z D : Nat) (c : S.Cl) (A : Option Addr) (n cE : Nat) (xs : List EV) (P : Nat) (A0 : Option Addr) (d : List (BitVec 8)) (hZ : StBox w0 Z D c A n cE) (hE : w0.ownsRow 0 81 6 (.slice A n cE) n (xs.flatMap EV.cells)) (hn : xs.length = n) (hn2 : n ≤ 1000000) (h : Held w0 w (fun w s => PrgN w P s A0) (some d) P A0 []) :
    Calls Try.prog 112 #[.pointer (some ⟨Z, 0, none⟩), .pointer (some ⟨P, 0, none⟩)] w (StandPost w0 Z xs d) := by
  have HZ := Lib.hid hZ; have HE := Lib.hid hE; have HN := Lib.hid hn
  have H0 := Lib.hid h
  obtain ⟨s0, hs0⟩ : ∃ s0 : M.Rdr, s0 = some d := ⟨_, rfl⟩
  obtain ⟨k, hk⟩ : ∃ n, n = (M.rdNumber s0).1 := ⟨_, rfl⟩
  obtain ⟨s1, hs1⟩ : ∃ s, s = (M.rdNumber s0).2 := ⟨_, rfl⟩
  obtain ⟨en, hen⟩ : ∃ en, en = (M.rdEntry s1).1 := ⟨_, rfl⟩
  obtain ⟨s2, hs2⟩ : ∃ s, s = (M.rdEntry s1).2 := ⟨_, rfl⟩
  have HRD := Lib.hid (show S.rdIE (some d) = (k, en, s2) by rw [← hs0]; simp only [S.rdIE, ← hs1, ← hk, hen, hs2])
  have HEN := Lib.hid (show M.rdEntry s1 = (en, s2) by rw [hen, hs2])
  have HK := Lib.hid (show (M.rdNumber s0).1 = k from hk.symm); have HS1 := Lib.hid (show (M.rdNumber s0).2 = s1 from hs1.symm)
  rw [← hs0] at H0
  clear h hZ hE hn hs0 hk hs1 hen hs2
  go_enter Try.func112, Try.ntmps112
  go_wp2_with fail
  refine (pNumber_any P s0 A0 _ H0.out.q H0.out.lt.2).mono ?_
  rintro e u1 ⟨rfl, hq, hg⟩
  rw [HS1.out] at hq
  have H1 := Lib.hid (H0.out.step hq hg)
  rw [HK.out]
  clear hq hg H0 HS1 HK
  go_wp2_with fail
  refine (entry_held H1.out HEN.out).mono ?_
  rintro e u2 ⟨B, m, cB, rfl, hH⟩
  have H2 := Lib.hid (hH.box #[.int .i64 en.term, B8 en.kind, .int .i64 en.version, .int .i64 en.server, .bool en.good, .slice B m cB] 81 (by simp))
  clear hH H1 HEN
  go_wp2_with fail
  generalize u2.alloc (.cells #[.int .i64 en.term, B8 en.kind, .int .i64 en.version, .int .i64 en.server, .bool en.good, .slice B m cB] 81) = v0 at *
  generalize u2.heap.size = Y at *
  refine (pDoneN P s2 A0 v0 H2.out.q).mono ?_
  rintro e v1 ⟨rfl, rfl⟩
  have S2 := Lib.hid H2.out.bank.since
  have hz := HZ.out.since S2.out
  have z5 := hz.c5
  clear hz
  have BAD : Hid (¬ (s2 = some [] ∧ 1 ≤ k ∧ k ≤ (n : Int) + 1) → StandPost w0 Z xs d (.returned (.bool false)) v0) := Lib.hid (fun hb => ⟨v0, .inl ⟨by rw [HRD.out]; intro h; rw [HN.out] at h; exact hb h, rfl, S2.out, rfl⟩⟩)
  by_cases hs : s2 = some []
  rotate_left
  · have hd : decide (s2 = some []) = false := by simp [hs]
    rw [hd]
    have HFIN := Lib.hid (BAD.out (fun h => hs h.1))
    clear hs hd H2
    go_wp2
    go_ret
    exact HFIN.out
  have hd : decide (s2 = some []) = true := by simp [hs]
  rw [hd]
  have HS2 := Lib.hid hs
  clear hs hd
  have hwr : IntKind.i64.wrap ((n : Int) + 1) = (n : Int) + 1 := IntWalk.i64_in _ (by omega)
  by_cases h1 : k < 1
  · have HFIN := Lib.hid (BAD.out (fun h => by omega))
    clear BAD
    go_wp2
    go_ret
    exact HFIN.out
  by_cases h2 : (n : Int) + 1 < k
  · have HFIN := Lib.hid (BAD.out (fun h => by omega))
    clear BAD
    go_wp2
    go_ret
    exact HFIN.out
  obtain ⟨q, hq⟩ : ∃ q : Nat, k = (q : Int) + 1 := ⟨(k - 1).toNat, by omega⟩
  subst hq
  have hqn : q ≤ n := by omega
  clear BAD
  go_wp2_with fail
  have hA : (A = Option.none ∧ n = 0 ∧ cE = 0) ∨ ∃ g, A = some ⟨g, 0, Option.none⟩ ∧ n ≤ cE := by
    rcases HE.out.2 with ⟨h0, h3⟩ | ⟨g, cap, cur, hv, _, _, h3, _⟩
    · simp only [Value.slice.injEq] at h0
      exact .inl ⟨h0.1, h3, h0.2.2⟩
    · simp only [Value.slice.injEq, true_and] at hv
      exact .inr ⟨g, hv.1, by rw [hv.2]; exact h3⟩
  have hqc : q ≤ cE := by rcases hA with ⟨_, h3, h4⟩ | ⟨g, _, h3⟩ <;> omega
  have hsl : ∀ w, (Instr.slice 66 (.slice A n cE) Option.none (some (.int .i64 (q : Int))) (some (.int .i64 (q : Int)))).run Try.prog w = .ok (.slice A q q) w := fun w =>
    run_cut3 Try.underlying66 (es := 6) (fun _ => by kernel_rfl) (hA.imp (fun h => h.1) (fun ⟨g, h, _⟩ => ⟨g, h⟩)) n cE q hqc w
  have hwq : IntKind.i64.wrap (q : Int) = (q : Int) := IntWalk.i64_in _ (by omega)
  have HA := Lib.hid hA
  have e0 := H2.out.bank.cell 0 rfl 0 rfl
  have e1 := H2.out.bank.cell 0 rfl 1 rfl
  have e2 := H2.out.bank.cell 0 rfl 2 rfl
  have e3 := H2.out.bank.cell 0 rfl 3 rfl
  have e4 := H2.out.bank.cell 0 rfl 4 rfl
  have e5 := H2.out.bank.cell 0 rfl 5 rfl
  refine WL.region (SApp 15 (fun w' => w'.cell? ⟨Z, 5, none⟩ = some (.slice A n cE) ∧ w'.cell? ⟨Y, 0, none⟩ = some (.int .i64 en.term) ∧ w'.cell? ⟨Y, 1, none⟩ = some (B8 en.kind) ∧ w'.cell? ⟨Y, 2, none⟩ = some (.int .i64 en.version) ∧ w'.cell? ⟨Y, 3, none⟩ = some (.int .i64 en.server) ∧ w'.cell? ⟨Y, 4, none⟩ = some (.bool en.good) ∧ w'.cell? ⟨Y, 5, none⟩ = some (.slice B m cB)) (fun _ => True)) (by kernel_rfl) ?_
  intro hsh
  have hS : SApp 15 (fun w' => w'.cell? ⟨Z, 5, none⟩ = some (.slice A n cE) ∧ w'.cell? ⟨Y, 0, none⟩ = some (.int .i64 en.term) ∧ w'.cell? ⟨Y, 1, none⟩ = some (B8 en.kind) ∧ w'.cell? ⟨Y, 2, none⟩ = some (.int .i64 en.version) ∧ w'.cell? ⟨Y, 3, none⟩ = some (.int .i64 en.server) ∧ w'.cell? ⟨Y, 4, none⟩ = some (.bool en.good) ∧ w'.cell? ⟨Y, 5, none⟩ = some (.slice B m cB)) (fun _ => True) (Array.replicate 16 false) v0.drew := ⟨fun _ => ⟨z5, e0, e1, e2, e3, e4, e5⟩, trivial⟩
  clear hA h1 h2 hqc
  refine WL.take (i := 0) (v := ?_) (S0 := fun _ => True) rfl (by kernel_rfl) (by kernel_rfl) (by kernel_rfl) (fun _ _ _ h => h) (SApp.hm (by decide)) (SApp.any) hsh (Or.inl ⟨by rfl, ?_⟩) hS ?_
  rotate_left
  · intro w hSw; clear hSw; go_simp <;> rfl
  clear hsh hS; intro hsh hS
  try simp only [Act.put, List.setIfInBounds_toArray, List.set_cons_zero, List.set_cons_succ]
  refine WL.take (i := 1) (v := ?_) (S0 := fun _ => True) rfl (by kernel_rfl) (by kernel_rfl) (by kernel_rfl) (fun _ _ _ h => h) (SApp.hm (by decide)) (SApp.any) hsh (Or.inl ⟨by rfl, ?_⟩) hS ?_
  rotate_left
  · intro w hSw; clear hSw; go_simp <;> rfl
  clear hsh hS; intro hsh hS
  try simp only [Act.put, List.setIfInBounds_toArray, List.set_cons_zero, List.set_cons_succ]
  refine WL.take (i := 2) (v := ?_) (S0 := fun _ => True) rfl (by kernel_rfl) (by kernel_rfl) (by kernel_rfl) (fun _ _ _ h => h) (SApp.hm (by decide)) (SApp.any) hsh (Or.inl ⟨by rfl, ?_⟩) hS ?_
  rotate_left
  · intro w hSw; clear hSw; go_simp <;> rfl
  clear hsh hS; intro hsh hS
  try simp only [Act.put, List.setIfInBounds_toArray, List.set_cons_zero, List.set_cons_succ]
  refine WL.take (i := 3) (v := ?_) (S0 := fun _ => True) rfl (by kernel_rfl) (by kernel_rfl) (by kernel_rfl) (fun _ _ _ h => h) (SApp.hm (by decide)) (SApp.any) hsh (Or.inl ⟨by rfl, ?_⟩) hS ?_
  rotate_left
  · intro w hSw; clear hSw; go_simp <;> rfl
  clear hsh hS; intro hsh hS
  try simp only [Act.put, List.setIfInBounds_toArray, List.set_cons_zero, List.set_cons_succ]
  refine WL.take (i := 4) (v := ?_) rfl (by kernel_rfl) (by kernel_rfl) (by kernel_rfl) (fun _ _ _ h => h) (SApp.hm (by decide)) (SApp.both (by kernel_rfl)) hsh (Or.inl ⟨by rfl, ?_⟩) hS ?_
  rotate_left
  · intro w hSw; (have hc := hSw.1); clear hSw; go_simp <;> rfl
  clear hsh hS; intro hsh hS
  try simp only [Act.put, List.setIfInBounds_toArray, List.set_cons_zero, List.set_cons_succ]
  refine WL.take (i := 5) (v := ?_) (S0 := fun _ => True) rfl (by kernel_rfl) (by kernel_rfl) (by kernel_rfl) (fun _ _ _ h => h) (SApp.hm (by decide)) (SApp.any) hsh (Or.inl ⟨by rfl, ?_⟩) hS ?_
  rotate_left
  · intro w hSw; clear hSw; go_simp <;> rfl
  clear hsh hS; intro hsh hS
  try simp only [Act.put, List.setIfInBounds_toArray, List.set_cons_zero, List.set_cons_succ]
  refine WL.take (i := 6) (v := ?_) (S0 := fun _ => True) rfl (by kernel_rfl) (by kernel_rfl) (by kernel_rfl) (fun _ _ _ h => h) (SApp.hm (by decide)) (SApp.any) hsh (Or.inl ⟨by rfl, ?_⟩) hS ?_
  rotate_left
  · intro w hSw; clear hSw; go_simp <;> rfl
  clear hsh hS; intro hsh hS
  try simp only [Act.put, List.setIfInBounds_toArray, List.set_cons_zero, List.set_cons_succ]
  refine WL.take (i := 7) (v := ?_) (S0 := fun _ => True) rfl (by kernel_rfl) (by kernel_rfl) (by kernel_rfl) (fun _ _ _ h => h) (SApp.hm (by decide)) (SApp.any) hsh (Or.inl ⟨by rfl, ?_⟩) hS ?_
  rotate_left
  · intro w hSw; clear hSw; go_simp <;> rfl
  clear hsh hS; intro hsh hS
  try simp only [Act.put, List.setIfInBounds_toArray, List.set_cons_zero, List.set_cons_succ]
  refine WL.take (i := 8) (v := ?_) (S0 := fun _ => True) rfl (by kernel_rfl) (by kernel_rfl) (by kernel_rfl) (fun _ _ _ h => h) (SApp.hm (by decide)) (SApp.any) hsh (Or.inl ⟨by rfl, ?_⟩) hS ?_
  rotate_left
  · intro w hSw; clear hSw; go_simp <;> rfl
  clear hsh hS; intro hsh hS
  try simp only [Act.put, List.setIfInBounds_toArray, List.set_cons_zero, List.set_cons_succ]
  refine WL.take (i := 9) (v := ?_) (S0 := fun _ => True) rfl (by kernel_rfl) (by kernel_rfl) (by kernel_rfl) (fun _ _ _ h => h) (SApp.hm (by decide)) (SApp.any) hsh (Or.inl ⟨by rfl, ?_⟩) hS ?_
  rotate_left
  · intro w hSw; clear hSw; go_simp <;> rfl
  clear hsh hS; intro hsh hS
  try simp only [Act.put, List.setIfInBounds_toArray, List.set_cons_zero, List.set_cons_succ]
  refine WL.take (i := 10) (v := ?_) rfl (by kernel_rfl) (by kernel_rfl) (by kernel_rfl) (fun _ _ _ h => h) (SApp.hm (by decide)) (SApp.both (by kernel_rfl)) hsh (Or.inl ⟨by rfl, ?_⟩) hS ?_
  rotate_left
  · intro w hSw; (have hc := hSw.1); clear hSw; go_simp <;> rfl
  clear hsh hS; intro hsh hS
  try simp only [Act.put, List.setIfInBounds_toArray, List.set_cons_zero, List.set_cons_succ]
  have HSH := Lib.hid hsh
  clear hsh hS
  refine WL.one (i := 11) HSH.out (by kernel_rfl) rfl ?_
  intro K hK
  have HKK := Lib.hid hK
  clear hK
  go_simp
  have BKb := Lib.hid ((H2.out.bank.call ((Below.refl _ _).alloc (Nat.le_refl _) (.cells #[.int .i64 en.term, B8 en.kind, .int .i64 en.version, .int .i64 en.server, .bool en.good, .slice B m cB] 81))).drew)
  refine HKK.out _ _ (SApp.intro (fun _ => ⟨cell_old _ z5, cell_old _ e0, cell_old _ e1, cell_old _ e2, cell_old _ e3, cell_old _ e4, cell_old _ e5⟩) trivial) ?_
  clear K HKK HSH
  intro hsh hS
  try simp only [Act.put, List.setIfInBounds_toArray, List.set_cons_zero, List.set_cons_succ]
  have HSH := Lib.hid hsh
  clear hsh hS
  refine WL.one (i := 12) HSH.out (by kernel_rfl) rfl ?_
  intro K hK
  have HKK := Lib.hid hK
  clear hK
  refine step_append_grows rfl (.tmp 37) (.tmp 39) 66 rfl 81 (.agg #[.int .i64 0, .int .u8 0, .int .i64 0, .int .i64 0, .bool false, .slice none 0 0]) 6 64 infoEntry Try.underlying66 rfl (by decide) A q ((xs.take q).flatMap EV.cells) rfl (fun h => ?_) ?_ ?_ ⟨v0.heap.size, 0, none⟩ 1 1 (entL en.term en.version en.server en.kind en.good B m cB) rfl rfl (cells_lit1 _ (entL en.term en.version en.server en.kind en.good B m cB) _) (entL_oneL _ _ _ _ _ _ _ _) (by decide) (by unfold maxLen; omega) (by omega) ?_
  · rcases HA.out with ⟨_, h3, _⟩ | ⟨g, h3, _⟩
    · omega
    · rw [h] at h3; cases h3
  · rw [evs_len, List.length_take, HN.out]; omega
  · intro b hbA j u hu
    subst hbA
    have h1 := World.ownsRow.cells HE.out (g := b.block) rfl j u (evs_take xs q j u hu)
    rcases HA.out with ⟨h3, _⟩ | ⟨g, h3, _⟩
    · cases h3
    · cases h3
      exact (BKb.out.since.cell (block_lt_of_cell h1)).trans h1
  intro A' n' c' w9 hn' ho hb
  have up : ∀ {a : Addr} {v : Value}, v0.cell? a = some v → w9.cell? a = some v := fun {a v} h => (hb.cell (block_lt_of_cell (cell_old _ h))).trans (cell_old _ h)
  have B9 := Lib.hid (BKb.out.made hb ho)
  have S9 := Lib.hid (BKb.out.since.add hb)
  have hz := HZ.out.since S9.out
  have f5 := hz.free 5
  have z9 := hz.c5
  have NN := Lib.hid hn'
  refine HKK.out _ _ (SApp.intro (fun _ => ⟨up z5, up e0, up e1, up e2, up e3, up e4, up e5⟩) trivial) ?_
  clear K HKK HSH BKb hn' ho hb up hz z5 e0 e1 e2 e3 e4 e5
  intro hsh hS
  try simp only [Act.put, List.setIfInBounds_toArray, List.set_cons_zero, List.set_cons_succ]
  refine WL.take (i := 13) (v := ?_) (S0 := fun _ => True) rfl (by kernel_rfl) (by kernel_rfl) (by kernel_rfl) (fun _ _ _ h => h) (SApp.hm (by decide)) (SApp.any) hsh (Or.inl ⟨by rfl, ?_⟩) hS ?_
  rotate_left
  · intro w hSw; clear hSw; go_simp <;> rfl
  clear hsh hS; intro hsh hS
  try simp only [Act.put, List.setIfInBounds_toArray, List.set_cons_zero, List.set_cons_succ]
  refine WL.take (i := 14) (v := ?_) (S0 := fun _ => True) rfl (by kernel_rfl) (by kernel_rfl) (by kernel_rfl) (fun _ _ _ h => h) (SApp.hm (by decide)) (SApp.any) hsh (Or.inl ⟨by rfl, ?_⟩) hS ?_
  rotate_left
  · intro w hSw; clear hSw; go_simp <;> rfl
  clear hsh hS; intro hsh hS
  try simp only [Act.put, List.setIfInBounds_toArray, List.set_cons_zero, List.set_cons_succ]
  have HSH := Lib.hid hsh
  clear hsh hS
  refine WL.one (i := 15) HSH.out (by kernel_rfl) rfl ?_
  intro K hK
  have HKK := Lib.hid hK
  clear hK
  go_simp
  refine HKK.out _ _ (SApp.intro (fun h => (by cases h)) trivial) ?_
  clear K HKK HSH
  intro _ _
  try simp only [Act.put, List.setIfInBounds_toArray, List.set_cons_zero, List.set_cons_succ]
  refine WL.done (by kernel_rfl) ?_ _
  simp only [Exit.then]
  go_wp2_with fail
  go_ret
  have hn3 := NN.out
  subst hn3
  have e1 : ((S.rdIE (some d)).1 - 1).toNat = q := by rw [HRD.out]; simp
  refine ⟨w9, .inr ⟨?_, rfl, A', c', B, m, cB, ?_, ?_⟩⟩
  · rw [HRD.out]
    have hn := HN.out
    exact ⟨HS2.out, by simp only; omega, by simp only; omega⟩
  · rw [e1, HRD.out]
    have h := B9.out.sub (L' := [⟨.slice A' (q + 1) c', q + 1, 81, 6, (xs.take q).flatMap EV.cells ++ entL en.term en.version en.server en.kind en.good B m cB⟩, rowAcc B m cB en.data]) (.cons_cons _ (.cons _ (List.Sublist.refl _)))
    have e2 : evsAcc A' (q + 1) c' (xs.take q ++ [⟨en, B, m, cB⟩]) = ⟨.slice A' (q + 1) c', q + 1, 81, 6, (xs.take q).flatMap EV.cells ++ entL en.term en.version en.server en.kind en.good B m cB⟩ := by
      rw [evsAcc, List.flatMap_append]; simp [EV.cells]
    rw [e2]
    exact h
  · rw [e1]
end Go.Proofs.Ytfpjmeknjhhakaa.K
