/- (made by genrefdo2.py) The contract of the reference store's Do. -/
import Derived.Test.YtfpjmeknjhhakaaSqRefDo
import Derived.Test.YtfpjmeknjhhakaaSqLaw22T
namespace Go.Proofs.Ytfpjmeknjhhakaa.K
open Go Go.RowKit Go.Maps

/-- two may come up -/
theorem WL.two {P : Program} {md : Region.Mode} {ops : Array Oper} {Q : Exit → Act → World → Prop} {S : Array Bool → World → Prop} {i j : Nat} {oi oj : Oper} {fuel : Nat} {listed : Array Bool} {a : Act} {w : World} (hsh : ShutL md ops listed) (hr : Region.ready md ops listed = [i, j]) (hoi : ops[i]? = some oi) (hoj : ops[j]? = some oj)
    (h1 : ∀ K' : Act → World → Prop, Shut (∀ a w, S (listed.setIfInBounds i true) w → (ShutL md ops (listed.setIfInBounds i true) → S (listed.setIfInBounds i true) w → WL P md ops Q S fuel (listed.setIfInBounds i true) a w) → K' a w) → if Region.wanted oi (yielded ops a.tmps) = true then Oper.wp P oi a w K' Q else K' (a.put oi.dst undef) w)
    (h2 : ∀ K' : Act → World → Prop, Shut (∀ a w, S (listed.setIfInBounds j true) w → (ShutL md ops (listed.setIfInBounds j true) → S (listed.setIfInBounds j true) w → WL P md ops Q S fuel (listed.setIfInBounds j true) a w) → K' a w) → if Region.wanted oj (yielded ops a.tmps) = true then Oper.wp P oj a w K' Q else K' (a.put oj.dst undef) w) :
    WL P md ops Q S (fuel + 1) listed a w :=
  ⟨fun h0 => (by rw [hr] at h0; cases h0), fun k hk => by
    rw [hr] at hk
    rcases List.mem_cons.1 hk with rfl | hk
    · exact wpOp_step hoi (fun K' hK => h1 K' (fun a w hS hW => hK a w ⟨hS, (hW (hsh.set (by rw [hr]; exact List.mem_cons_self ..)) hS).out⟩))
    · obtain rfl := List.mem_singleton.1 hk
      exact wpOp_step hoj (fun K' hK => h2 K' (fun a w hS hW => hK a w ⟨hS, (hW (hsh.set (by rw [hr]; exact List.mem_cons_of_mem _ (List.mem_singleton.2 rfl))) hS).out⟩))⟩
set_option maxHeartbeats 8000000 in
set_option maxRecDepth 100000 in
theorem rDo_stand (w : World) (G : Nat) (c : S.Cl) (A : Option Addr) (n cE : Nat) (xs : List EV) (B0 : Option Addr) (m0 c0 : Nat) (d : List (BitVec 8)) (hM : RBox w G c A n cE) (hE : w.ownsRow 0 81 6 (.slice A n cE) n (xs.flatMap EV.cells)) (hn : xs.length = n) (hn2 : n ≤ 1000000) (hr : RowRd w ⟨B0, m0, c0⟩ d) (hm : m0 ≤ 1000000000) :
    Calls Try.prog 60 #[.pointer (some ⟨G, 0, none⟩), .agg #[.int .i64 2, .slice B0 m0 c0]] w (RDoPost w G c xs ⟨2, d⟩) := by
  have HM := Lib.hid hM; have HE := Lib.hid hE; have HN := Lib.hid hn
  have BK0 := Lib.hid ((Bank.nil (Below.refl w.heap.size w)).box #[.int .i64 2, .slice B0 m0 c0] 46 (by simp))
  have HR := Lib.hid (Since.row BK0.out.since hr)
  clear hM hr hE hn
  go_enter Try.func60, Try.ntmps60
  go_wp2_with fail
  have k0 := BK0.out.cell 0 rfl 0 rfl
  obtain ⟨F0, hF0⟩ : ∃ F0, F0 = w.heap.size := ⟨_, rfl⟩
  rw [← hF0] at k0 BK0
  rw [← hF0]
  generalize w.alloc (.cells #[.int .i64 2, .slice B0 m0 c0] 46) = wa at *
  refine (rNew_any B0 m0 c0 d wa HR.out (by omega)).mono ?_
  rintro e w2 ⟨R, Bd, cB0, rfl, hR, hq, hBd, hb⟩
  have H0 := Lib.hid (show Held w w2 (fun w s => RefN w R s Bd m0 cB0 d) (some d) R Bd _ from Held.start (Q := fun w s => RefN w R s Bd m0 cB0 d) BK0.out ⟨0, false, hq⟩ hb hR hq.lt hBd (fun w w' s row h hg hR hA => refN_grownS h hg hR hA))
  have k0 := H0.out.bank.cell 0 rfl 0 rfl
  clear hq hBd hb hR BK0 hF0
  obtain ⟨s0, hs0⟩ : ∃ s0 : M.Rdr, s0 = some d := ⟨_, rfl⟩
  obtain ⟨k, hk⟩ : ∃ n, n = (M.rdNumber s0).1 := ⟨_, rfl⟩
  obtain ⟨s1, hs1⟩ : ∃ s, s = (M.rdNumber s0).2 := ⟨_, rfl⟩
  obtain ⟨en, hen⟩ : ∃ en, en = (M.rdEntry s1).1 := ⟨_, rfl⟩
  obtain ⟨s2, hs2⟩ : ∃ s, s = (M.rdEntry s1).2 := ⟨_, rfl⟩
  have HRD := Lib.hid (show S.rdIE (some d) = (k, en, s2) by rw [← hs0]; simp only [S.rdIE, ← hs1, ← hk, hen, hs2])
  have HEN := Lib.hid (show M.rdEntry s1 = (en, s2) by rw [hen, hs2])
  have HK0 := Lib.hid (show (M.rdNumber s0).1 = k from hk.symm); have HS1 := Lib.hid (show (M.rdNumber s0).2 = s1 from hs1.symm)
  rw [← hs0] at H0
  clear hs0 hk hs1 hen hs2
  go_wp2_with fail
  refine (num_heldR H0.out).mono ?_
  rintro e u1 ⟨rfl, hH⟩
  rw [HS1.out] at hH
  rw [HK0.out]
  have H1 := Lib.hid hH
  clear hH H0 HS1 HK0 k0
  go_wp2_with fail
  refine (entry_heldS H1.out HEN.out).mono ?_
  rintro e u2 ⟨B, m, cB, rfl, hH⟩
  have H1' := Lib.hid (hH.box #[.int .i64 en.term, B8 en.kind, .int .i64 en.version, .int .i64 en.server, .bool en.good, .slice B m cB] 81 (by simp))
  clear hH H1 HEN
  go_wp2_with fail
  generalize u2.alloc (.cells #[.int .i64 en.term, B8 en.kind, .int .i64 en.version, .int .i64 en.server, .bool en.good, .slice B m cB] 81) = u3 at *
  generalize u2.heap.size = Y at *
  refine (done_heldR H1'.out).mono ?_
  rintro e v0 ⟨rfl, hH⟩
  have H2 := Lib.hid hH
  have SV := Lib.hid hH.bank.since
  clear hH H1'
  have z5 := (HM.out.since SV.out).c4
  have BAD : Hid (¬ (s2 = some [] ∧ 1 ≤ k ∧ k ≤ (n : Int) + 1) → RDoPost w G c xs ⟨2, d⟩ (.returned (.bool false)) v0) := Lib.hid (fun hb => .inl ⟨by
    unfold S.sdo S.sstand
    rw [if_neg (by simp), if_pos rfl, if_neg]
    rw [HRD.out, List.length_map, HN.out]
    exact hb, rfl, SV.out⟩)
  by_cases hs : s2 = some []
  rotate_left
  · have hd : decide (s2 = some []) = false := by simp [hs]
    rw [hd]
    have HFIN := Lib.hid (BAD.out (fun h => hs h.1))
    clear hs hd H2
    go_wp2
    go_ret
    exact HFIN.out
  have hd : decide (s2 = some []) = true := by simp [hs]
  rw [hd]
  have HS2 := Lib.hid hs
  clear hs hd
  have hwr : IntKind.i64.wrap ((n : Int) + 1) = (n : Int) + 1 := IntWalk.i64_in _ (by omega)
  by_cases h1 : k < 1
  · have HFIN := Lib.hid (BAD.out (fun h => by omega))
    clear BAD
    go_wp2
    go_ret
    exact HFIN.out
  by_cases h2 : (n : Int) + 1 < k
  · have HFIN := Lib.hid (BAD.out (fun h => by omega))
    clear BAD
    go_wp2
    go_ret
    exact HFIN.out
  obtain ⟨q, hq⟩ : ∃ q : Nat, k = (q : Int) + 1 := ⟨(k - 1).toNat, by omega⟩
  subst hq
  have hqn : q ≤ n := by omega
  clear BAD
  go_wp2_with fail
  have hA : (A = Option.none ∧ n = 0 ∧ cE = 0) ∨ ∃ g, A = some ⟨g, 0, Option.none⟩ ∧ n ≤ cE := by
    rcases HE.out.2 with ⟨h0, h3⟩ | ⟨g, cap, cur, hv, _, _, h3, _⟩
    · simp only [Value.slice.injEq] at h0
      exact .inl ⟨h0.1, h3, h0.2.2⟩
    · simp only [Value.slice.injEq, true_and] at hv
      exact .inr ⟨g, hv.1, by rw [hv.2]; exact h3⟩
  have hqc : q ≤ cE := by rcases hA with ⟨_, h3, h4⟩ | ⟨g, _, h3⟩ <;> omega
  have hsl : ∀ w, (Instr.slice 66 (.slice A n cE) Option.none (some (.int .i64 (q : Int))) Option.none).run Try.prog w = .ok (.slice A q cE) w := fun w =>
    run_cut2 Try.underlying66 (es := 6) (fun _ => by kernel_rfl) (hA.imp (fun h => h.1) (fun ⟨g, h, _⟩ => ⟨g, h⟩)) n cE q hqc w
  have hwq : IntKind.i64.wrap (q : Int) = (q : Int) := IntWalk.i64_in _ (by omega)
  have HNO : Hid (A = Option.none → q = 0 ∧ cE = 0) := Lib.hid (fun h => by
    rcases hA with ⟨_, h3, h4⟩ | ⟨g, h3, _⟩
    · exact ⟨by omega, h4⟩
    · rw [h] at h3; cases h3)
  have HPL := Lib.hid (show ((xs.take q).flatMap EV.cells).length = q * 6 by rw [evs_len, List.length_take, HN.out, Nat.min_eq_left hqn])
  have HPC : Hid (∀ ad, A = some ad → ∀ j u, ((xs.take q).flatMap EV.cells)[j]? = some u → v0.cell? (ad.add j) = some u) := Lib.hid (fun ad had j u hu => by
    have h1 := World.ownsRow.cells HE.out (g := ad.block) (by rw [had]; rfl) j u (evs_take xs q j u hu)
    rcases hA with ⟨h3, _⟩ | ⟨g, h3, _⟩
    · rw [had] at h3; cases h3
    · rw [had] at h3
      cases h3
      exact cell_since SV.out h1)
  have e0 := H2.out.bank.cell 0 rfl 0 rfl
  have e1 := H2.out.bank.cell 0 rfl 1 rfl
  have e2 := H2.out.bank.cell 0 rfl 2 rfl
  have e3 := H2.out.bank.cell 0 rfl 3 rfl
  have e4 := H2.out.bank.cell 0 rfl 4 rfl
  have e5 := H2.out.bank.cell 0 rfl 5 rfl
  have UPC : Hid (∀ w', Since v0 w' → w'.cell? ⟨G, 4, none⟩ = some (.slice A n cE) ∧ w'.cell? ⟨Y, 0, none⟩ = some (.int .i64 en.term) ∧ w'.cell? ⟨Y, 1, none⟩ = some (B8 en.kind) ∧ w'.cell? ⟨Y, 2, none⟩ = some (.int .i64 en.version) ∧ w'.cell? ⟨Y, 3, none⟩ = some (.int .i64 en.server) ∧ w'.cell? ⟨Y, 4, none⟩ = some (.bool en.good) ∧ w'.cell? ⟨Y, 5, none⟩ = some (.slice B m cB)) := Lib.hid (fun w' h => ⟨cell_since h z5, cell_since h e0, cell_since h e1, cell_since h e2, cell_since h e3, cell_since h e4, cell_since h e5⟩)
  have FIN : Hid (∀ A' c' w', Bank w w' (⟨.slice A' (q + 1) c', q + 1, 81, 6, ((xs.take q).flatMap EV.cells) ++ (entL en.term en.version en.server en.kind en.good B m cB)⟩ :: _) → RDoPost w G c xs ⟨2, d⟩ (.returned (.bool true)) (w'.setCell ⟨G, 4, none⟩ (.slice A' (q + 1) c'))) := Lib.hid (fun A' c' w' (h : Bank w w' (⟨.slice A' (q + 1) c', q + 1, 81, 6, ((xs.take q).flatMap EV.cells) ++ (entL en.term en.version en.server en.kind en.good B m cB)⟩ :: [boxAcc Y 81 [.int .i64 en.term, B8 en.kind, .int .i64 en.version, .int .i64 en.server, .bool en.good, .slice B m cB], rowAcc B m cB en.data, boxAcc F0 46 [.int .i64 2, .slice B0 m0 c0]])) => .inr (.inr ⟨w', q, A', c', en, B, m, cB, by
    unfold S.sdo S.sstand
    rw [if_neg (by simp), if_pos rfl, if_pos (by rw [HRD.out, List.length_map, HN.out]; exact ⟨HS2.out, by simp only; omega, by simp only; omega⟩), HRD.out]
    simp [List.map_take], by rw [HN.out]; exact hqn, rfl, by
      have e9 : evsAcc A' (q + 1) c' (xs.take q ++ [⟨en, B, m, cB⟩]) = ⟨.slice A' (q + 1) c', q + 1, 81, 6, ((xs.take q).flatMap EV.cells) ++ (entL en.term en.version en.server en.kind en.good B m cB)⟩ := by
        rw [evsAcc, List.flatMap_append]; simp [EV.cells]
      rw [e9]
      exact h.sub (.cons_cons _ (.cons _ (.cons_cons _ (.cons _ (List.Sublist.refl _))))), rfl⟩))
  have BV0 := Lib.hid (Bank.nil (Below.refl v0.heap.size v0))
  refine WL.region (SApp 15 (fun w' => w'.cell? ⟨G, 4, none⟩ = some (.slice A n cE) ∧ w'.cell? ⟨Y, 0, none⟩ = some (.int .i64 en.term) ∧ w'.cell? ⟨Y, 1, none⟩ = some (B8 en.kind) ∧ w'.cell? ⟨Y, 2, none⟩ = some (.int .i64 en.version) ∧ w'.cell? ⟨Y, 3, none⟩ = some (.int .i64 en.server) ∧ w'.cell? ⟨Y, 4, none⟩ = some (.bool en.good) ∧ w'.cell? ⟨Y, 5, none⟩ = some (.slice B m cB)) (fun _ => True)) (by kernel_rfl) ?_
  intro hsh
  have hS : SApp 15 (fun w' => w'.cell? ⟨G, 4, none⟩ = some (.slice A n cE) ∧ w'.cell? ⟨Y, 0, none⟩ = some (.int .i64 en.term) ∧ w'.cell? ⟨Y, 1, none⟩ = some (B8 en.kind) ∧ w'.cell? ⟨Y, 2, none⟩ = some (.int .i64 en.version) ∧ w'.cell? ⟨Y, 3, none⟩ = some (.int .i64 en.server) ∧ w'.cell? ⟨Y, 4, none⟩ = some (.bool en.good) ∧ w'.cell? ⟨Y, 5, none⟩ = some (.slice B m cB)) (fun _ => True) (Array.replicate 16 false) v0.drew := ⟨fun _ => ⟨z5, e0, e1, e2, e3, e4, e5⟩, trivial⟩
  clear hA h1 h2 hqc z5 e0 e1 e2 e3 e4 e5
  refine WL.take (i := 0) (v := ?_) (S0 := fun _ => True) rfl (by kernel_rfl) (by kernel_rfl) (by kernel_rfl) (fun _ _ _ h => h) (SApp.hm (by decide)) (SApp.any) hsh (Or.inl ⟨by rfl, ?_⟩) hS ?_
  rotate_left
  · intro w hSw; clear hSw; go_simp <;> rfl
  clear hsh hS; intro hsh hS
  try simp only [Act.put, List.setIfInBounds_toArray, List.set_cons_zero, List.set_cons_succ]
  refine WL.take (i := 2) (v := ?_) (S0 := fun _ => True) rfl (by kernel_rfl) (by kernel_rfl) (by kernel_rfl) (fun _ _ _ h => h) (SApp.hm (by decide)) (SApp.any) hsh (Or.inl ⟨by rfl, ?_⟩) hS ?_
  rotate_left
  · intro w hSw; clear hSw; go_simp <;> rfl
  clear hsh hS; intro hsh hS
  try simp only [Act.put, List.setIfInBounds_toArray, List.set_cons_zero, List.set_cons_succ]
  refine WL.take (i := 3) (v := ?_) (S0 := fun _ => True) rfl (by kernel_rfl) (by kernel_rfl) (by kernel_rfl) (fun _ _ _ h => h) (SApp.hm (by decide)) (SApp.any) hsh (Or.inl ⟨by rfl, ?_⟩) hS ?_
  rotate_left
  · intro w hSw; clear hSw; go_simp <;> rfl
  clear hsh hS; intro hsh hS
  try simp only [Act.put, List.setIfInBounds_toArray, List.set_cons_zero, List.set_cons_succ]
  refine WL.take (i := 4) (v := ?_) (S0 := fun _ => True) rfl (by kernel_rfl) (by kernel_rfl) (by kernel_rfl) (fun _ _ _ h => h) (SApp.hm (by decide)) (SApp.any) hsh (Or.inl ⟨by rfl, ?_⟩) hS ?_
  rotate_left
  · intro w hSw; clear hSw; go_simp <;> rfl
  clear hsh hS; intro hsh hS
  try simp only [Act.put, List.setIfInBounds_toArray, List.set_cons_zero, List.set_cons_succ]
  refine WL.take (i := 5) (v := ?_) rfl (by kernel_rfl) (by kernel_rfl) (by kernel_rfl) (fun _ _ _ h => h) (SApp.hm (by decide)) (SApp.both (by kernel_rfl)) hsh (Or.inl ⟨by rfl, ?_⟩) hS ?_
  rotate_left
  · intro w hSw; (have hc := hSw.1); clear hSw; go_simp <;> rfl
  clear hsh hS; intro hsh hS
  try simp only [Act.put, List.setIfInBounds_toArray, List.set_cons_zero, List.set_cons_succ]
  refine WL.take (i := 6) (v := ?_) (S0 := fun _ => True) rfl (by kernel_rfl) (by kernel_rfl) (by kernel_rfl) (fun _ _ _ h => h) (SApp.hm (by decide)) (SApp.any) hsh (Or.inl ⟨by rfl, ?_⟩) hS ?_
  rotate_left
  · intro w hSw; clear hSw; go_simp <;> rfl
  clear hsh hS; intro hsh hS
  try simp only [Act.put, List.setIfInBounds_toArray, List.set_cons_zero, List.set_cons_succ]
  refine WL.take (i := 7) (v := ?_) (S0 := fun _ => True) rfl (by kernel_rfl) (by kernel_rfl) (by kernel_rfl) (fun _ _ _ h => h) (SApp.hm (by decide)) (SApp.any) hsh (Or.inl ⟨by rfl, ?_⟩) hS ?_
  rotate_left
  · intro w hSw; clear hSw; go_simp <;> rfl
  clear hsh hS; intro hsh hS
  try simp only [Act.put, List.setIfInBounds_toArray, List.set_cons_zero, List.set_cons_succ]
  refine WL.take (i := 8) (v := ?_) (S0 := fun _ => True) rfl (by kernel_rfl) (by kernel_rfl) (by kernel_rfl) (fun _ _ _ h => h) (SApp.hm (by decide)) (SApp.any) hsh (Or.inl ⟨by rfl, ?_⟩) hS ?_
  rotate_left
  · intro w hSw; clear hSw; go_simp <;> rfl
  clear hsh hS; intro hsh hS
  try simp only [Act.put, List.setIfInBounds_toArray, List.set_cons_zero, List.set_cons_succ]
  refine WL.take (i := 10) (v := ?_) rfl (by kernel_rfl) (by kernel_rfl) (by kernel_rfl) (fun _ _ _ h => h) (SApp.hm (by decide)) (SApp.both (by kernel_rfl)) hsh (Or.inl ⟨by rfl, ?_⟩) hS ?_
  rotate_left
  · intro w hSw; (have hc := hSw.1); clear hSw; go_simp <;> rfl
  clear hsh hS; intro hsh hS
  try simp only [Act.put, List.setIfInBounds_toArray, List.set_cons_zero, List.set_cons_succ]
  have HSH := Lib.hid hsh
  clear hsh hS
  refine WL.two (i := 1) (j := 11) HSH.out (by kernel_rfl) rfl rfl ?_ ?_
  · clear HSH
    intro K hK
    have HK := Lib.hid hK
    clear hK
    go_simp
    have bv := BV0.out.made ((Below.refl _ _).alloc (Nat.le_refl _) (.cells #[] 81)) (World.ownsRow_lit (e := 81) (size := 6) _ #[] 0 (Nat.le_refl _) (by unfold maxLen; omega) rfl)
    have BV1 := Lib.hid bv
    clear bv
    refine HK.out _ _ (SApp.intro (fun _ => UPC.out _ BV1.out.drew.since) trivial) ?_
    clear K HK
    intro hsh hS
    try simp only [Act.put, List.setIfInBounds_toArray, List.set_cons_zero, List.set_cons_succ]
    have HSH := Lib.hid hsh
    clear hsh hS
    refine WL.two (i := 9) (j := 11) HSH.out (by kernel_rfl) rfl rfl ?_ ?_
    · clear HSH
      intro K hK
      have HK := Lib.hid hK
      clear hK
      refine step_append_src (BV1.out.drew) rfl (.tmp 64) (.tmp 71) 66 rfl 81 (.agg #[.int .i64 0, .int .u8 0, .int .i64 0, .int .i64 0, .bool false, .slice none 0 0]) 6 64 infoEntry Try.underlying66 rfl (by decide) 0 (some ⟨v0.heap.size, 0, none⟩) 0 0 [] rfl rfl A q cE ((xs.take q).flatMap EV.cells) rfl HNO.out HPL.out (fun ad had j u hu => cell_since (BV1.out.drew).since (HPC.out ad had j u hu)) (evs_one _) (by unfold maxLen; omega) (by omega) ?_
      intro A2 n2 c2 w2 hn hB
      dsimp only [List.set] at hB
      rw [List.nil_append] at hB
      rw [Nat.zero_add] at hn
      have hn2 := hn.symm
      subst hn2
      clear hn
      have BV2 := Lib.hid hB
      clear hB
      refine HK.out _ _ (SApp.intro (fun _ => UPC.out _ BV2.out.since) trivial) ?_
      clear K HK
      intro hsh hS
      try simp only [Act.put, List.setIfInBounds_toArray, List.set_cons_zero, List.set_cons_succ]
      have HSH := Lib.hid hsh
      clear hsh hS
      refine WL.one (i := 11) HSH.out (by kernel_rfl) rfl ?_
      clear HSH
      intro K hK
      have HK := Lib.hid hK
      clear hK
      go_simp
      have bv := BV2.out.made ((Below.refl _ _).alloc (Nat.le_refl _) (.cells #[.int .i64 en.term, B8 en.kind, .int .i64 en.version, .int .i64 en.server, .bool en.good, .slice B m cB] 81)) (World.ownsRow_lit (e := 81) (size := 6) _ #[.int .i64 en.term, B8 en.kind, .int .i64 en.version, .int .i64 en.server, .bool en.good, .slice B m cB] 1 (Nat.le_refl _) (by unfold maxLen; omega) rfl)
      have BV3 := Lib.hid bv
      clear bv
      refine HK.out _ _ (SApp.intro (fun _ => UPC.out _ BV3.out.since) trivial) ?_
      clear K HK
      intro hsh hS
      try simp only [Act.put, List.setIfInBounds_toArray, List.set_cons_zero, List.set_cons_succ]
      have HSH := Lib.hid hsh
      clear hsh hS
      refine WL.one (i := 12) HSH.out (by kernel_rfl) rfl ?_
      clear HSH
      intro K hK
      have HK := Lib.hid hK
      clear hK
      refine step_append_src (BV3.out) rfl (.tmp 72) (.tmp 74) 66 rfl 81 (.agg #[.int .i64 0, .int .u8 0, .int .i64 0, .int .i64 0, .bool false, .slice none 0 0]) 6 64 infoEntry Try.underlying66 rfl (by decide) 1 A2 q c2 ((xs.take q).flatMap EV.cells) rfl rfl (some ⟨w2.heap.size, 0, none⟩) 1 1 (entL en.term en.version en.server en.kind en.good B m cB) rfl (fun h => by cases h) rfl (fun ad had j u hu => by cases had; exact World.ownsRow.cells ((BV3.out).at 0 rfl) (g := w2.heap.size) rfl j u hu) (entL_oneL _ _ _ _ _ _ _ _) (by unfold maxLen; omega) (by omega) ?_
      intro A4 n4 c4 w4 hn hB
      dsimp only [List.set] at hB
      have BV4 := Lib.hid hB
      have HNF := Lib.hid hn
      clear hB hn
      refine HK.out _ _ (SApp.intro (fun _ => UPC.out _ BV4.out.since) trivial) ?_
      clear K HK
      intro hsh hS
      try simp only [Act.put, List.setIfInBounds_toArray, List.set_cons_zero, List.set_cons_succ]
      refine WL.take (i := 13) (v := ?_) (S0 := fun _ => True) rfl (by kernel_rfl) (by kernel_rfl) (by kernel_rfl) (fun _ _ _ h => h) (SApp.hm (by decide)) (SApp.any) hsh (Or.inl ⟨by rfl, ?_⟩) hS ?_
      rotate_left
      · intro w hSw; clear hSw; go_simp <;> rfl
      clear hsh hS; intro hsh hS
      try simp only [Act.put, List.setIfInBounds_toArray, List.set_cons_zero, List.set_cons_succ]
      refine WL.take (i := 14) (v := ?_) (S0 := fun _ => True) rfl (by kernel_rfl) (by kernel_rfl) (by kernel_rfl) (fun _ _ _ h => h) (SApp.hm (by decide)) (SApp.any) hsh (Or.inl ⟨by rfl, ?_⟩) hS ?_
      rotate_left
      · intro w hSw; clear hSw; go_simp <;> rfl
      clear hsh hS; intro hsh hS
      try simp only [Act.put, List.setIfInBounds_toArray, List.set_cons_zero, List.set_cons_succ]
      have hz := HM.out.since (SV.out.add BV4.out.since)
      have f4 := hz.free 4
      have z9 := hz.c4
      have HSH := Lib.hid hsh
      clear hsh hS hz
      refine WL.one (i := 15) HSH.out (by kernel_rfl) rfl ?_
      intro K hK
      have HK := Lib.hid hK
      clear hK
      go_simp
      refine HK.out _ _ (SApp.intro (fun h => (by cases h)) trivial) ?_
      clear K HK HSH
      intro _ _
      try simp only [Act.put, List.setIfInBounds_toArray, List.set_cons_zero, List.set_cons_succ]
      refine WL.done (by kernel_rfl) ?_ _
      simp only [Exit.then]
      have hn := HNF.out
      subst hn
      have bf := bank_underS H2.out.bank (BV4.out.sub (L' := [⟨.slice A4 (q + 1) c4, q + 1, 81, 6, ((xs.take q).flatMap EV.cells) ++ (entL en.term en.version en.server en.kind en.good B m cB)⟩]) (.cons _ (.cons_cons _ (List.Sublist.refl _))))
      have BF := Lib.hid bf
      have HFIN := Lib.hid (FIN.out A4 c4 w4 BF.out)
      clear bf BF BV4
      go_wp2
      go_ret
      exact HFIN.out
    · clear HSH
      intro K hK
      have HK := Lib.hid hK
      clear hK
      go_simp
      have bv := BV1.out.made ((Below.refl _ _).alloc (Nat.le_refl _) (.cells #[.int .i64 en.term, B8 en.kind, .int .i64 en.version, .int .i64 en.server, .bool en.good, .slice B m cB] 81)) (World.ownsRow_lit (e := 81) (size := 6) _ #[.int .i64 en.term, B8 en.kind, .int .i64 en.version, .int .i64 en.server, .bool en.good, .slice B m cB] 1 (Nat.le_refl _) (by unfold maxLen; omega) rfl)
      try rw [World.size_alloc] at bv
      have BV5 := Lib.hid bv
      clear bv
      refine HK.out _ _ (SApp.intro (fun _ => UPC.out _ BV5.out.drew.since) trivial) ?_
      clear K HK
      intro hsh hS
      try simp only [Act.put, List.setIfInBounds_toArray, List.set_cons_zero, List.set_cons_succ]
      have HSH := Lib.hid hsh
      clear hsh hS
      refine WL.one (i := 9) HSH.out (by kernel_rfl) rfl ?_
      clear HSH
      intro K hK
      have HK := Lib.hid hK
      clear hK
      refine step_append_src (BV5.out.drew) rfl (.tmp 64) (.tmp 71) 66 rfl 81 (.agg #[.int .i64 0, .int .u8 0, .int .i64 0, .int .i64 0, .bool false, .slice none 0 0]) 6 64 infoEntry Try.underlying66 rfl (by decide) 1 (some ⟨v0.heap.size, 0, none⟩) 0 0 [] rfl rfl A q cE ((xs.take q).flatMap EV.cells) rfl HNO.out HPL.out (fun ad had j u hu => cell_since (BV5.out.drew).since (HPC.out ad had j u hu)) (evs_one _) (by unfold maxLen; omega) (by omega) ?_
      intro A6 n6 c6 w6 hn hB
      dsimp only [List.set] at hB
      rw [List.nil_append] at hB
      rw [Nat.zero_add] at hn
      have hn2 := hn.symm
      subst hn2
      clear hn
      have BV6 := Lib.hid hB
      clear hB
      refine HK.out _ _ (SApp.intro (fun _ => UPC.out _ BV6.out.since) trivial) ?_
      clear K HK
      intro hsh hS
      try simp only [Act.put, List.setIfInBounds_toArray, List.set_cons_zero, List.set_cons_succ]
      have HSH := Lib.hid hsh
      clear hsh hS
      refine WL.one (i := 12) HSH.out (by kernel_rfl) rfl ?_
      clear HSH
      intro K hK
      have HK := Lib.hid hK
      clear hK
      refine step_append_src (BV6.out) rfl (.tmp 72) (.tmp 74) 66 rfl 81 (.agg #[.int .i64 0, .int .u8 0, .int .i64 0, .int .i64 0, .bool false, .slice none 0 0]) 6 64 infoEntry Try.underlying66 rfl (by decide) 1 A6 q c6 ((xs.take q).flatMap EV.cells) rfl rfl (some ⟨v0.heap.size + 1, 0, none⟩) 1 1 (entL en.term en.version en.server en.kind en.good B m cB) rfl (fun h => by cases h) rfl (fun ad had j u hu => by cases had; exact World.ownsRow.cells ((BV6.out).at 0 rfl) (g := v0.heap.size + 1) rfl j u hu) (entL_oneL _ _ _ _ _ _ _ _) (by unfold maxLen; omega) (by omega) ?_
      intro A7 n7 c7 w7 hn hB
      dsimp only [List.set] at hB
      have BV7 := Lib.hid hB
      have HNF := Lib.hid hn
      clear hB hn
      refine HK.out _ _ (SApp.intro (fun _ => UPC.out _ BV7.out.since) trivial) ?_
      clear K HK
      intro hsh hS
      try simp only [Act.put, List.setIfInBounds_toArray, List.set_cons_zero, List.set_cons_succ]
      refine WL.take (i := 13) (v := ?_) (S0 := fun _ => True) rfl (by kernel_rfl) (by kernel_rfl) (by kernel_rfl) (fun _ _ _ h => h) (SApp.hm (by decide)) (SApp.any) hsh (Or.inl ⟨by rfl, ?_⟩) hS ?_
      rotate_left
      · intro w hSw; clear hSw; go_simp <;> rfl
      clear hsh hS; intro hsh hS
      try simp only [Act.put, List.setIfInBounds_toArray, List.set_cons_zero, List.set_cons_succ]
      refine WL.take (i := 14) (v := ?_) (S0 := fun _ => True) rfl (by kernel_rfl) (by kernel_rfl) (by kernel_rfl) (fun _ _ _ h => h) (SApp.hm (by decide)) (SApp.any) hsh (Or.inl ⟨by rfl, ?_⟩) hS ?_
      rotate_left
      · intro w hSw; clear hSw; go_simp <;> rfl
      clear hsh hS; intro hsh hS
      try simp only [Act.put, List.setIfInBounds_toArray, List.set_cons_zero, List.set_cons_succ]
      have hz := HM.out.since (SV.out.add BV7.out.since)
      have f4 := hz.free 4
      have z9 := hz.c4
      have HSH := Lib.hid hsh
      clear hsh hS hz
      refine WL.one (i := 15) HSH.out (by kernel_rfl) rfl ?_
      intro K hK
      have HK := Lib.hid hK
      clear hK
      go_simp
      refine HK.out _ _ (SApp.intro (fun h => (by cases h)) trivial) ?_
      clear K HK HSH
      intro _ _
      try simp only [Act.put, List.setIfInBounds_toArray, List.set_cons_zero, List.set_cons_succ]
      refine WL.done (by kernel_rfl) ?_ _
      simp only [Exit.then]
      have hn := HNF.out
      subst hn
      have bf := bank_underS H2.out.bank (BV7.out.sub (L' := [⟨.slice A7 (q + 1) c7, q + 1, 81, 6, ((xs.take q).flatMap EV.cells) ++ (entL en.term en.version en.server en.kind en.good B m cB)⟩]) (.cons _ (.cons_cons _ (List.Sublist.refl _))))
      have BF := Lib.hid bf
      have HFIN := Lib.hid (FIN.out A7 c7 w7 BF.out)
      clear bf BF BV7
      go_wp2
      go_ret
      exact HFIN.out
  · clear HSH
    intro K hK
    have HK := Lib.hid hK
    clear hK
    go_simp
    have bv := BV0.out.made ((Below.refl _ _).alloc (Nat.le_refl _) (.cells #[.int .i64 en.term, B8 en.kind, .int .i64 en.version, .int .i64 en.server, .bool en.good, .slice B m cB] 81)) (World.ownsRow_lit (e := 81) (size := 6) _ #[.int .i64 en.term, B8 en.kind, .int .i64 en.version, .int .i64 en.server, .bool en.good, .slice B m cB] 1 (Nat.le_refl _) (by unfold maxLen; omega) rfl)
    have BV8 := Lib.hid bv
    clear bv
    refine HK.out _ _ (SApp.intro (fun _ => UPC.out _ BV8.out.drew.since) trivial) ?_
    clear K HK
    intro hsh hS
    try simp only [Act.put, List.setIfInBounds_toArray, List.set_cons_zero, List.set_cons_succ]
    have HSH := Lib.hid hsh
    clear hsh hS
    refine WL.one (i := 1) HSH.out (by kernel_rfl) rfl ?_
    clear HSH
    intro K hK
    have HK := Lib.hid hK
    clear hK
    go_simp
    have bv := BV8.out.made ((Below.refl _ _).alloc (Nat.le_refl _) (.cells #[] 81)) (World.ownsRow_lit (e := 81) (size := 6) _ #[] 0 (Nat.le_refl _) (by unfold maxLen; omega) rfl)
    try rw [World.size_alloc] at bv
    have BV9 := Lib.hid bv
    clear bv
    refine HK.out _ _ (SApp.intro (fun _ => UPC.out _ BV9.out.drew.since) trivial) ?_
    clear K HK
    intro hsh hS
    try simp only [Act.put, List.setIfInBounds_toArray, List.set_cons_zero, List.set_cons_succ]
    have HSH := Lib.hid hsh
    clear hsh hS
    refine WL.one (i := 9) HSH.out (by kernel_rfl) rfl ?_
    clear HSH
    intro K hK
    have HK := Lib.hid hK
    clear hK
    refine step_append_src (BV9.out.drew) rfl (.tmp 64) (.tmp 71) 66 rfl 81 (.agg #[.int .i64 0, .int .u8 0, .int .i64 0, .int .i64 0, .bool false, .slice none 0 0]) 6 64 infoEntry Try.underlying66 rfl (by decide) 0 (some ⟨v0.heap.size + 1, 0, none⟩) 0 0 [] rfl rfl A q cE ((xs.take q).flatMap EV.cells) rfl HNO.out HPL.out (fun ad had j u hu => cell_since (BV9.out.drew).since (HPC.out ad had j u hu)) (evs_one _) (by unfold maxLen; omega) (by omega) ?_
    intro A10 n10 c10 w10 hn hB
    dsimp only [List.set] at hB
    rw [List.nil_append] at hB
    rw [Nat.zero_add] at hn
    have hn2 := hn.symm
    subst hn2
    clear hn
    have BV10 := Lib.hid hB
    clear hB
    refine HK.out _ _ (SApp.intro (fun _ => UPC.out _ BV10.out.since) trivial) ?_
    clear K HK
    intro hsh hS
    try simp only [Act.put, List.setIfInBounds_toArray, List.set_cons_zero, List.set_cons_succ]
    have HSH := Lib.hid hsh
    clear hsh hS
    refine WL.one (i := 12) HSH.out (by kernel_rfl) rfl ?_
    clear HSH
    intro K hK
    have HK := Lib.hid hK
    clear hK
    refine step_append_src (BV10.out) rfl (.tmp 72) (.tmp 74) 66 rfl 81 (.agg #[.int .i64 0, .int .u8 0, .int .i64 0, .int .i64 0, .bool false, .slice none 0 0]) 6 64 infoEntry Try.underlying66 rfl (by decide) 0 A10 q c10 ((xs.take q).flatMap EV.cells) rfl rfl (some ⟨v0.heap.size, 0, none⟩) 1 1 (entL en.term en.version en.server en.kind en.good B m cB) rfl (fun h => by cases h) rfl (fun ad had j u hu => by cases had; exact World.ownsRow.cells ((BV10.out).at 1 rfl) (g := v0.heap.size) rfl j u hu) (entL_oneL _ _ _ _ _ _ _ _) (by unfold maxLen; omega) (by omega) ?_
    intro A11 n11 c11 w11 hn hB
    dsimp only [List.set] at hB
    have BV11 := Lib.hid hB
    have HNF := Lib.hid hn
    clear hB hn
    refine HK.out _ _ (SApp.intro (fun _ => UPC.out _ BV11.out.since) trivial) ?_
    clear K HK
    intro hsh hS
    try simp only [Act.put, List.setIfInBounds_toArray, List.set_cons_zero, List.set_cons_succ]
    refine WL.take (i := 13) (v := ?_) (S0 := fun _ => True) rfl (by kernel_rfl) (by kernel_rfl) (by kernel_rfl) (fun _ _ _ h => h) (SApp.hm (by decide)) (SApp.any) hsh (Or.inl ⟨by rfl, ?_⟩) hS ?_
    rotate_left
    · intro w hSw; clear hSw; go_simp <;> rfl
    clear hsh hS; intro hsh hS
    try simp only [Act.put, List.setIfInBounds_toArray, List.set_cons_zero, List.set_cons_succ]
    refine WL.take (i := 14) (v := ?_) (S0 := fun _ => True) rfl (by kernel_rfl) (by kernel_rfl) (by kernel_rfl) (fun _ _ _ h => h) (SApp.hm (by decide)) (SApp.any) hsh (Or.inl ⟨by rfl, ?_⟩) hS ?_
    rotate_left
    · intro w hSw; clear hSw; go_simp <;> rfl
    clear hsh hS; intro hsh hS
    try simp only [Act.put, List.setIfInBounds_toArray, List.set_cons_zero, List.set_cons_succ]
    have hz := HM.out.since (SV.out.add BV11.out.since)
    have f4 := hz.free 4
    have z9 := hz.c4
    have HSH := Lib.hid hsh
    clear hsh hS hz
    refine WL.one (i := 15) HSH.out (by kernel_rfl) rfl ?_
    intro K hK
    have HK := Lib.hid hK
    clear hK
    go_simp
    refine HK.out _ _ (SApp.intro (fun h => (by cases h)) trivial) ?_
    clear K HK HSH
    intro _ _
    try simp only [Act.put, List.setIfInBounds_toArray, List.set_cons_zero, List.set_cons_succ]
    refine WL.done (by kernel_rfl) ?_ _
    simp only [Exit.then]
    have hn := HNF.out
    subst hn
    have bf := bank_underS H2.out.bank (BV11.out.sub (L' := [⟨.slice A11 (q + 1) c11, q + 1, 81, 6, ((xs.take q).flatMap EV.cells) ++ (entL en.term en.version en.server en.kind en.good B m cB)⟩]) (.cons_cons _ (.cons _ (List.Sublist.refl _))))
    have BF := Lib.hid bf
    have HFIN := Lib.hid (FIN.out A11 c11 w11 BF.out)
    clear bf BF BV11
    go_wp2
    go_ret
    exact HFIN.out
end Go.Proofs.Ytfpjmeknjhhakaa.K
