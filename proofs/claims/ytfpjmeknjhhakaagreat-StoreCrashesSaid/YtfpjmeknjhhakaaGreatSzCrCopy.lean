/- (made by gencrcopy.py) The contract of the reference store's Copy. -/
import Derived.Test.YtfpjmeknjhhakaaGreatSzCrSts
namespace Go.Proofs.YtfpjmeknjhhakaaGreat.K
open Go Go.RowKit Go.Maps

set_option maxHeartbeats 8000000 in
set_option maxRecDepth 100000 in
theorem rCopy_any (w : World) (G : Nat) (c : S.Cl) (A : Option Addr) (n cE : Nat) (xs : List EV) (hM : RBox w G c A n cE) (hE : w.ownsRow 0 62 6 (.slice A n cE) n (xs.flatMap EV.cells)) (hn : xs.length = n) (hn2 : n ≤ 1000000) :
    Calls Tryz.prog 16 #[.pointer (some ⟨G, 0, none⟩)] w fun e w' => ∃ s : SR, e = .returned (.pointer (some ⟨s.G, 0, none⟩)) ∧ s.c = c ∧ s.xs = xs ∧ Bank w w' s.accs := by
  have HN := Lib.hid hn
  have HM := Lib.hid hM
  have HL := Lib.hid (show (xs.flatMap EV.cells).length = n * 6 by rw [evs_len, hn])
  have HC : Hid (∀ ad, A = some ad → ∀ j u, (xs.flatMap EV.cells)[j]? = some u → w.cell? (ad.add j) = some u) := Lib.hid (fun ad had j u hu => by
    have h1 := World.ownsRow.cells hE (g := ad.block) (by rw [had]; rfl) j u hu
    rcases hE.2 with ⟨h0, _⟩ | ⟨g, cap, cur, hv, _⟩
    · simp only [Value.slice.injEq] at h0
      rw [h0.1] at had; cases had
    · simp only [Value.slice.injEq, true_and] at hv
      rw [hv.1] at had
      cases had
      exact h1)
  have HNO : Hid (A = Option.none → n = 0 ∧ cE = 0) := Lib.hid (fun h => by
    rcases hE.2 with ⟨h0, h3⟩ | ⟨g, cap, cur, hv, _⟩
    · simp only [Value.slice.injEq] at h0
      exact ⟨h3, h0.2.2⟩
    · simp only [Value.slice.injEq, true_and] at hv
      rw [hv.1] at h; cases h)
  have UPC : Hid (∀ w', Since w w' → RefC w' G c A n cE) := Lib.hid (fun w' h => ⟨cell_since h hM.c0.1, cell_since h hM.c0.2.1, cell_since h hM.c0.2.2.1, cell_since h hM.c0.2.2.2, cell_since h hM.c4⟩)
  clear hM hE hn
  go_enter Tryz.func16, Tryz.ntmps16
  go_upto_region 1 with fail
  refine WL.region (SApp 99 (fun _ => True) (fun w' => RefC w' G c A n cE)) (by kernel_rfl) ?_
  intro hsh
  have hS : SApp 99 (fun _ => True) (fun w' => RefC w' G c A n cE) (Array.replicate 13 false) w.drew := ⟨fun _ => trivial, UPC.out _ (Below.refl w.heap.size w).drew⟩
  refine WL.take (i := 0) (v := ?_) (S0 := fun _ => True) rfl (by kernel_rfl) (by kernel_rfl) (by kernel_rfl) (fun _ _ _ h => h) (SApp.hm (by decide)) (SApp.any) hsh (Or.inl ⟨by rfl, ?_⟩) hS ?_
  rotate_left
  · intro w hSw; clear hSw; go_simp <;> rfl
  clear hsh hS; intro hsh hS
  try simp only [Act.put, List.setIfInBounds_toArray]
  refine WL.take (i := 1) (v := ?_) (S0 := fun _ => True) rfl (by kernel_rfl) (by kernel_rfl) (by kernel_rfl) (fun _ _ _ h => h) (SApp.hm (by decide)) (SApp.any) hsh (Or.inl ⟨by rfl, ?_⟩) hS ?_
  rotate_left
  · intro w hSw; clear hSw; go_simp <;> rfl
  clear hsh hS; intro hsh hS
  try simp only [Act.put]
  refine WL.take (i := 2) (v := ?_) (S0 := fun _ => True) rfl (by kernel_rfl) (by kernel_rfl) (by kernel_rfl) (fun _ _ _ h => h) (SApp.hm (by decide)) (SApp.any) hsh (Or.inl ⟨by rfl, ?_⟩) hS ?_
  rotate_left
  · intro w hSw; clear hSw; go_simp <;> rfl
  clear hsh hS; intro hsh hS
  try simp only [Act.put]
  refine WL.take (i := 3) (v := ?_) rfl (by kernel_rfl) (by kernel_rfl) (by kernel_rfl) (fun _ _ _ h => h) (SApp.hm (by decide)) (SApp.right) hsh (Or.inl ⟨by rfl, ?_⟩) hS ?_
  rotate_left
  · intro w hSw; go_simp <;> rfl
  clear hsh hS; intro hsh hS
  try simp only [Act.put]
  refine WL.take (i := 5) (v := ?_) (S0 := fun _ => True) rfl (by kernel_rfl) (by kernel_rfl) (by kernel_rfl) (fun _ _ _ h => h) (SApp.hm (by decide)) (SApp.any) hsh (Or.inl ⟨by rfl, ?_⟩) hS ?_
  rotate_left
  · intro w hSw; clear hSw; go_simp <;> rfl
  clear hsh hS; intro hsh hS
  try simp only [Act.put]
  refine WL.take (i := 6) (v := ?_) (S0 := fun _ => True) rfl (by kernel_rfl) (by kernel_rfl) (by kernel_rfl) (fun _ _ _ h => h) (SApp.hm (by decide)) (SApp.any) hsh (Or.inl ⟨by rfl, ?_⟩) hS ?_
  rotate_left
  · intro w hSw; clear hSw; go_simp <;> rfl
  clear hsh hS; intro hsh hS
  try simp only [Act.put]
  refine WL.take (i := 7) (v := ?_) (S0 := fun _ => True) rfl (by kernel_rfl) (by kernel_rfl) (by kernel_rfl) (fun _ _ _ h => h) (SApp.hm (by decide)) (SApp.any) hsh (Or.inl ⟨by rfl, ?_⟩) hS ?_
  rotate_left
  · intro w hSw; clear hSw; go_simp <;> rfl
  clear hsh hS; intro hsh hS
  try simp only [Act.put]
  refine WL.take (i := 8) (v := ?_) rfl (by kernel_rfl) (by kernel_rfl) (by kernel_rfl) (fun _ _ _ h => h) (SApp.hm (by decide)) (SApp.right) hsh (Or.inl ⟨by rfl, ?_⟩) hS ?_
  rotate_left
  · intro w hSw; go_simp <;> rfl
  clear hsh hS; intro hsh hS
  try simp only [Act.put]
  have HSH := Lib.hid hsh
  clear hsh hS
  refine WL.one (i := 4) HSH.out (by kernel_rfl) rfl ?_
  clear HSH
  intro K hK
  have HK := Lib.hid hK
  clear hK
  go_simp
  have BV1 := Lib.hid ((Bank.nil (Below.refl w.heap.size w)).drew.made ((Below.refl _ _).alloc (Nat.le_refl _) (.cells #[] 62)) (World.ownsRow_lit (e := 62) (size := 6) _ #[] 0 (Nat.le_refl _) (by unfold maxLen; omega) rfl))
  refine HK.out _ _ (SApp.intro (fun _ => trivial) (UPC.out _ BV1.out.since)) ?_
  clear K HK
  intro hsh hS
  try simp only [Act.put, List.setIfInBounds_toArray, List.set_cons_zero, List.set_cons_succ]
  have HSH := Lib.hid hsh
  clear hsh hS
  refine WL.one (i := 9) HSH.out (by kernel_rfl) rfl ?_
  clear HSH
  intro K hK
  have HK := Lib.hid hK
  clear hK
  refine step_append_src (BV1.out) rfl (.tmp 7) (.tmp 11) 34 rfl 62 (.agg #[.int .i64 0, .int .u8 0, .int .i64 0, .int .i64 0, .bool false, .slice none 0 0]) 6 64 infoEntry Tryz.underlying34 rfl (by decide) 0 (some ⟨w.heap.size, 0, none⟩) 0 0 [] rfl rfl A n cE (xs.flatMap EV.cells) rfl HNO.out HL.out (fun ad had j u hu => cell_since (BV1.out).since (HC.out ad had j u hu)) (evs_one _) (by unfold maxLen; omega) (by omega) ?_
  intro A2 n2 c2 w2 hn hB
  dsimp only [List.set] at hB
  rw [List.nil_append] at hB
  rw [Nat.zero_add] at hn
  have hn2' := hn.symm
  subst hn2'
  clear hn
  have BV2 := Lib.hid hB
  clear hB
  refine HK.out _ _ (SApp.intro (fun _ => trivial) (UPC.out _ BV2.out.since)) ?_
  clear K HK
  intro hsh hS
  try simp only [Act.put, List.setIfInBounds_toArray]
  refine WL.take (i := 10) (v := ?_) (S0 := fun _ => True) rfl (by kernel_rfl) (by kernel_rfl) (by kernel_rfl) (fun _ _ _ h => h) (SApp.hm (by decide)) (SApp.any) hsh (Or.inl ⟨by rfl, ?_⟩) hS ?_
  rotate_left
  · intro w hSw; clear hSw; go_simp <;> rfl
  clear hsh hS; intro hsh hS
  try simp only [Act.put]
  have HSH := Lib.hid hsh
  clear hsh hS
  refine WL.one (i := 11) HSH.out (by kernel_rfl) rfl ?_
  clear HSH
  intro K hK
  have HK := Lib.hid hK
  clear hK
  go_simp
  have BV3 := Lib.hid (BV2.out.box #[.int .i64 c.term, .int .i64 c.vote, .int .i64 c.applied, .int .i64 c.active, .slice A2 n c2] 36 (by simp))
  refine HK.out _ _ (SApp.intro (fun _ => trivial) (UPC.out _ BV3.out.since)) ?_
  clear K HK
  intro hsh hS
  try simp only [Act.put, List.setIfInBounds_toArray, List.set_cons_zero, List.set_cons_succ]
  have HSH := Lib.hid hsh
  clear hsh hS
  refine WL.one (i := 12) HSH.out (by kernel_rfl) rfl ?_
  clear HSH
  intro K hK
  have HK := Lib.hid hK
  clear hK
  go_simp
  refine HK.out _ _ (SApp.intro (fun _ => trivial) (UPC.out _ BV3.out.since)) ?_
  clear K HK
  intro _ _
  refine WL.done (by kernel_rfl) ?_ _
  obtain rfl : xs.length = n := HN.out
  have HFIN := Lib.hid (show ∃ s : SR, Ending.returned (.pointer (some ⟨w2.heap.size, 0, none⟩)) = .returned (.pointer (some ⟨s.G, 0, none⟩)) ∧ s.c = c ∧ s.xs = xs ∧ Bank w _ s.accs from ⟨⟨w2.heap.size, c, A2, c2, xs⟩, rfl, rfl, rfl, BV3.out⟩)
  clear HM HN HL HC HNO UPC BV1 BV2 BV3
  simp only [Exit.then]
  go_wp2
  go_ret
  exact HFIN.out
end Go.Proofs.YtfpjmeknjhhakaaGreat.K
