/- The contract of the law's like, at what is alike. -/
import Derived.Test.YtfpjmeknjhhakaaSqLaw22W
import Derived.Test.YtfpjmeknjhhakaaSq8
namespace Go.Proofs.Ytfpjmeknjhhakaa.K
open Go Go.RowKit Go.Maps

/-- a reference's store in a world -/
def refCells (c : S.Cl) (A : Option Addr) (n cM : Nat) : List Value := [.int .i64 c.term, .int .i64 c.vote, .int .i64 c.applied, .int .i64 c.active, .slice A n cM]
abbrev RefC (w : World) (M : Nat) (c : S.Cl) (A : Option Addr) (n cM : Nat) : Prop := w.cell? ⟨M, 0, none⟩ = some (.int .i64 c.term) ∧ w.cell? ⟨M, 1, none⟩ = some (.int .i64 c.vote) ∧ w.cell? ⟨M, 2, none⟩ = some (.int .i64 c.applied) ∧ w.cell? ⟨M, 3, none⟩ = some (.int .i64 c.active) ∧ w.cell? ⟨M, 4, none⟩ = some (.slice A n cM)
theorem RefC.since {w w' : World} {M : Nat} {c : S.Cl} {A : Option Addr} {n cM : Nat} (h : RefC w M c A n cM) (hs : Since w w') : RefC w' M c A n cM :=
  ⟨(hs.cell (block_lt_of_cell h.1)).trans h.1, (hs.cell (block_lt_of_cell h.2.1)).trans h.2.1, (hs.cell (block_lt_of_cell h.2.2.1)).trans h.2.2.1, (hs.cell (block_lt_of_cell h.2.2.2.1)).trans h.2.2.2.1, (hs.cell (block_lt_of_cell h.2.2.2.2)).trans h.2.2.2.2⟩
set_option maxHeartbeats 4000000 in
set_option maxRecDepth 100000 in
theorem like_eq (w0 w : World) (D R : Nat) (room : Int) (fs : List F.Fr) (sf Z : Nat) (st : S.St) (L : List Acc) (M : Nat) (A : Option Addr) (n cM : Nat) (h : LS w0 w D R room fs sf Z st L) (hM : RefC w M st.c A n cM) (hn : st.l.length = n) (hE : EntsRd w A st.l) (hn2 : n ≤ 1000000) (hd : ∀ e ∈ st.l, e.data.length ≤ 100000000) :
    Calls Try.prog 33 #[.pointer (some ⟨Z, 0, none⟩), .pointer (some ⟨M, 0, none⟩)] w fun e w' => e = .returned (.bool true) ∧ Since w w' := by
  have HM := Lib.hid hM; have HN := Lib.hid hn; have HE := Lib.hid hE; have HD := Lib.hid hd
  have H0 := Lib.hid (h.call (Below.refl _ _).drew)
  have HS0 := Lib.hid (show Since w w.drew from (Below.refl w.heap.size w).drew)
  clear h hM hn hE hd
  go_enter Try.func33, Try.ntmps33
  go_upto_region 1 with fail
  refine WL.region (SApp 99 (fun _ => True) (fun w' => RefC w' M st.c A n cM)) (by kernel_rfl) ?_
  intro hsh
  have hS : SApp 99 (fun _ => True) (fun w' => RefC w' M st.c A n cM) (Array.replicate 18 false) w.drew := ⟨fun _ => trivial, HM.out.since HS0.out⟩
  refine WL.take (i := 0) (v := ?_) (S0 := fun _ => True) rfl (by kernel_rfl) (by kernel_rfl) (by kernel_rfl) (fun _ _ _ h => h) (SApp.hm (by decide)) (SApp.any) hsh (Or.inl ⟨by rfl, ?_⟩) hS ?_
  rotate_left
  · intro w hSw; clear hSw; go_simp <;> rfl
  clear hsh hS; intro hsh hS
  try simp only [Act.put, List.setIfInBounds_toArray, List.set_cons_zero, List.set_cons_succ]
  refine WL.take (i := 3) (v := ?_) (S0 := fun _ => True) rfl (by kernel_rfl) (by kernel_rfl) (by kernel_rfl) (fun _ _ _ h => h) (SApp.hm (by decide)) (SApp.any) hsh (Or.inl ⟨by rfl, ?_⟩) hS ?_
  rotate_left
  · intro w hSw; clear hSw; go_simp <;> rfl
  clear hsh hS; intro hsh hS
  try simp only [Act.put, List.setIfInBounds_toArray, List.set_cons_zero, List.set_cons_succ]
  refine WL.take (i := 4) (v := ?_) (S0 := fun _ => True) rfl (by kernel_rfl) (by kernel_rfl) (by kernel_rfl) (fun _ _ _ h => h) (SApp.hm (by decide)) (SApp.any) hsh (Or.inl ⟨by rfl, ?_⟩) hS ?_
  rotate_left
  · intro w hSw; clear hSw; go_simp <;> rfl
  clear hsh hS; intro hsh hS
  try simp only [Act.put, List.setIfInBounds_toArray, List.set_cons_zero, List.set_cons_succ]
  refine WL.take (i := 5) (v := ?_) (S0 := fun _ => True) rfl (by kernel_rfl) (by kernel_rfl) (by kernel_rfl) (fun _ _ _ h => h) (SApp.hm (by decide)) (SApp.any) hsh (Or.inl ⟨by rfl, ?_⟩) hS ?_
  rotate_left
  · intro w hSw; clear hSw; go_simp <;> rfl
  clear hsh hS; intro hsh hS
  try simp only [Act.put, List.setIfInBounds_toArray, List.set_cons_zero, List.set_cons_succ]
  refine WL.take (i := 6) (v := ?_) rfl (by kernel_rfl) (by kernel_rfl) (by kernel_rfl) (fun _ _ _ h => h) (SApp.hm (by decide)) (SApp.right) hsh (Or.inl ⟨by rfl, ?_⟩) hS ?_
  rotate_left
  · intro w hSw; go_simp <;> rfl
  clear hsh hS; intro hsh hS
  try simp only [Act.put, List.setIfInBounds_toArray, List.set_cons_zero, List.set_cons_succ]
  have HSH := Lib.hid hsh
  clear hsh hS
  refine WL.one (i := 1) HSH.out (by kernel_rfl) rfl ?_
  intro K hK
  have HK := Lib.hid hK
  clear hK
  go_simp
  refine (cellL w0 _ D R room fs sf Z st L H0.out).mono ?_
  rintro e w1 ⟨rfl, hs1⟩
  have H1 := Lib.hid (H0.out.call hs1)
  have HS1 := Lib.hid (HS0.out.add hs1)
  clear hs1 H0 HS0
  refine HK.out _ _ (SApp.intro (fun _ => trivial) (HM.out.since HS1.out)) ?_
  clear K HK HSH
  intro hsh hS
  try simp only [Act.put, List.setIfInBounds_toArray, List.set_cons_zero, List.set_cons_succ]
  have HSH := Lib.hid hsh
  clear hsh hS
  refine WL.one (i := 2) HSH.out (by kernel_rfl) rfl ?_
  intro K hK
  have HK := Lib.hid hK
  clear hK
  go_simp
  refine (lcell_any st.c.term st.c.vote st.c.applied st.c.active w1).mono ?_
  rintro e w2 ⟨rfl, hs2⟩
  have H2 := Lib.hid (H1.out.call hs2)
  have HS2 := Lib.hid (HS1.out.add hs2)
  clear hs2 H1 HS1
  refine HK.out _ _ (SApp.intro (fun _ => trivial) (HM.out.since HS2.out)) ?_
  clear K HK HSH
  intro hsh hS
  try simp only [Act.put, List.setIfInBounds_toArray, List.set_cons_zero, List.set_cons_succ]
  refine WL.take (i := 7) (v := ?_) (S0 := fun _ => True) rfl (by kernel_rfl) (by kernel_rfl) (by kernel_rfl) (fun _ _ _ h => h) (SApp.hm (by decide)) (SApp.any) hsh (Or.inl ⟨by rfl, ?_⟩) hS ?_
  rotate_left
  · intro w hSw; clear hSw; go_simp <;> rfl
  clear hsh hS; intro hsh hS
  try simp only [Act.put, List.setIfInBounds_toArray, List.set_cons_zero, List.set_cons_succ]
  refine WL.take (i := 8) (v := ?_) (S0 := fun _ => True) rfl (by kernel_rfl) (by kernel_rfl) (by kernel_rfl) (fun _ _ _ h => h) (SApp.hm (by decide)) (SApp.any) hsh (Or.inl ⟨by rfl, ?_⟩) hS ?_
  rotate_left
  · intro w hSw; clear hSw; go_simp <;> rfl
  clear hsh hS; intro hsh hS
  try simp only [Act.put, List.setIfInBounds_toArray, List.set_cons_zero, List.set_cons_succ]
  refine WL.take (i := 9) (v := ?_) (S0 := fun _ => True) rfl (by kernel_rfl) (by kernel_rfl) (by kernel_rfl) (fun _ _ _ h => h) (SApp.hm (by decide)) (SApp.any) hsh (Or.inl ⟨by rfl, ?_⟩) hS ?_
  rotate_left
  · intro w hSw; clear hSw; go_simp <;> rfl
  clear hsh hS; intro hsh hS
  try simp only [Act.put, List.setIfInBounds_toArray, List.set_cons_zero, List.set_cons_succ]
  refine WL.take (i := 11) (v := ?_) (S0 := fun _ => True) rfl (by kernel_rfl) (by kernel_rfl) (by kernel_rfl) (fun _ _ _ h => h) (SApp.hm (by decide)) (SApp.any) hsh (Or.inl ⟨by rfl, ?_⟩) hS ?_
  rotate_left
  · intro w hSw; clear hSw; go_simp <;> rfl
  clear hsh hS; intro hsh hS
  try simp only [Act.put, List.setIfInBounds_toArray, List.set_cons_zero, List.set_cons_succ]
  refine WL.take (i := 12) (v := ?_) (S0 := fun _ => True) rfl (by kernel_rfl) (by kernel_rfl) (by kernel_rfl) (fun _ _ _ h => h) (SApp.hm (by decide)) (SApp.any) hsh (Or.inl ⟨by rfl, ?_⟩) hS ?_
  rotate_left
  · intro w hSw; clear hSw; go_simp <;> rfl
  clear hsh hS; intro hsh hS
  try simp only [Act.put, List.setIfInBounds_toArray, List.set_cons_zero, List.set_cons_succ]
  refine WL.take (i := 13) (v := ?_) (S0 := fun _ => True) rfl (by kernel_rfl) (by kernel_rfl) (by kernel_rfl) (fun _ _ _ h => h) (SApp.hm (by decide)) (SApp.any) hsh (Or.inl ⟨by rfl, ?_⟩) hS ?_
  rotate_left
  · intro w hSw; clear hSw; go_simp <;> rfl
  clear hsh hS; intro hsh hS
  try simp only [Act.put, List.setIfInBounds_toArray, List.set_cons_zero, List.set_cons_succ]
  refine WL.take (i := 14) (v := ?_) rfl (by kernel_rfl) (by kernel_rfl) (by kernel_rfl) (fun _ _ _ h => h) (SApp.hm (by decide)) (SApp.right) hsh (Or.inl ⟨by rfl, ?_⟩) hS ?_
  rotate_left
  · intro w hSw; go_simp <;> rfl
  clear hsh hS; intro hsh hS
  try simp only [Act.put, List.setIfInBounds_toArray, List.set_cons_zero, List.set_cons_succ]
  have HSH := Lib.hid hsh
  clear hsh hS
  refine WL.one (i := 10) HSH.out (by kernel_rfl) rfl ?_
  intro K hK
  have HK := Lib.hid hK
  clear hK
  go_simp
  refine (entsL w0 w2 D R room fs sf Z st L H2.out (by have := HN.out; omega) HD.out).mono ?_
  rintro e w3 ⟨A', n', c', ys, rfl, hy1, hy2, hB⟩
  have HS3 := Lib.hid (HS2.out.add hB.since)
  have HA' := Lib.hid (show EntsRd w3 A' st.l by rw [← hy1]; exact evs_rd hB (.head _) (fun x hx => .tail _ (List.mem_map.2 ⟨x, by simpa using hx, rfl⟩)) hy2)
  obtain rfl : n' = n := by rw [← hy2, ← HN.out, ← hy1, List.length_map]
  clear hy1 hy2 hB H2 HS2
  refine HK.out _ _ (SApp.intro (fun _ => trivial) (HM.out.since HS3.out)) ?_
  clear K HK HSH
  intro hsh hS
  try simp only [Act.put, List.setIfInBounds_toArray, List.set_cons_zero, List.set_cons_succ]
  have HSH := Lib.hid hsh
  clear hsh hS
  refine WL.one (i := 15) HSH.out (by kernel_rfl) rfl ?_
  intro K hK
  have HK := Lib.hid hK
  clear hK
  go_simp
  refine (SameEntries_eq A' n' c' A cM st.l w3 HN.out HA'.out (HE.out.since HS3.out) (by omega) (fun e he => by have := HD.out e he; omega)).mono ?_
  rintro e w4 ⟨rfl, hs4⟩
  have HS4 := Lib.hid (HS3.out.add hs4)
  clear hs4 HS3 HA'
  refine HK.out _ _ (SApp.intro (fun _ => trivial) (HM.out.since HS4.out)) ?_
  clear K HK HSH
  intro hsh hS
  try simp only [Act.put, List.setIfInBounds_toArray, List.set_cons_zero, List.set_cons_succ]
  refine WL.take (i := 16) (v := ?_) (S0 := fun _ => True) rfl (by kernel_rfl) (by kernel_rfl) (by kernel_rfl) (fun _ _ _ h => h) (SApp.hm (by decide)) (SApp.any) hsh (Or.inl ⟨by rfl, ?_⟩) hS ?_
  rotate_left
  · intro w hSw; clear hSw; go_simp <;> rfl
  clear hsh hS; intro hsh hS
  try simp only [Act.put, List.setIfInBounds_toArray, List.set_cons_zero, List.set_cons_succ]
  have HSH := Lib.hid hsh
  clear hsh hS
  refine WL.one (i := 17) HSH.out (by kernel_rfl) rfl ?_
  intro K hK
  have HK := Lib.hid hK
  clear hK
  go_simp
  refine HK.out _ _ (SApp.intro (fun _ => trivial) (HM.out.since HS4.out)) ?_
  clear K HK HSH
  intro _ _
  refine WL.done (by kernel_rfl) ?_ _
  have HFIN := Lib.hid HS4.out
  clear HM HN HE HD HS4
  simp only [Exit.then, Exit.inBlock]
  go_wp2
  go_ret
  exact ⟨rfl, HFIN.out⟩
end Go.Proofs.Ytfpjmeknjhhakaa.K
