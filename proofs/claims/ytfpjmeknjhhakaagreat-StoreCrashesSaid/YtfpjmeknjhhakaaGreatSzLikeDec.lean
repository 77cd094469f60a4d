/- (made by genlikedec.py) The contract of the law's like, of whatever: it decides. -/
import Derived.Test.YtfpjmeknjhhakaaGreatSz12
import Derived.Test.YtfpjmeknjhhakaaGreatSzSameDec
namespace Go.Proofs.YtfpjmeknjhhakaaGreat.K
open Go Go.RowKit Go.Maps

theorem cl_if {α : Sort _} (a b : S.Cl) (x y : α) : (if a.term = b.term then if a.vote = b.vote then if a.applied = b.applied then if a.active = b.active then x else y else y else y else y) = if a = b then x else y := by
  obtain ⟨a0, a1, a2, a3⟩ := a
  obtain ⟨b0, b1, b2, b3⟩ := b
  have h : ((⟨a0, a1, a2, a3⟩ : S.Cl) = ⟨b0, b1, b2, b3⟩) ↔ (a0 = b0 ∧ a1 = b1 ∧ a2 = b2 ∧ a3 = b3) := by simp
  simp only [h]
  by_cases h0 : a0 = b0 <;> by_cases h1 : a1 = b1 <;> by_cases h2 : a2 = b2 <;> by_cases h3 : a3 = b3 <;> simp [h0, h1, h2, h3]
theorem st_ext {s t : S.St} (h : s.c = t.c) (h2 : s.l = t.l) : s = t := by cases s; cases t; simp_all
set_option maxHeartbeats 4000000 in
set_option maxRecDepth 100000 in
theorem like_dec (w0 w : World) (D R : Nat) (room : Int) (fs : List F.Fr) (sf Z : Nat) (st : S.St) (L : List Acc) (M : Nat) (t : S.St) (A : Option Addr) (n cM : Nat) (h : LS w0 w D R room fs sf Z st L) (hM : RefC w M t.c A n cM) (hn : t.l.length = n) (hE : EntsRd w A t.l) (hn2 : st.l.length ≤ 1000000) (hd : ∀ e ∈ st.l, e.data.length ≤ 100000000) (hd2 : ∀ e ∈ t.l, e.data.length ≤ 100000000) :
    Calls Tryz.prog 14 #[.pointer (some ⟨Z, 0, none⟩), .pointer (some ⟨M, 0, none⟩)] w (SaidD w (st = t)) := by
  have HM := Lib.hid hM; have HN := Lib.hid hn; have HE := Lib.hid hE; have HD := Lib.hid hd; have HD2 := Lib.hid hd2
  have H0 := Lib.hid (h.call (Below.refl _ _).drew)
  have HS0 := Lib.hid (show Since w w.drew from (Below.refl w.heap.size w).drew)
  clear h hM hn hE hd hd2
  go_enter Tryz.func14, Tryz.ntmps14
  go_upto_region 1 with fail
  refine WL.region (SApp 99 (fun _ => True) (fun w' => RefC w' M t.c A n cM)) (by kernel_rfl) ?_
  intro hsh
  have hS : SApp 99 (fun _ => True) (fun w' => RefC w' M t.c A n cM) (Array.replicate 18 false) w.drew := ⟨fun _ => trivial, HM.out.since HS0.out⟩
  refine WL.take (i := 0) (v := ?_) (S0 := fun _ => True) rfl (by kernel_rfl) (by kernel_rfl) (by kernel_rfl) (fun _ _ _ h => h) (SApp.hm (by decide)) (SApp.any) hsh (Or.inl ⟨by rfl, ?_⟩) hS ?_
  rotate_left
  · intro w hSw; clear hSw; go_simp <;> rfl
  clear hsh hS; intro hsh hS
  try simp only [Act.put, List.setIfInBounds_toArray]
  refine WL.take (i := 3) (v := ?_) (S0 := fun _ => True) rfl (by kernel_rfl) (by kernel_rfl) (by kernel_rfl) (fun _ _ _ h => h) (SApp.hm (by decide)) (SApp.any) hsh (Or.inl ⟨by rfl, ?_⟩) hS ?_
  rotate_left
  · intro w hSw; clear hSw; go_simp <;> rfl
  clear hsh hS; intro hsh hS
  try simp only [Act.put]
  refine WL.take (i := 4) (v := ?_) (S0 := fun _ => True) rfl (by kernel_rfl) (by kernel_rfl) (by kernel_rfl) (fun _ _ _ h => h) (SApp.hm (by decide)) (SApp.any) hsh (Or.inl ⟨by rfl, ?_⟩) hS ?_
  rotate_left
  · intro w hSw; clear hSw; go_simp <;> rfl
  clear hsh hS; intro hsh hS
  try simp only [Act.put]
  refine WL.take (i := 5) (v := ?_) (S0 := fun _ => True) rfl (by kernel_rfl) (by kernel_rfl) (by kernel_rfl) (fun _ _ _ h => h) (SApp.hm (by decide)) (SApp.any) hsh (Or.inl ⟨by rfl, ?_⟩) hS ?_
  rotate_left
  · intro w hSw; clear hSw; go_simp <;> rfl
  clear hsh hS; intro hsh hS
  try simp only [Act.put]
  refine WL.take (i := 6) (v := ?_) rfl (by kernel_rfl) (by kernel_rfl) (by kernel_rfl) (fun _ _ _ h => h) (SApp.hm (by decide)) (SApp.right) hsh (Or.inl ⟨by rfl, ?_⟩) hS ?_
  rotate_left
  · intro w hSw; go_simp <;> rfl
  clear hsh hS; intro hsh hS
  try simp only [Act.put]
  have HSH := Lib.hid hsh
  clear hsh hS
  refine WL.one (i := 1) HSH.out (by kernel_rfl) rfl ?_
  intro K hK
  have HK := Lib.hid hK
  clear hK
  go_simp
  refine (cellL w0 _ D R room fs sf Z st L H0.out).mono ?_
  rintro e w1 ⟨rfl, hs1⟩
  have H1 := Lib.hid (H0.out.call hs1)
  have HS1 := Lib.hid (HS0.out.add hs1)
  clear hs1 H0 HS0
  refine HK.out _ _ (SApp.intro (fun _ => trivial) (HM.out.since HS1.out)) ?_
  clear K HK HSH
  intro hsh hS
  try simp only [Act.put, List.setIfInBounds_toArray, List.set_cons_zero, List.set_cons_succ]
  have HSH := Lib.hid hsh
  clear hsh hS
  refine WL.one (i := 2) HSH.out (by kernel_rfl) rfl ?_
  intro K hK
  have HK := Lib.hid hK
  clear hK
  go_simp
  refine (lcell_any st.c.term st.c.vote st.c.applied st.c.active w1).mono ?_
  rintro e w2 ⟨rfl, hs2⟩
  have H2 := Lib.hid (H1.out.call hs2)
  have HS2 := Lib.hid (HS1.out.add hs2)
  clear hs2 H1 HS1
  refine HK.out _ _ (SApp.intro (fun _ => trivial) (HM.out.since HS2.out)) ?_
  clear K HK HSH
  intro hsh hS
  try simp only [Act.put, List.setIfInBounds_toArray, List.set_cons_zero, List.set_cons_succ]
  obtain ⟨bq, hbq⟩ : ∃ bq, bq = decide (st.c = t.c) := ⟨_, rfl⟩
  refine WL.take (i := 7) (v := .bool bq) (S0 := fun _ => True) rfl (by kernel_rfl) (by kernel_rfl) (by kernel_rfl) (fun _ _ _ h => h) (SApp.hm (by decide)) (SApp.any) hsh (Or.inl ⟨by rfl, ?_⟩) hS ?_
  · intro w hSw
    clear hSw
    go_simp

    rw [cl_if]
    by_cases h : st.c = t.c <;> simp [h]
  have HBQ := Lib.hid hbq
  clear hbq
  clear hsh hS; intro hsh hS
  try simp only [Act.put, List.setIfInBounds_toArray]
  refine WL.take (i := 8) (v := ?_) (S0 := fun _ => True) rfl (by kernel_rfl) (by kernel_rfl) (by kernel_rfl) (fun _ _ _ h => h) (SApp.hm (by decide)) (SApp.any) hsh (Or.inl ⟨by rfl, ?_⟩) hS ?_
  rotate_left
  · intro w hSw; clear hSw; go_simp <;> rfl
  clear hsh hS; intro hsh hS
  try simp only [Act.put]
  cases bq with
  | false =>
    refine WL.take (i := 9) (v := undef) (S0 := fun _ => True) rfl (by kernel_rfl) (by kernel_rfl) (by kernel_rfl) (fun _ _ _ h => h) (SApp.hm (by decide)) (SApp.any) hsh (Or.inr ⟨by rfl, rfl⟩) hS ?_
    clear hsh hS; intro hsh hS
    try simp only [Act.put]
    refine WL.take (i := 11) (v := undef) (S0 := fun _ => True) rfl (by kernel_rfl) (by kernel_rfl) (by kernel_rfl) (fun _ _ _ h => h) (SApp.hm (by decide)) (SApp.any) hsh (Or.inr ⟨by rfl, rfl⟩) hS ?_
    clear hsh hS; intro hsh hS
    try simp only [Act.put]
    refine WL.take (i := 12) (v := undef) (S0 := fun _ => True) rfl (by kernel_rfl) (by kernel_rfl) (by kernel_rfl) (fun _ _ _ h => h) (SApp.hm (by decide)) (SApp.any) hsh (Or.inr ⟨by rfl, rfl⟩) hS ?_
    clear hsh hS; intro hsh hS
    try simp only [Act.put]
    refine WL.take (i := 13) (v := undef) (S0 := fun _ => True) rfl (by kernel_rfl) (by kernel_rfl) (by kernel_rfl) (fun _ _ _ h => h) (SApp.hm (by decide)) (SApp.any) hsh (Or.inr ⟨by rfl, rfl⟩) hS ?_
    clear hsh hS; intro hsh hS
    try simp only [Act.put]
    refine WL.take (i := 14) (v := undef) (S0 := fun _ => True) rfl (by kernel_rfl) (by kernel_rfl) (by kernel_rfl) (fun _ _ _ h => h) (SApp.hm (by decide)) (SApp.any) hsh (Or.inr ⟨by rfl, rfl⟩) hS ?_
    clear hsh hS; intro hsh hS
    try simp only [Act.put]
    have HSH := Lib.hid hsh
    clear hsh hS
    refine WL.one (i := 10) HSH.out (by kernel_rfl) rfl ?_
    intro K hK
    have HK := Lib.hid hK
    clear hK
    go_simp
    refine HK.out _ _ (SApp.intro (fun _ => trivial) (HM.out.since HS2.out)) ?_
    clear K HK HSH
    intro hsh hS
    try simp only [Act.put, List.setIfInBounds_toArray, List.set_cons_zero, List.set_cons_succ]
    have HSH := Lib.hid hsh
    clear hsh hS
    refine WL.one (i := 15) HSH.out (by kernel_rfl) rfl ?_
    intro K hK
    have HK := Lib.hid hK
    clear hK
    go_simp
    refine HK.out _ _ (SApp.intro (fun _ => trivial) (HM.out.since HS2.out)) ?_
    clear K HK HSH
    intro hsh hS
    try simp only [Act.put, List.setIfInBounds_toArray, List.set_cons_zero, List.set_cons_succ]
    refine WL.take (i := 16) (v := ?_) (S0 := fun _ => True) rfl (by kernel_rfl) (by kernel_rfl) (by kernel_rfl) (fun _ _ _ h => h) (SApp.hm (by decide)) (SApp.any) hsh (Or.inl ⟨by rfl, ?_⟩) hS ?_
    rotate_left
    · intro w hSw; clear hSw; go_simp <;> rfl
    clear hsh hS; intro hsh hS
    try simp only [Act.put, List.setIfInBounds_toArray]
    have HSH := Lib.hid hsh
    clear hsh hS
    refine WL.one (i := 17) HSH.out (by kernel_rfl) rfl ?_
    intro K hK
    have HK := Lib.hid hK
    clear hK
    go_simp
    refine HK.out _ _ (SApp.intro (fun _ => trivial) (HM.out.since HS2.out)) ?_
    clear K HK HSH
    intro _ _
    refine WL.done (by kernel_rfl) ?_ _
    have HFIN := Lib.hid (show SaidD w (st = t) (.returned (.bool false)) _ from ⟨false, by simp; intro h; have h2 := HBQ.out; rw [h] at h2; simp at h2, rfl, HS2.out⟩)
    clear HM HN HE HD HD2 HS2 HBQ
    simp only [Exit.then]
    go_wp2
    go_ret
    exact HFIN.out
  | true =>
    refine WL.take (i := 9) (v := ?_) (S0 := fun _ => True) rfl (by kernel_rfl) (by kernel_rfl) (by kernel_rfl) (fun _ _ _ h => h) (SApp.hm (by decide)) (SApp.any) hsh (Or.inl ⟨by rfl, ?_⟩) hS ?_
    rotate_left
    · intro w hSw; clear hSw; go_simp <;> rfl
    clear hsh hS; intro hsh hS
    try simp only [Act.put]
    refine WL.take (i := 11) (v := ?_) (S0 := fun _ => True) rfl (by kernel_rfl) (by kernel_rfl) (by kernel_rfl) (fun _ _ _ h => h) (SApp.hm (by decide)) (SApp.any) hsh (Or.inl ⟨by rfl, ?_⟩) hS ?_
    rotate_left
    · intro w hSw; clear hSw; go_simp <;> rfl
    clear hsh hS; intro hsh hS
    try simp only [Act.put]
    refine WL.take (i := 12) (v := ?_) (S0 := fun _ => True) rfl (by kernel_rfl) (by kernel_rfl) (by kernel_rfl) (fun _ _ _ h => h) (SApp.hm (by decide)) (SApp.any) hsh (Or.inl ⟨by rfl, ?_⟩) hS ?_
    rotate_left
    · intro w hSw; clear hSw; go_simp <;> rfl
    clear hsh hS; intro hsh hS
    try simp only [Act.put]
    refine WL.take (i := 13) (v := ?_) (S0 := fun _ => True) rfl (by kernel_rfl) (by kernel_rfl) (by kernel_rfl) (fun _ _ _ h => h) (SApp.hm (by decide)) (SApp.any) hsh (Or.inl ⟨by rfl, ?_⟩) hS ?_
    rotate_left
    · intro w hSw; clear hSw; go_simp <;> rfl
    clear hsh hS; intro hsh hS
    try simp only [Act.put]
    refine WL.take (i := 14) (v := ?_) rfl (by kernel_rfl) (by kernel_rfl) (by kernel_rfl) (fun _ _ _ h => h) (SApp.hm (by decide)) (SApp.right) hsh (Or.inl ⟨by rfl, ?_⟩) hS ?_
    rotate_left
    · intro w hSw; go_simp <;> rfl
    clear hsh hS; intro hsh hS
    try simp only [Act.put]
    have HSH := Lib.hid hsh
    clear hsh hS
    refine WL.one (i := 10) HSH.out (by kernel_rfl) rfl ?_
    intro K hK
    have HK := Lib.hid hK
    clear hK
    go_simp
    refine (entsL w0 w2 D R room fs sf Z st L H2.out hn2 HD.out).mono ?_
    rintro e w3 ⟨A', n', c', ys, rfl, hy1, hy2, hB⟩
    have HS3 := Lib.hid (HS2.out.add hB.since)
    have HA' := Lib.hid (show EntsRd w3 A' st.l by rw [← hy1]; exact evs_rd hB (.head _) (fun x hx => .tail _ (List.mem_map.2 ⟨x, by simpa using hx, rfl⟩)) hy2)
    have HNL := Lib.hid (show st.l.length = n' by rw [← hy2, ← hy1, List.length_map])
    have hnn : n' ≤ 1000000 := by rw [← HNL.out]; exact hn2
    clear hy1 hy2 hB H2 HS2
    refine HK.out _ _ (SApp.intro (fun _ => trivial) (HM.out.since HS3.out)) ?_
    clear K HK HSH
    intro hsh hS
    try simp only [Act.put, List.setIfInBounds_toArray, List.set_cons_zero, List.set_cons_succ]
    have HSH := Lib.hid hsh
    clear hsh hS
    refine WL.one (i := 15) HSH.out (by kernel_rfl) rfl ?_
    intro K hK
    have HK := Lib.hid hK
    clear hK
    go_simp
    refine (SameEntries_dec A' n' c' A n cM st.l t.l w3 HNL.out HN.out HA'.out (HE.out.since HS3.out) (by omega) (fun e he => by have := HD.out e he; omega) (fun e he => by have := HD2.out e he; omega)).mono ?_
    rintro e w4 ⟨bb, hbb, rfl, hs4⟩
    have HS4 := Lib.hid (HS3.out.add hs4)
    have HBB := Lib.hid hbb
    clear hs4 HS3 HA' hbb HNL hnn
    refine HK.out _ _ (SApp.intro (fun _ => trivial) (HM.out.since HS4.out)) ?_
    clear K HK HSH
    intro hsh hS
    try simp only [Act.put, List.setIfInBounds_toArray, List.set_cons_zero, List.set_cons_succ]
    refine WL.take (i := 16) (v := ?_) (S0 := fun _ => True) rfl (by kernel_rfl) (by kernel_rfl) (by kernel_rfl) (fun _ _ _ h => h) (SApp.hm (by decide)) (SApp.any) hsh (Or.inl ⟨by rfl, ?_⟩) hS ?_
    rotate_left
    · intro w hSw; clear hSw; go_simp <;> rfl
    clear hsh hS; intro hsh hS
    try simp only [Act.put, List.setIfInBounds_toArray]
    have HSH := Lib.hid hsh
    clear hsh hS
    refine WL.one (i := 17) HSH.out (by kernel_rfl) rfl ?_
    intro K hK
    have HK := Lib.hid hK
    clear hK
    go_simp
    refine HK.out _ _ (SApp.intro (fun _ => trivial) (HM.out.since HS4.out)) ?_
    clear K HK HSH
    intro _ _
    refine WL.done (by kernel_rfl) ?_ _
    have HFIN := Lib.hid (show SaidD w (st = t) (.returned (.bool bb)) _ from ⟨bb, by
      rw [HBB.out]
      have h2 : st.c = t.c := by simpa using HBQ.out.symm
      exact ⟨fun h => st_ext h2 h, fun h => by rw [h]⟩, rfl, HS4.out⟩)
    clear HM HN HE HD HD2 HS4 HBQ HBB
    simp only [Exit.then]
    go_wp2
    go_ret
    exact HFIN.out
end Go.Proofs.YtfpjmeknjhhakaaGreat.K
