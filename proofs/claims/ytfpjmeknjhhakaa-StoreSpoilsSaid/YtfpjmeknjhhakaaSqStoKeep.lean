/- The contract of store's Keep. -/
import Derived.Test.YtfpjmeknjhhakaaSqStoPut
import Derived.Test.YtfpjmeknjhhakaaSq8
namespace Go.Proofs.Ytfpjmeknjhhakaa.K
open Go Go.RowKit Go.Maps

theorem join_litS (l : List RB) (w : World) (cs : Array Value) (k c : Nat) (hcs : cs = (l.map fun p => p.1.v).toArray) (hk : k = l.length) (hl : ∀ p ∈ l, RowRd w p.1 p.2) (hm : l.length ≤ 1000) (hN : (flat l).length ≤ 100000000000000) :
    Calls Try.prog 69 #[.slice (some ⟨w.heap.size, 0, none⟩) k c] (w.alloc (.cells cs 27)) (MadeO (w.alloc (.cells cs 27)) (flat l)) := by
  subst hcs hk
  have hj : joined (bytesAt l) l.length = flat l := joined_all l
  refine (join_any _ l.length c (rowsOf l) (bytesAt l) _ (parts_of l rfl hl) (by omega) (by rw [hj]; exact hN)).mono ?_
  rintro e w' ⟨A, N, c', he, hN', ho, hb⟩
  rw [hj] at hN' ho
  exact ⟨A, N, c', he, hN', ho, hb⟩
theorem num_madeS (n : Int) (w : World) : Calls Try.prog 70 #[.int .i64 n] w (Made w (M.num n)) :=
  (wnum_any n w).mono fun e w' ⟨g, he, ho, hb⟩ => ⟨g, 8, 8, he, rfl, ho, hb⟩
/-- what was made stands with the rest of a disk and its store -/
theorem SK.add {w0 w w' : World} {D R : Nat} {room : Int} {o : Option Fil} {Z : Nat} {c : S.Cl} {A : Option Addr} {cE : Nat} {xs : List EV} {L F : List Acc} (h : SK w0 w D R room o Z c A cE xs L) (h' : Bank w w' F) : SK w0 w' D R room o Z c A cE xs (F ++ L) := by
  have h1 := h.dk.under h'
  refine h1.perm ?_
  show (F ++ ((stAcc Z D c A xs.length cE :: evsAcc A xs.length cE xs :: evRows xs) ++ L)).Perm ((stAcc Z D c A xs.length cE :: evsAcc A xs.length cE xs :: evRows xs) ++ (F ++ L))
  rw [← List.append_assoc, ← List.append_assoc]
  exact List.Perm.append_right _ List.perm_append_comm
abbrev BoxC (w : World) (X : Nat) (c : S.Cl) : Prop := w.cell? ⟨X, 0, none⟩ = some (.int .i64 c.term) ∧ w.cell? ⟨X, 1, none⟩ = some (.int .i64 c.vote) ∧ w.cell? ⟨X, 2, none⟩ = some (.int .i64 c.applied) ∧ w.cell? ⟨X, 3, none⟩ = some (.int .i64 c.active)
theorem boxC_of {w0 w : World} {L : List Acc} {X i : Nat} {c : S.Cl} (h : Bank w0 w L) (hi : L[i]? = some (boxAcc X 65 (clCells c))) : BoxC w X c := ⟨h.cell i hi 0 rfl, h.cell i hi 1 rfl, h.cell i hi 2 rfl, h.cell i hi 3 rfl⟩
set_option maxHeartbeats 2000000 in
set_option maxRecDepth 100000 in
theorem keep_bad (w : World) (Z D : Nat) (c : S.Cl) (A : Option Addr) (n cE : Nat) (d : S.Cl) (h : StBox w Z D c A n cE) (hm : S.may d = false) :
    Calls Try.prog 35 #[.pointer (some ⟨Z, 0, none⟩), .agg #[.int .i64 d.term, .int .i64 d.vote, .int .i64 d.applied, .int .i64 d.active]] w fun e w' => e = .returned (.int .i64 2) ∧ Since w w' := by
  have hs := Since.alloc (Below.refl w.heap.size w) (.cells #[.int .i64 d.term, .int .i64 d.vote, .int .i64 d.applied, .int .i64 d.active] 65)
  have HTH := Lib.hid (there_any Z D _ (h.since hs).c0)
  have HS := Lib.hid hs
  have HM := Lib.hid (may_any d)
  have HB := Lib.hid hm
  clear h hm hs
  go_enter Try.func35, Try.ntmps35
  go_wp2_with (go_at_call 66; refine HTH.out.mono ?_; rintro e w' ⟨rfl, rfl⟩)
  refine (HM.out _).mono ?_
  rintro e w2 ⟨rfl, hs2⟩
  rw [HB.out]
  have HFIN := Lib.hid (HS.out.add hs2)
  clear hs2 HTH HM HB HS
  go_wp2
  go_ret
  exact ⟨rfl, HFIN.out⟩
set_option maxHeartbeats 2000000 in
set_option maxRecDepth 100000 in
theorem keep_nil (w : World) (d : S.Cl) :
    Calls Try.prog 35 #[.pointer none, .agg #[.int .i64 d.term, .int .i64 d.vote, .int .i64 d.applied, .int .i64 d.active]] w fun e w' => e = .returned (.int .i64 1) ∧ Since w w' := by
  have HS := Lib.hid (Since.alloc (Below.refl w.heap.size w) (.cells #[.int .i64 d.term, .int .i64 d.vote, .int .i64 d.applied, .int .i64 d.active] 65))
  have HTH := Lib.hid (show Calls Try.prog 66 #[.pointer none] (w.alloc (.cells #[.int .i64 d.term, .int .i64 d.vote, .int .i64 d.applied, .int .i64 d.active] 65)) _ from there_nil _)
  go_enter Try.func35, Try.ntmps35
  go_wp2_with (go_at_call 66; refine HTH.out.mono ?_; rintro e w' ⟨rfl, rfl⟩)
  go_ret
  exact ⟨rfl, HS.out⟩
set_option maxHeartbeats 2000000 in
set_option maxRecDepth 100000 in
theorem keep_empty (Z : Nat) (w : World) (d : S.Cl) (h : w.cell? ⟨Z, 0, none⟩ = some (.pointer none)) :
    Calls Try.prog 35 #[.pointer (some ⟨Z, 0, none⟩), .agg #[.int .i64 d.term, .int .i64 d.vote, .int .i64 d.applied, .int .i64 d.active]] w fun e w' => e = .returned (.int .i64 1) ∧ Since w w' := by
  have HS := Lib.hid (Since.alloc (Below.refl w.heap.size w) (.cells #[.int .i64 d.term, .int .i64 d.vote, .int .i64 d.applied, .int .i64 d.active] 65))
  have HTH := Lib.hid (show Calls Try.prog 66 #[.pointer (some ⟨Z, 0, none⟩)] (w.alloc (.cells #[.int .i64 d.term, .int .i64 d.vote, .int .i64 d.applied, .int .i64 d.active] 65)) _ from there_empty Z _ (cell_old _ h))
  clear h
  go_enter Try.func35, Try.ntmps35
  go_wp2_with (go_at_call 66; refine HTH.out.mono ?_; rintro e w' ⟨rfl, rfl⟩)
  go_ret
  exact ⟨rfl, HS.out⟩
set_option maxHeartbeats 4000000 in
set_option maxRecDepth 100000 in
theorem keep_any (w0 w : World) (D R : Nat) (room : Int) (o : Option Fil) (Z : Nat) (c : S.Cl) (A : Option Addr) (cE : Nat) (xs : List EV) (L : List Acc) (d : S.Cl)
    (h : SK w0 w D R room o Z c A cE xs L) (hm : S.may d = true) (ho : olen o ≤ 100000000) (hx : xs.length ≤ 800000) :
    Calls Try.prog 35 #[.pointer (some ⟨Z, 0, none⟩), .agg #[.int .i64 d.term, .int .i64 d.vote, .int .i64 d.applied, .int .i64 d.active]] w (PutS w0 D R room o Z c A cE xs L [S.kept d] ⟨d, xs.map EV.e⟩) := by
  have hs := Since.alloc (Below.refl w.heap.size w) (.cells #[.int .i64 d.term, .int .i64 d.vote, .int .i64 d.applied, .int .i64 d.active] 65)
  have HTH := Lib.hid (there_any Z D _ (h.box.since hs).c0)
  have HM := Lib.hid (may_any d)
  have HB := Lib.hid hm
  have H0 := Lib.hid h
  have bk := (Bank.nil (Below.refl w.heap.size w)).box #[.int .i64 d.term, .int .i64 d.vote, .int .i64 d.applied, .int .i64 d.active] 65 (by simp)
  have BKA := Lib.hid bk
  clear h hm hs bk
  go_enter Try.func35, Try.ntmps35
  go_wp2_with (go_at_call 66; refine HTH.out.mono ?_; rintro e w' ⟨rfl, rfl⟩)
  refine (HM.out _).mono ?_
  rintro e w2 ⟨rfl, hs2⟩
  rw [HB.out]
  have BKB := Lib.hid (BKA.out.call hs2)
  clear hs2 HTH HM BKA
  go_upto_region 5 with fail
  obtain ⟨X, hX⟩ : ∃ X, X = w.heap.size := ⟨_, rfl⟩
  rw [← hX] at BKB
  rw [← hX]
  clear hX
  have BK0 : Hid (Bank w w2.drew [boxAcc X 65 (clCells d)]) := Lib.hid BKB.out.drew
  refine WL.region (SApp 99 (fun _ => True) (fun w' => BoxC w' X d)) (by kernel_rfl) ?_
  intro hsh
  have hS : SApp 99 (fun _ => True) (fun w' => BoxC w' X d) (Array.replicate 19 false) w2.drew := ⟨fun _ => trivial, boxC_of BK0.out (i := 0) rfl⟩
  clear BKB
  refine WL.take (i := 0) (v := ?_) (S0 := fun _ => True) rfl (by kernel_rfl) (by kernel_rfl) (by kernel_rfl) (fun _ _ _ h => h) (SApp.hm (by decide)) (SApp.any) hsh (Or.inl ⟨by rfl, ?_⟩) hS ?_
  rotate_left
  · intro w hSw; clear hSw; go_simp <;> rfl
  clear hsh hS; intro hsh hS
  try simp only [Act.put, List.setIfInBounds_toArray, List.set_cons_zero, List.set_cons_succ]
  refine WL.take (i := 1) (v := ?_) (S0 := fun _ => True) rfl (by kernel_rfl) (by kernel_rfl) (by kernel_rfl) (fun _ _ _ h => h) (SApp.hm (by decide)) (SApp.any) hsh (Or.inl ⟨by rfl, ?_⟩) hS ?_
  rotate_left
  · intro w hSw; clear hSw; go_simp <;> rfl
  clear hsh hS; intro hsh hS
  try simp only [Act.put, List.setIfInBounds_toArray, List.set_cons_zero, List.set_cons_succ]
  refine WL.take (i := 2) (v := ?_) rfl (by kernel_rfl) (by kernel_rfl) (by kernel_rfl) (fun _ _ _ h => h) (SApp.hm (by decide)) (SApp.right) hsh (Or.inl ⟨by rfl, ?_⟩) hS ?_
  rotate_left
  · intro w hSw; go_simp <;> rfl
  clear hsh hS; intro hsh hS
  try simp only [Act.put, List.setIfInBounds_toArray, List.set_cons_zero, List.set_cons_succ]
  refine WL.take (i := 4) (v := ?_) (S0 := fun _ => True) rfl (by kernel_rfl) (by kernel_rfl) (by kernel_rfl) (fun _ _ _ h => h) (SApp.hm (by decide)) (SApp.any) hsh (Or.inl ⟨by rfl, ?_⟩) hS ?_
  rotate_left
  · intro w hSw; clear hSw; go_simp <;> rfl
  clear hsh hS; intro hsh hS
  try simp only [Act.put, List.setIfInBounds_toArray, List.set_cons_zero, List.set_cons_succ]
  refine WL.take (i := 5) (v := ?_) rfl (by kernel_rfl) (by kernel_rfl) (by kernel_rfl) (fun _ _ _ h => h) (SApp.hm (by decide)) (SApp.right) hsh (Or.inl ⟨by rfl, ?_⟩) hS ?_
  rotate_left
  · intro w hSw; go_simp <;> rfl
  clear hsh hS; intro hsh hS
  try simp only [Act.put, List.setIfInBounds_toArray, List.set_cons_zero, List.set_cons_succ]
  refine WL.take (i := 7) (v := ?_) (S0 := fun _ => True) rfl (by kernel_rfl) (by kernel_rfl) (by kernel_rfl) (fun _ _ _ h => h) (SApp.hm (by decide)) (SApp.any) hsh (Or.inl ⟨by rfl, ?_⟩) hS ?_
  rotate_left
  · intro w hSw; clear hSw; go_simp <;> rfl
  clear hsh hS; intro hsh hS
  try simp only [Act.put, List.setIfInBounds_toArray, List.set_cons_zero, List.set_cons_succ]
  refine WL.take (i := 8) (v := ?_) rfl (by kernel_rfl) (by kernel_rfl) (by kernel_rfl) (fun _ _ _ h => h) (SApp.hm (by decide)) (SApp.right) hsh (Or.inl ⟨by rfl, ?_⟩) hS ?_
  rotate_left
  · intro w hSw; go_simp <;> rfl
  clear hsh hS; intro hsh hS
  try simp only [Act.put, List.setIfInBounds_toArray, List.set_cons_zero, List.set_cons_succ]
  refine WL.take (i := 10) (v := ?_) (S0 := fun _ => True) rfl (by kernel_rfl) (by kernel_rfl) (by kernel_rfl) (fun _ _ _ h => h) (SApp.hm (by decide)) (SApp.any) hsh (Or.inl ⟨by rfl, ?_⟩) hS ?_
  rotate_left
  · intro w hSw; clear hSw; go_simp <;> rfl
  clear hsh hS; intro hsh hS
  try simp only [Act.put, List.setIfInBounds_toArray, List.set_cons_zero, List.set_cons_succ]
  refine WL.take (i := 11) (v := ?_) rfl (by kernel_rfl) (by kernel_rfl) (by kernel_rfl) (fun _ _ _ h => h) (SApp.hm (by decide)) (SApp.right) hsh (Or.inl ⟨by rfl, ?_⟩) hS ?_
  rotate_left
  · intro w hSw; go_simp <;> rfl
  clear hsh hS; intro hsh hS
  try simp only [Act.put, List.setIfInBounds_toArray, List.set_cons_zero, List.set_cons_succ]
  have HSH := Lib.hid hsh
  clear hsh hS
  refine WL.one (i := 3) HSH.out (by kernel_rfl) rfl ?_
  intro K hK
  have HK := Lib.hid hK
  clear hK
  go_simp
  refine (num_madeS d.term _).mono ?_
  rintro e u1 ⟨g0, N0, q0, rfl, hN0, ho, hb⟩
  have BK1 := Lib.hid (BK0.out.madeB hb ho)
  have HN0 := Lib.hid hN0
  clear ho hb BK0 hN0
  refine HK.out _ _ (SApp.intro (fun _ => trivial) (boxC_of BK1.out (i := 1) rfl)) ?_
  clear K HK HSH
  intro hsh hS
  try simp only [Act.put, List.setIfInBounds_toArray, List.set_cons_zero, List.set_cons_succ]
  have HSH := Lib.hid hsh
  clear hsh hS
  refine WL.one (i := 6) HSH.out (by kernel_rfl) rfl ?_
  intro K hK
  have HK := Lib.hid hK
  clear hK
  go_simp
  refine (num_madeS d.vote _).mono ?_
  rintro e u2 ⟨g1, N1, q1, rfl, hN1, ho, hb⟩
  have BK2 := Lib.hid (BK1.out.madeB hb ho)
  have HN1 := Lib.hid hN1
  clear ho hb BK1 hN1
  refine HK.out _ _ (SApp.intro (fun _ => trivial) (boxC_of BK2.out (i := 2) rfl)) ?_
  clear K HK HSH
  intro hsh hS
  try simp only [Act.put, List.setIfInBounds_toArray, List.set_cons_zero, List.set_cons_succ]
  have HSH := Lib.hid hsh
  clear hsh hS
  refine WL.one (i := 9) HSH.out (by kernel_rfl) rfl ?_
  intro K hK
  have HK := Lib.hid hK
  clear hK
  go_simp
  refine (num_madeS d.applied _).mono ?_
  rintro e u3 ⟨g2, N2, q2, rfl, hN2, ho, hb⟩
  have BK3 := Lib.hid (BK2.out.madeB hb ho)
  have HN2 := Lib.hid hN2
  clear ho hb BK2 hN2
  refine HK.out _ _ (SApp.intro (fun _ => trivial) (boxC_of BK3.out (i := 3) rfl)) ?_
  clear K HK HSH
  intro hsh hS
  try simp only [Act.put, List.setIfInBounds_toArray, List.set_cons_zero, List.set_cons_succ]
  have HSH := Lib.hid hsh
  clear hsh hS
  refine WL.one (i := 12) HSH.out (by kernel_rfl) rfl ?_
  intro K hK
  have HK := Lib.hid hK
  clear hK
  go_simp
  refine (num_madeS d.active _).mono ?_
  rintro e u4 ⟨g3, N3, q3, rfl, hN3, ho, hb⟩
  have BK4 := Lib.hid (BK3.out.madeB hb ho)
  have HN3 := Lib.hid hN3
  clear ho hb BK3 hN3
  refine HK.out _ _ (SApp.intro (fun _ => trivial) (boxC_of BK4.out (i := 4) rfl)) ?_
  clear K HK HSH
  intro hsh hS
  try simp only [Act.put, List.setIfInBounds_toArray, List.set_cons_zero, List.set_cons_succ]
  have HSH := Lib.hid hsh
  clear hsh hS
  refine WL.one (i := 13) HSH.out (by kernel_rfl) rfl ?_
  intro K hK
  have HK := Lib.hid hK
  clear hK
  go_simp
  have BK5 := Lib.hid (BK4.out.alloc (.cells #[.slice (some ⟨g0, 0, none⟩) N0 q0, .slice (some ⟨g1, 0, none⟩) N1 q1, .slice (some ⟨g2, 0, none⟩) N2 q2, .slice (some ⟨g3, 0, none⟩) N3 q3] 27))
  refine HK.out _ _ (SApp.intro (fun _ => trivial) (boxC_of BK5.out (i := 4) rfl)) ?_
  clear K HK HSH
  intro hsh hS
  try simp only [Act.put, List.setIfInBounds_toArray, List.set_cons_zero, List.set_cons_succ]
  have HSH := Lib.hid hsh
  clear hsh hS
  refine WL.one (i := 14) HSH.out (by kernel_rfl) rfl ?_
  intro K hK
  have HK := Lib.hid hK
  clear hK
  go_simp
  have hrows : ∀ p ∈ ([(⟨some ⟨g0, 0, none⟩, N0, q0⟩, M.num d.term), (⟨some ⟨g1, 0, none⟩, N1, q1⟩, M.num d.vote), (⟨some ⟨g2, 0, none⟩, N2, q2⟩, M.num d.applied), (⟨some ⟨g3, 0, none⟩, N3, q3⟩, M.num d.active)] : List RB), RowRd u4 p.1 p.2 := by
    intro p hp
    simp only [List.mem_cons, List.not_mem_nil, or_false] at hp
    rcases hp with rfl | rfl | rfl | rfl
    · exact BK4.out.row 3 rfl
    · exact BK4.out.row 2 rfl
    · exact BK4.out.row 1 rfl
    · exact BK4.out.row 0 rfl
  have hfl : flat ([(⟨some ⟨g0, 0, none⟩, N0, q0⟩, M.num d.term), (⟨some ⟨g1, 0, none⟩, N1, q1⟩, M.num d.vote), (⟨some ⟨g2, 0, none⟩, N2, q2⟩, M.num d.applied), (⟨some ⟨g3, 0, none⟩, N3, q3⟩, M.num d.active)] : List RB) = S.cdata d := by simp [flat, S.cdata]
  refine (join_litS ([(⟨some ⟨g0, 0, none⟩, N0, q0⟩, M.num d.term), (⟨some ⟨g1, 0, none⟩, N1, q1⟩, M.num d.vote), (⟨some ⟨g2, 0, none⟩, N2, q2⟩, M.num d.applied), (⟨some ⟨g3, 0, none⟩, N3, q3⟩, M.num d.active)] : List RB) u4 _ 4 4 rfl rfl hrows (by simp) (by rw [hfl, S.cdata_length]; omega)).mono ?_
  rintro e u5 ⟨Aj, Nj, cj, rfl, hNj, hoj, hbj⟩
  rw [hfl] at hNj hoj
  have BK6 := Lib.hid (BK5.out.madeB hbj hoj)
  have HNJ := Lib.hid hNj
  clear hrows hfl hNj hoj hbj BK5
  refine HK.out _ _ (SApp.intro (fun _ => trivial) (boxC_of BK6.out (i := 5) rfl)) ?_
  clear K HK HSH
  intro hsh hS
  try simp only [Act.put, List.setIfInBounds_toArray, List.set_cons_zero, List.set_cons_succ]
  refine WL.take (i := 15) (v := ?_) (S0 := fun _ => True) rfl (by kernel_rfl) (by kernel_rfl) (by kernel_rfl) (fun _ _ _ h => h) (SApp.hm (by decide)) (SApp.any) hsh (Or.inl ⟨by rfl, ?_⟩) hS ?_
  rotate_left
  · intro w hSw; clear hSw; go_simp <;> rfl
  clear hsh hS; intro hsh hS
  try simp only [Act.put, List.setIfInBounds_toArray, List.set_cons_zero, List.set_cons_succ]
  have HSH := Lib.hid hsh
  clear hsh hS
  refine WL.one (i := 16) HSH.out (by kernel_rfl) rfl ?_
  intro K hK
  have HK := Lib.hid hK
  clear hK
  go_simp
  have BK7 := Lib.hid ((BK6.out.made ((Below.refl _ _).alloc (Nat.le_refl _) (.cells #[.int .i64 1, .slice Aj Nj cj] 36)) (World.ownsRow_lit (e := 36) (size := 2) u5 #[.int .i64 1, .slice Aj Nj cj] 1 (Nat.le_refl _) (by unfold maxLen; omega) rfl)).sub (L' := [frAcc (some ⟨u5.heap.size, 0, none⟩) 1 [⟨1, ⟨Aj, Nj, cj⟩, S.cdata d⟩], FR.acc ⟨1, ⟨Aj, Nj, cj⟩, S.cdata d⟩, boxAcc X 65 (clCells d)]) (.cons_cons _ (.cons_cons _ (.cons _ (.cons _ (.cons _ (.cons _ (List.Sublist.refl _))))))))
  have HSKP := Lib.hid (H0.out.add BK7.out)
  clear BK6
  refine HK.out _ _ (SApp.intro (fun _ => trivial) (boxC_of BK7.out (i := 2) rfl)) ?_
  clear K HK HSH
  intro hsh hS
  try simp only [Act.put, List.setIfInBounds_toArray, List.set_cons_zero, List.set_cons_succ]
  have HSH := Lib.hid hsh
  clear hsh hS
  refine WL.one (i := 17) HSH.out (by kernel_rfl) rfl ?_
  intro K hK
  have HK := Lib.hid hK
  clear hK
  go_simp
  refine (sput_any w0 _ D R room o Z c A cE xs (boxAcc X 65 (clCells d) :: L) (some ⟨u5.heap.size, 0, none⟩) 1 [⟨1, ⟨Aj, Nj, cj⟩, S.cdata d⟩] ⟨d, xs.map EV.e⟩ 1 HSKP.out rfl (by intro p hp; simp only [List.mem_singleton] at hp; subst hp; show M.inI64 1; unfold M.inI64; omega) ?_ ?_ ?_ ho (by omega) ?_).mono ?_
  · rw [F.perr_zero]
    intro f hf
    simp only [List.map_cons, List.map_nil, List.mem_singleton] at hf
    subst hf
    exact S.kept_err d
  · have h := S.sdo_kept ⟨c, xs.map EV.e⟩ d HB.out
    show (S.sdo _ (S.kept d)).bind _ = _
    rw [h]
    rfl
  · simp [F.pbytes, FR.fr, F.one_length, S.cdata_length]
  · intro p hp
    simp only [List.mem_singleton] at hp
    subst hp
    show Nj ≤ _
    rw [HNJ.out, S.cdata_length]
    omega
  rintro e u7 hp7
  obtain ⟨n7, rfl⟩ := hp7.ret
  have HP7 := Lib.hid hp7
  clear hp7
  refine HK.out _ _ (SApp.intro (fun _ => trivial) (boxC_of HP7.out.bank (i := 0) rfl)) ?_
  clear K HK HSH
  intro hsh hS
  try simp only [Act.put, List.setIfInBounds_toArray, List.set_cons_zero, List.set_cons_succ]
  have HSH := Lib.hid hsh
  clear hsh hS
  refine WL.one (i := 18) HSH.out (by kernel_rfl) rfl ?_
  intro K hK
  have HK := Lib.hid hK
  clear hK
  go_simp
  refine HK.out _ _ (SApp.intro (fun _ => trivial) (boxC_of HP7.out.bank (i := 0) rfl)) ?_
  clear K HK HSH
  intro _ _
  refine WL.done (by kernel_rfl) ?_ _
  have HFIN : Hid (PutS w0 D R room o Z c A cE xs L [S.kept d] ⟨d, xs.map EV.e⟩ (.returned (.int .i64 n7)) u7) := Lib.hid (HP7.out.sub (.cons _ (List.Sublist.refl _)))
  clear HP7
  simp only [Exit.then, Exit.inBlock]
  go_wp2
  go_ret
  exact HFIN.out
end Go.Proofs.Ytfpjmeknjhhakaa.K
