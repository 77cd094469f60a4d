/- What all servers look at: TExF, TCkQ -/
import Derived.Test.YtfeipbgnjainlaaGreatTw31
import Derived.Test.YtfeipbgnjainlaaGreatTw35
import Derived.Test.YtfeipbgnjainlaaGreatTw36
set_option linter.unusedVariables false
set_option linter.unusedSimpArgs false
/- (made by genexf.py) The contract of exec's branch, the good way. -/
set_option maxRecDepth 100000
set_option maxHeartbeats 8000000
namespace Go.Proofs.YtfeipbgnjainlaaGreat.K
open Go Go.RowKit Go.Maps Go.Sort

theorem exBranch_ok {M : Nat} {m : T.Mc} {pk vd : Value} {w0 w : World} {L : List Acc} (i : T.Ins) (hB : Bank w0 w (boxAcc M 56 (mcL m pk vd) :: L)) (hok : Mok m) (hd : 0 ≤ i.dst ∧ i.dst ≤ 10) (hsr : 0 ≤ i.src ∧ i.src ≤ 10) (ho : 17 ≤ i.op ∧ i.op ≤ 27) (hsec : T.secErr i m = 0) (ha : (m.reg i.dst).1 = 1) (hb : (T.esecond i m).1 = 1) (hf : T.ais i.op i.narrow (m.reg i.dst).2 (T.esecond i m).2 = true → 0 ≤ i.off ∧ (m.at' : Int) + i.off < 100000) : Calls Tryz.prog 40 #[.pointer (some ⟨M,0,none⟩),insV i] w (ExP w0 M (if T.ais i.op i.narrow (m.reg i.dst).2 (T.esecond i m).2 then { m with at' := m.at' + i.off.toNat } else m) pk vd L) := by
 have hda : (m.reg i.dst).1 ≠ 0 := by rw [ha]; decide
 obtain ⟨s,hsd⟩ := Int.eq_ofNat_of_zero_le hd.1
 have s1 : s < 11 := by have := hd.2; omega
 have hda' : s < 11 ∧ (m.reg (s : Int)).1 ≠ 0 := ⟨s1,by rw [← hsd]; exact hda⟩
 have hSEC := fun Y w1 hM hA => exSecond_ok M m pk vd i (some ⟨Y,0,none⟩) 1 [s] w1 hok hM rfl (by decide) (fun h => by cases h) hA (fun r hr => by rw [List.mem_singleton] at hr; subst hr; exact hda') hsr hsec
 have hrd := hsd ▸ hd
 obtain ⟨qk,hqk⟩ : ∃ q,(T.esecond i m).1 = q := ⟨_,rfl⟩
 obtain ⟨qn,hqn⟩ : ∃ q,(T.esecond i m).2 = q := ⟨_,rfl⟩
 obtain ⟨z,hz⟩ : ∃ z,m.reg i.dst = z := ⟨_,rfl⟩
 obtain ⟨zk,zn⟩ := z
 rw [hqk,hqn] at hSEC
 have HSEC := Lib.hid hSEC
 clear hSEC
 simp only [hqk,hqn,hz] at ha hb hf ⊢
 obtain ⟨op,nr,dst,src,u,off,imm,size⟩ := i
 simp only at hsd hz ha hb ho hf ⊢
 subst hsd
 have j0 : (0 : Int) ≤ (s : Int) := by omega
 have j1 : (s : Int) < (11 : Int) := by omega
 have HE := mcL_reg hok pk vd s s1
 rw [hz] at HE
 have HE := Lib.hid HE
 have HZK := Lib.hid hz
 clear hd hrd hda hda' hsr hsec hqk hqn hz
 subst hb
 subst ha
 obtain ⟨t,ht⟩ : ∃ t,T.ais op nr zn qn = t := ⟨_,rfl⟩
 have HIS := Lib.hid (fun w => aluIs_any w op nr zn qn ho)
 rw [ht] at HIS hf ⊢
 obtain ⟨mm,hmm⟩ : ∃ mm,(if t = true then { m with at' := m.at' + off.toNat } else m) = mm := ⟨_,rfl⟩
 rw [hmm]
 have HMM := Lib.hid hmm
 have HF := Lib.hid hf
 clear ht hf hmm
 unfold insV insL
 have BK0 := Lib.hid (hB.boxL [.int .u8 op,.bool nr,.int .i64 (s : Int),.int .i64 src,.bool u,.int .i64 off,.int .i64 imm,.int .i64 size] 31 (by simp))
 clear hB
 go_enter Tryz.func40,Tryz.ntmps40
 go_upto_region 1 with fail
 generalize w.heap.size = X at *
 refine wp_hid BK0 (fun w1 BK0 => ?_)
 obtain ⟨i0,i1,i2,i3,i4,i5,i6,i7⟩ := BK0.out.q8 0 rfl
 go_wp2_with fail
 have BK1 := Lib.hid (BK0.out.boxL [.int .i64 (s : Int)] 3 (by simp))
 have n0 := (BK1.out.cell 0 rfl 0 rfl)
 have hM := fun j v (hj : (mcL m pk vd)[j]? = some v) => BK1.out.cell 2 rfl j hj
 generalize w1.heap.size = Y at *
 generalize w1.alloc (.cells #[.int .i64 (s : Int)] 3) = w2 at *
 refine (HSEC.out Y w2 hM (fun j r hr => ⟨Y,0,rfl,by cases j with | zero => cases hr; exact n0 | succ j => cases hr⟩)).mono ?_
 rintro e w3 ⟨rfl,hs⟩
 have BK2 := Lib.hid (BK1.out.call hs)
 clear hs n0 hM BK0 BK1 HSEC i0 i1 i2 i3 i4 i5 i6 i7
 go_upto_region 2 with fail
 have BK3 := Lib.hid (BK2.out.boxL [.int .u8 1,W64 qn] 50 (by simp))
 generalize w3.heap.size = Z at *
 refine wp_hid BK3 (fun w4 BK3 => ?_)
 clear BK2
 have BKa := Lib.hid BK3.out.drew
 refine WL.begin 8 (fun w' => w'.cell? ⟨X,2,none⟩ = some (.int .i64 (s : Int)) ∧ w'.cell? ⟨M,s * 2,none⟩ = some (.int .u8 1) ∧ w'.cell? ⟨M,s * 2 + 1,none⟩ = some (W64 zn)) (fun _ => True) (by kernel_rfl) ⟨BKa.out.cell 2 rfl 2 rfl,BKa.out.cell 3 rfl (s * 2) HE.out.1,BKa.out.cell 3 rfl (s * 2 + 1) HE.out.2⟩ trivial (fun hs => ?_)
 generalize w4.drew = wa at *
 refine WL.tk [(0,[]),(1,[]),(2,[2]),(3,[]),(4,[]),(5,[]),(6,[6])] hs ?_; clear hs
 iterate 7
  (first | refine TKs.p (v := ?_) ?_ ?_ | refine TKs.l (v := ?_) ?_ ?_); rotate_left
  ·intro w hc; go_simp <;> rfl
  simp only [Act.put,sA,sZ,sS]
 refine TKs.mk ?_; intro hs
 refine WL.o1 (i := 7) (by kernel_rfl) rfl hs ?_; clear hs
 intro K hK
 go_simp
 have BKb := Lib.hid (BKa.out.boxL [.int .u8 0,W64 0#64] 50 (by simp))
 refine hK.out _ _ (SApp.intro (fun _ => ⟨BKb.out.cell 3 rfl 2 rfl,BKb.out.cell 4 rfl (s * 2) HE.out.1,BKb.out.cell 4 rfl (s * 2 + 1) HE.out.2⟩) trivial) ?_
 generalize wa.heap.size = V at *
 generalize (wa.alloc (.cells #[.int .u8 0,W64 0#64] 50)) = wb at *
 clear hK K; intro hs; try simp only [Act.put,sA,sZ,sS]
 refine WL.o1 (i := 8) (by kernel_rfl) rfl hs ?_; clear hs
 intro K hK
 obtain ⟨r0,r1,fr0,fr1⟩ := BKb.out.r2 0 rfl
 go_simp
 have BKv := Lib.hid ((BKb.out.boxSet 0 rfl 0 (.int .u8 1)).boxSet 0 rfl 1 (W64 zn))
 clear r0 r1 fr0 fr1
 refine hK.out _ _ (SApp.intro (fun h => (by cases h)) trivial) ?_
 clear hK K; intro hs; try simp only [Act.put]
 clear hs; refine WL.done (by kernel_rfl) ?_ _; try simp only [Exit.then]
 generalize ((wb.setCell ⟨V,0,none⟩ (.int .u8 1)).setCell ⟨V,1,none⟩ (W64 zn)) = wv at *
 obtain ⟨v0,v1⟩ := BKv.out.q2 0 rfl
 obtain ⟨q0,q1⟩ := BKv.out.q2 1 rfl
 obtain ⟨i0,i1⟩ := BKv.out.q2 3 rfl
 go_wp2_with fail
 refine (HIS.out _).mono ?_
 rintro e w7 ⟨rfl,rfl⟩
 cases t
 case false =>
  go_wp2
  go_ret
  refine ⟨rfl,?_⟩
  rw [← HMM.out]
  exact BKv.out.drop.drop.drop.drop
 case true =>
  obtain ⟨f0,f1⟩ := HF.out rfl
  obtain ⟨t,rfl⟩ := Int.eq_ofNat_of_zero_le f0
  have kw : IntKind.i64.wrap ((m.at' : Int) + (t : Int)) = ((m.at' + t : Nat) : Int) := by rw [IntWalk.i64_in _ (by omega)]; omega
  clear f0 f1
  go_upto_region 9 with fail
  have m1 := BKv.out.cell 4 rfl 1047 (mcL_end hok pk vd 1)
  have f1 := BKv.out.free 4 rfl 1047
  have i5 := BKv.out.cell 3 rfl 5 rfl
  refine WL.begin 9 (fun w' => w'.cell? ⟨M,1047,none⟩ = some (.int .i64 (m.at' : Int)) ∧ w'.cell? ⟨X,5,none⟩ = some (.int .i64 (t : Int))) (fun _ => True) (by kernel_rfl) ⟨m1,i5⟩ trivial (fun hs => ?_)
  refine WL.tk [(0,[]),(1,[]),(2,[]),(3,[3]),(4,[]),(5,[5]),(6,[]),(7,[]),(8,[])] hs ?_; clear hs
  iterate 9
   (first | refine TKs.p (v := ?_) ?_ ?_ | refine TKs.l (v := ?_) ?_ ?_); rotate_left
   ·intro w hc; go_simp <;> rfl
   simp only [Act.put,sA,sZ,sS]
  refine TKs.mk ?_; intro hs
  refine WL.o1 (i := 9) (by kernel_rfl) rfl hs ?_; clear hs
  intro K hK
  go_simp
  refine hK.out _ _ (SApp.intro (fun h => (by cases h)) trivial) ?_
  clear hK K; intro hs; try simp only [Act.put]
  clear hs; refine WL.done (by kernel_rfl) ?_ _; try simp only [Exit.then]
  have BK1 := Lib.hid (BKv.out.boxSet 4 rfl 1047 (.int .i64 ((m.at' + t : Nat) : Int))).drew
  go_wp2
  go_ret
  refine ⟨rfl,?_⟩
  have h := BK1.out.drop.drop.drop.drop
  rw [mcL_at hok] at h
  rw [← HMM.out]
  exact h
end Go.Proofs.YtfeipbgnjainlaaGreat.K
/- A place's copy beside the walker: what check's branch does with it. -/
namespace Go.Proofs.YtfeipbgnjainlaaGreat.K
open Go Go.RowKit Go.Maps Go.Sort

/-- the walker, and a copy y of a place in a box Y -/
structure CpS (b o n cl : Nat) (l : List T.Ins) (Wk P c k : Nat) (x : PV) (xs : List PV) (i : T.Ins) (w0 w : World) (Y : Nat) (y : PV) (R : List Acc) : Prop where
 bank : Bank w0 w (boxAcc Y 82 (PlL y) :: y.regA :: y.byA :: boxAcc Wk 84 (wkL (.slice (some ⟨b,o,none⟩) n cl) P n c k x) :: plsA P n c xs :: (pvA xs ++ (x.regA :: x.byA :: R)))
 ck : CkS b o n cl l Wk P c k x xs i w0 w R
 rl : y.p.regs.length = 11
section
variable {b o n cl : Nat} {l : List T.Ins} {Wk P c k : Nat} {x : PV} {xs : List PV} {i : T.Ins} {w0 w w' : World} {R : List Acc} {Y : Nat} {y : PV}
theorem CkS.withBank (h : CkS b o n cl l Wk P c k x xs i w0 w R) (hb : Bank w0 w' (boxAcc Wk 84 (wkL (.slice (some ⟨b,o,none⟩) n cl) P n c k x) :: plsA P n c xs :: (pvA xs ++ (x.regA :: x.byA :: R)))) : CkS b o n cl l Wk P c k x xs i w0 w' R := { h with bank := hb }
/-- a copy, put into a box -/
theorem CkS.copied (h : CkS b o n cl l Wk P c k x xs i w0 w R) (hy : y.p = x.p) (hb : Bank w w' [y.regA,y.byA]) : CpS b o n cl l Wk P c k x xs i w0 (w'.alloc (.cells (PlL y).toArray 82)) w'.heap.size y R := by
 have h1 := (bank_join h.bank hb).boxL (PlL y) 82 (by simp [PlL])
 exact ⟨h1,h.withBank (h1.drop.drop.drop),by rw [hy]; exact h.wf.rl⟩
theorem with_bytes (p : T.Pl) (r : Int) (s : T.Sp) : (p.with r s).bytes = p.bytes := by unfold T.Pl.with; split <;> rfl
theorem with_len (p : T.Pl) (r : Int) (s : T.Sp) (h : p.regs.length = 11) : (p.with r s).regs.length = 11 := by
 unfold T.Pl.with
 split
 ·simp [T.Pl.put,h]
 ·exact h
theorem CpS.with (h : CpS b o n cl l Wk P c k x xs i w0 w Y y R) (r : Nat) (hr : r < 11) (s : T.Sp) : Calls Tryz.prog 105 #[.pointer (some ⟨Y,0,none⟩),.int .i64 (r : Int),spv s] w fun e w' => e = .returned (.tuple #[]) ∧ ∃ y',y'.p = y.p.with (r : Int) s ∧ CpS b o n cl l Wk P c k x xs i w0 w' Y y' R := by
 refine (with_any Y r s y 0 1 h.bank rfl rfl (by decide) hr h.rl).mono ?_
 rintro e w' ⟨he,y',hp,hg,hc,hgb,hcb,htb,hb⟩
 have e1 : y'.byA = y.byA := by unfold PV.byA; rw [hp,with_bytes,hgb,hcb,htb]
 refine ⟨he,y',hp,?_,h.ck.withBank hb.drop.drop.drop,by rw [hp]; exact with_len _ _ _ h.rl⟩
 rw [e1]
 exact hb
theorem wp_cp {P' : Program} {cd : Code} {Q : Exit → Act → World → Prop} {a : Act} (h : CpS b o n cl l Wk P c k x xs i w0 w Y y R) (hk : ∀ w',CpS b o n cl l Wk P c k x xs i w0 w' Y y R → cd.wp P' Q a w') : cd.wp P' Q a w := hk w h
theorem CpS.cell (h : CpS b o n cl l Wk P c k x xs i w0 w Y y R) (j : Nat) {v : Value} (hv : (PlL y)[j]? = some v) : w.cell? ⟨Y,j,none⟩ = some v := h.bank.cell 0 rfl j hv
theorem CpS.call (h : CpS b o n cl l Wk P c k x xs i w0 w Y y R) (hs : Since w w') : CpS b o n cl l Wk P c k x xs i w0 w' Y y R := ⟨h.bank.call hs,h.ck.call hs,h.rl⟩
theorem CpS.inner (h : CpS b o n cl l Wk P c k x xs i w0 w Y y R) : Bank w0 w (boxAcc Wk 84 (wkL (.slice (some ⟨b,o,none⟩) n cl) P n c k x) :: plsA P n c xs :: (pvA xs ++ (y.regA :: y.byA :: x.regA :: x.byA :: R))) := by
 refine h.bank.drop.permB ?_
 have := (List.perm_append_comm_assoc [y.regA,y.byA] (boxAcc Wk 84 (wkL (.slice (some ⟨b,o,none⟩) n cl) P n c k x) :: plsA P n c xs :: pvA xs) (x.regA :: x.byA :: R))
 simpa using this
theorem wfs_of {xs xs' : List PV} (h : ∀ y ∈ xs,y.p.live = true → y.p.Wf) {t : Nat} {q : T.Pl} (hq : q.Wf) (e : xs'.map PV.p = T.told (xs.map PV.p) t (some q)) : ∀ y ∈ xs',y.p.live = true → y.p.Wf := by
 have h1 : T.AllWf (xs.map PV.p) := fun j hj => by
  unfold T.plAt at hj ⊢
  rw [List.getD_eq_getElem?_getD,List.getElem?_map] at hj ⊢
  cases hx : xs[j]? with
  | none => rw [hx] at hj; cases hj
  | some z => rw [hx] at hj; exact h z (List.mem_of_getElem? hx) hj
 have h2 := T.told_wf h1 t (some q) (fun _ e => by cases e; exact hq)
 rw [← e] at h2
 intro z hz hl
 obtain ⟨j,hj⟩ := List.mem_iff_getElem?.1 hz
 have h3 := h2 j
 unfold T.plAt at h3
 rw [List.getD_eq_getElem?_getD,List.getElem?_map,hj] at h3
 exact h3 hl
theorem told_len {xs xs' : List PV} {t : Nat} {o : Option T.Pl} (e : xs'.map PV.p = T.told (xs.map PV.p) t o) : xs'.length = xs.length := by
 have := congrArg List.length e
 rw [T.told_length,List.length_map,List.length_map] at this
 exact this
def CpP (b o n cl : Nat) (l : List T.Ins) (Wk P c k : Nat) (x : PV) (xs : List PV) (i : T.Ins) (w0 : World) (R : List Acc) (t : Nat) (q : T.Pl) (e : Ending) (w' : World) : Prop := e = .returned (.tuple #[]) ∧ ∃ xs',xs'.map PV.p = T.told (xs.map PV.p) t (some q) ∧ CkS b o n cl l Wk P c k x xs' i w0 w' R
theorem CpS.told {t : Nat} (h : CkS b o n cl l Wk P c k x xs i w0 w R) (hy : y.p.Wf) {xs' : List PV} (hx : xs'.map PV.p = T.told (xs.map PV.p) t (some y.p)) (hb : Bank w0 w' (boxAcc Wk 84 (wkL (.slice (some ⟨b,o,none⟩) n cl) P n c k x) :: plsA P n c xs' :: (pvA xs' ++ (y.regA :: y.byA :: x.regA :: x.byA :: R)))) : CkS b o n cl l Wk P c k x xs' i w0 w' R :=
 ⟨hb.noZ.noZ,h.rd,h.hi,h.right,by rw [told_len hx]; exact h.xl,h.ll,h.n4,wfs_of h.wfs hy hx,h.wf,h.fwd,h.next⟩
theorem CpS.ahead (h : CpS b o n cl l Wk P c k x xs i w0 w Y y R) (hy : y.p.Wf) (hk : k + 1 < n) : Calls Tryz.prog 99 #[.pointer (some ⟨Wk,0,none⟩),PlV y] w (CpP b o n cl l Wk P c k x xs i w0 R (k + 1) y.p) := by
 refine (ahead_any Wk P n c k _ y xs h.inner rfl rfl (by simp) (by simp) h.ck.xl h.ck.n4 h.ck.wfs hy hk).mono ?_
 rintro e w' ⟨he,xs',hx,hb⟩
 exact ⟨he,xs',hx,CpS.told h.ck hy hx hb⟩
theorem CpS.afar (h : CpS b o n cl l Wk P c k x xs i w0 w Y y R) (hy : y.p.Wf) (h0 : 0 ≤ i.off) (hk : (k : Int) + 1 + i.off < n) : Calls Tryz.prog 102 #[.pointer (some ⟨Wk,0,none⟩),PlV y] w (CpP b o n cl l Wk P c k x xs i w0 R (k + 1 + i.off.toNat) y.p) := by
 obtain ⟨t,ht⟩ := Int.eq_ofNat_of_zero_le h0
 refine (afar_any b o cl l i t Wk P n c k _ y xs h.inner rfl rfl (by simp) (by simp) h.ck.xl h.ck.n4 h.ck.wfs hy rfl h.ck.rd h.ck.hi h.ck.ll ht (by omega)).mono ?_
 rintro e w' ⟨he,xs',hx,hb⟩
 have e2 : k + 1 + i.off.toNat = k + 1 + t := by rw [ht,Int.toNat_natCast]
 rw [← e2] at hx
 exact ⟨he,xs',hx,CpS.told h.ck hy hx hb⟩
end
end Go.Proofs.YtfeipbgnjainlaaGreat.K
