/- What all servers look at: TCkX -/
import Derived.Test.YtfeipbgnjainlaaGreatTw28
import Derived.Test.YtfeipbgnjainlaaGreatTw3
import Derived.Test.YtfeipbgnjainlaaGreatTw5
set_option linter.unusedVariables false
set_option linter.unusedSimpArgs false
/- (made by genckd2.py) The contracts of check's does and Start. -/
set_option maxRecDepth 100000
set_option maxHeartbeats 4000000
namespace Go.Proofs.YtfeipbgnjainlaaGreat.K
open Go Go.RowKit Go.Maps Go.Sort

theorem ckDoes_any (op : Int) (h : 1 ≤ op ∧ op ≤ 28) (w : World) : Calls Tryz.prog 23 #[.int .u8 op] w (Ret w (if op = 14 then .func (.func 64) #[] #[] else if op = 15 then .func (.func 65) #[] #[] else if op = 16 then .func (.func 66) #[] #[] else if op = 28 then .func (.func 67) #[] #[] else if op ≤ 13 then .func (.func 68) #[] #[] else .func (.func 69) #[] #[])) := by
 have ht := Tryz.underlying116
 have hk := Tryz.underlying29
 obtain ⟨v0,hv0⟩ : ∃ v,v = Value.func (.func 64) #[] #[] := ⟨_,rfl⟩
 obtain ⟨v1,hv1⟩ : ∃ v,v = Value.func (.func 65) #[] #[] := ⟨_,rfl⟩
 obtain ⟨v2,hv2⟩ : ∃ v,v = Value.func (.func 66) #[] #[] := ⟨_,rfl⟩
 obtain ⟨v3,hv3⟩ : ∃ v,v = Value.func (.func 67) #[] #[] := ⟨_,rfl⟩
 have p0 := put_mes ht hk w [] 14 v0 (by decide) (by decide) (by simp)
 have p1 := put_mes ht hk w [(14,v0)] 15 v1 (by decide) (by decide) (by simp)
 have p2 := put_mes ht hk w [(14,v0),(15,v1)] 16 v2 (by decide) (by decide) (by simp)
 have p3 := put_mes ht hk w [(14,v0),(15,v1),(16,v2)] 28 v3 (by decide) (by decide) (by simp)
 simp only [List.cons_append,List.nil_append,List.length_cons,List.length_nil,Nat.reduceAdd] at p0 p1 p2 p3
 have hb0 := heap_alloc_new w (.map (mes [(14,v0),(15,v1),(16,v2),(28,v3)]) 4)
 have l0 := look_mes1 ht hk hb0 14 v0 (by decide) (by decide) (by simp) (by simp)
 have l1 := look_mes1 ht hk hb0 15 v1 (by decide) (by decide) (by simp) (by simp)
 have l2 := look_mes1 ht hk hb0 16 v2 (by decide) (by decide) (by simp) (by simp)
 have l3 := look_mes1 ht hk hb0 28 v3 (by decide) (by decide) (by simp) (by simp)
 have hz : ∀ w,(zeroValue 87).run Tryz.prog w = .ok .nilFunc w := fun w => by kernel_rfl
 have ln := fun (hf : ∀ p ∈ [(14,v0),(15,v1),(16,v2),(28,v3)],p.1 ≠ op) => look_none1 ht hk hb0 op .nilFunc (hz _) (by omega) (by omega) hf
 have e0 : mes [] = #[] := rfl
 rw [e0] at p0
 clear e0 hb0
 generalize mes [(14,v0)] = E1 at p0 p1
 generalize mes [(14,v0),(15,v1)] = E2 at p1 p2
 generalize mes [(14,v0),(15,v1),(16,v2)] = E3 at p2 p3
 generalize mes [(14,v0),(15,v1),(16,v2),(28,v3)] = E4 at p3 l0 l1 l2 l3 ln
 have S1 := Lib.hid (show Since w (w.alloc (.map E4 4)) from (Below.refl _ _).alloc (Nat.le_refl _) _)
 have hn1 : ∀ (g : FuncId) (W : World),(binOp .neq 87 (.func (.func g) #[] #[]) .nilFunc).run Tryz.prog W = .ok (.bool true) W := fun _ _ => by kernel_rfl
 have hn0 : ∀ (W : World),(binOp .neq 87 .nilFunc .nilFunc).run Tryz.prog W = .ok (.bool false) W := fun _ => by kernel_rfl
 have hmm := run_makeMap (P := Tryz.prog) 116 w
 subst hv0 hv1 hv2 hv3
 have hcs : (op = 14 ∨ op = 15 ∨ op = 16 ∨ op = 28) ∨ (op ≠ 14 ∧ op ≠ 15 ∧ op ≠ 16 ∧ op ≠ 28) := by omega
 rcases hcs with (rfl | rfl | rfl | rfl) | ⟨n14,n15,n16,n28⟩
 case' inr =>
  have ln := ln (by intro p hp; simp only [List.mem_cons,List.mem_nil_iff,or_false] at hp; rcases hp with rfl | rfl | rfl | rfl <;> simp only <;> omega)
  rw [if_neg n14,if_neg n15,if_neg n16,if_neg n28]
  have H14 := Lib.hid n14
  clear n14 n15 n16 n28
  by_cases h13 : op ≤ 13
  case' pos => rw [if_pos h13]
  case' neg => rw [if_neg h13]
 all_goals
  go_enter Tryz.func23,Tryz.ntmps23
  go_wp2
  go_ret
  exact ⟨rfl,S1.out⟩
theorem perms3 {a b c d : Acc} : [b,a,c,d].Perm [a,b,c,d] ∧ [a,c,b,d].Perm [a,b,c,d] ∧ [c,a,b,d].Perm [a,b,c,d] ∧ [b,c,a,d].Perm [a,b,c,d] ∧ [c,b,a,d].Perm [a,b,c,d] := by
 have s : ∀ x y z u : Acc,[x,y,z,u].Perm [y,x,z,u] := fun x y z u => .swap _ _ _
 have r : ∀ x y z u : Acc,[x,y,z,u].Perm [x,z,y,u] := fun x y z u => .cons _ (.swap _ _ _)
 exact ⟨s _ _ _ _,r _ _ _ _,(s _ _ _ _).trans (r _ _ _ _),(r _ _ _ _).trans (s _ _ _ _),((s _ _ _ _).trans (r _ _ _ _)).trans (s _ _ _ _)⟩
theorem Bank.order3 {w0 w : World} {a b c d : Acc} {L : List Acc} (h : Bank w0 w L) (hp : L = [a,b,c,d] ∨ L = [b,a,c,d] ∨ L = [a,c,b,d] ∨ L = [c,a,b,d] ∨ L = [b,c,a,d] ∨ L = [c,b,a,d]) : Bank w0 w [a,b,c,d] := by
 obtain ⟨p1,p2,p3,p4,p5⟩ := perms3 (a := a) (b := b) (c := c) (d := d)
 rcases hp with rfl | rfl | rfl | rfl | rfl | rfl
 ·exact h
 ·exact h.permB p1
 ·exact h.permB p2
 ·exact h.permB p3
 ·exact h.permB p4
 ·exact h.permB p5
theorem make_kns (W : World) : (Instr.makeSlice 79 (.int .i64 11) (.int .i64 11)).run Tryz.prog W = .ok (.slice (some ⟨W.heap.size,0,none⟩) 11 11) (W.alloc (.cells (knsL (List.replicate 11 T.Kn.none)).toArray 113)) := by kernel_rfl
theorem start_kns : (((knsL (List.replicate 11 T.Kn.none)).set 3 (.int .u8 2)).set 6 (.int .u8 4)).set 30 (.int .u8 3) = knsL T.Pl.start.regs := by kernel_rfl
def StartP (w : World) (e : Ending) (w' : World) : Prop := ∃ y : PV,y.p = T.Pl.start ∧ e = .returned (PlV y) ∧ Bank w w' [y.regA,y.byA]
theorem ckStart_any (w : World) : Calls Tryz.prog 21 #[] w (StartP w) := by
 have hmk := make_kns
 have HST := Lib.hid start_kns
 have h33 : (knsL (List.replicate 11 T.Kn.none)).length = 33 := rfl
 obtain ⟨KZ,hKZ⟩ : ∃ l,knsL (List.replicate 11 T.Kn.none) = l := ⟨_,rfl⟩
 rw [hKZ] at hmk HST h33
 have k1 : KZ[3]? = some (.int .u8 0) := by rw [← hKZ]; kernel_rfl
 have k2 : (KZ.set 3 (.int .u8 2))[6]? = some (.int .u8 0) := by rw [← hKZ]; kernel_rfl
 have k3 : ((KZ.set 3 (.int .u8 2)).set 6 (.int .u8 4))[30]? = some (.int .u8 0) := by rw [← hKZ]; kernel_rfl
 have HK1 := Lib.hid k1
 have HK2 := Lib.hid k2
 have HK3 := Lib.hid k3
 have H33 := Lib.hid h33
 clear hKZ k1 k2 k3 h33
 have BK0 := bk1 w [.bool false,.slice none 0 0,.slice none 0 0,.int .i64 0] 82
 go_enter Tryz.func21,Tryz.ntmps21
 go_upto_region 1 with fail
 generalize w.heap.size = X at *
 refine wp_hid BK0 (fun w1 BK0 => ?_)
 obtain ⟨r0,r1,r2,r3,fr0,fr1,fr2,fr3⟩ := BK0.out.r4 0 rfl
 clear r0 r1 r2 r3 fr0 fr1 fr2 fr3
 go_cut [1] (fun s1 wx => ∃ Y g g2 t,s1 = .pointer (some ⟨Y,0,none⟩) ∧ Bank w wx [boxAcc Y 82 [.bool true,.slice (some ⟨g,0,none⟩) 11 11,.slice (some ⟨g2,0,none⟩) 512 512,.int .i64 0],rwA g 11 11 113 3 KZ,rwA g2 512 512 t 1 ((List.replicate 512 false).map Value.bool),boxAcc X 82 [.bool false,.slice none 0 0,.slice none 0 0,.int .i64 0]])
 case first =>
  have BK := Lib.hid BK0.out.drew
  clear BK0
  refine WL.begin 4 (fun _ => True) (fun _ => True) (by kernel_rfl) trivial trivial (fun hs => ?_)
  generalize w1.drew = wz at *
  repeat' first
   | (with_reducible refine StepL.at 0 ?_
      intro K hK
      go_simp
      have BK := Lib.hid (BK.out.made ((Below.refl _ _).alloc (Nat.le_refl _) _) (World.ownsRow_lit (base := wz.heap.size) (size := 3) (e := 113) wz KZ.toArray 11 (Nat.le_refl _) (by decide) (by rw [List.size_toArray,H33.out])))
      refine hK.out _ _ (SApp.intro (fun _ => trivial) trivial) ?_
      generalize wz.heap.size = g at *
      generalize (wz.alloc (.cells KZ.toArray 113)) = wz at *
      clear hK K; intro hs; try simp only [Act.put,sA,sZ,sS])
   | (with_reducible refine StepL.at 1 ?_
      intro K hK
      go_simp
      refine (stkNew_any _).mono ?_
      rintro e wz ⟨v,rfl,g2,t,rfl,hb⟩
      rw [boxAcc_rw (m := 512) (by rw [List.length_map,List.length_replicate])] at hb
      have BK := Lib.hid (bank_join BK.out hb)
      clear hb
      refine hK.out _ _ (SApp.intro (fun _ => trivial) trivial) ?_
      clear hK K; intro hs; try simp only [Act.put,sA,sZ,sS])
   | (with_reducible refine StepL.at 3 ?_
      intro K hK
      go_simp
      have BK := Lib.hid (BK.out.boxL [.bool false,.slice none 0 0,.slice none 0 0,.int .i64 0] 82 (by simp))
      refine hK.out _ _ (SApp.intro (fun _ => trivial) trivial) ?_
      generalize wz.heap.size = Y at *
      generalize (wz.alloc (.cells #[.bool false,.slice none 0 0,.slice none 0 0,.int .i64 0] 82)) = wz at *
      clear hK K; intro hs; try simp only [Act.put,sA,sZ,sS])
   | (with_reducible refine StepL.at 4 ?_
      intro K hK
      have BK : RowKit.Hid (Bank w wz [boxAcc Y 82 [.bool false,.slice none 0 0,.slice none 0 0,.int .i64 0],rwA g 11 11 113 3 KZ,rwA g2 512 512 t 1 ((List.replicate 512 false).map Value.bool),boxAcc X 82 [.bool false,.slice none 0 0,.slice none 0 0,.int .i64 0]]) := Lib.hid (Bank.order3 BK.out (by first | exact .inl rfl | exact .inr (.inl rfl) | exact .inr (.inr (.inl rfl)) | exact .inr (.inr (.inr (.inl rfl))) | exact .inr (.inr (.inr (.inr (.inl rfl)))) | exact .inr (.inr (.inr (.inr (.inr rfl))))))
      obtain ⟨b0,fb0⟩ := BK.out.r1 0 rfl
      have b1 := BK.out.cell 0 rfl 1 rfl
      have fb1 := BK.out.free 0 rfl 1
      have b2 := BK.out.cell 0 rfl 2 rfl
      have fb2 := BK.out.free 0 rfl 2
      have b3 := BK.out.cell 0 rfl 3 rfl
      have fb3 := BK.out.free 0 rfl 3
      go_simp
      have BK := Lib.hid ((((BK.out.boxSet 0 rfl 0 (.bool true)).boxSet 0 rfl 1 (.slice (some ⟨g,0,none⟩) 11 11)).boxSet 0 rfl 2 (.slice (some ⟨g2,0,none⟩) 512 512)).boxSet 0 rfl 3 (.int .i64 0))
      clear b0 b1 b2 b3 fb0 fb1 fb2 fb3
      refine hK.out _ _ (SApp.intro (fun h => (by cases h)) trivial) ?_
      clear hK K; intro hs; try simp only [Act.put])
   | (refine WL.tp (i := 2) (v := ?_) rfl (by decide +kernel) (fun _ _ _ h => h) hs (Or.inl ⟨by kernel_rfl,?_⟩) ?_; rotate_left; · intro w hc; go_simp <;> rfl
      clear hs; intro hs; simp only [Act.put,sA,sZ,sS])
   | (refine WL.s1 (i := 0) (by decide +kernel) rfl hs ?_ <;> clear hs)
   | (refine WL.o2 (i := 0) (j := 1) (by decide +kernel) rfl rfl hs ?_ ?_ <;> clear hs)
   | (refine WL.o3 (i := 0) (j := 1) (k := 3) (by decide +kernel) rfl rfl rfl hs ?_ ?_ ?_ <;> clear hs)
   | (refine WL.o2 (i := 0) (j := 3) (by decide +kernel) rfl rfl hs ?_ ?_ <;> clear hs)
   | (refine WL.s1 (i := 1) (by decide +kernel) rfl hs ?_ <;> clear hs)
   | (refine WL.o2 (i := 1) (j := 3) (by decide +kernel) rfl rfl hs ?_ ?_ <;> clear hs)
   | (refine WL.s1 (i := 3) (by decide +kernel) rfl hs ?_ <;> clear hs)
   | (refine WL.s1 (i := 4) (by decide +kernel) rfl hs ?_ <;> clear hs)
   | (clear hs; refine WL.done (by decide +kernel) ?_ _; try simp only [Exit.then]
      go_wp2_with fail
      go_meet
      exact ⟨_,_,_,_,rfl,BK.out⟩)
 case rest =>
  obtain ⟨Y,g,g2,t,rfl,hB⟩ := hcut
  have BK := Lib.hid hB
  have y1 := hB.cell 0 rfl 1 rfl
  clear hB hmk
  go_upto_region 2 with fail
  refine WL.begin 8 (fun _ => True) (fun w' => w'.cell? ⟨Y,1,none⟩ = some (.slice (some ⟨g,0,none⟩) 11 11)) (by kernel_rfl) trivial y1 (fun hs => ?_)
  have BK := Lib.hid BK.out.drew
  generalize wc.drew = wz at *
  refine WL.tk [(0,[]),(1,[]),(2,[]),(3,[]),(4,[]),(5,[]),(6,[]),(7,[])] hs ?_; clear hs
  iterate 8
   (first | refine TKs.p (v := ?_) ?_ ?_ | refine TKs.l (v := ?_) ?_ ?_); rotate_left
   ·intro w hc; go_simp <;> rfl
   simp only [Act.put,sA,sZ,sS]
  refine TKs.mk ?_; intro hs
  refine WL.o1 (i := 8) (by kernel_rfl) rfl hs ?_; clear hs
  intro K hK
  have e0 := BK.out.rcell 1 rfl 3 HK1.out
  have f0 := BK.out.rfree 1 rfl 3
  go_simp
  have BK := Lib.hid (BK.out.rset 1 rfl 3 (.int .u8 2))
  clear e0 f0
  refine hK.out _ _ (SApp.intro (fun h => (by first | exact trivial | cases h)) (BK.out.cell 0 rfl 1 rfl)) ?_
  generalize (wz.setCell ⟨g,3,none⟩ (.int .u8 2)) = wz at *
  clear hK K; intro hs; try simp only [Act.put]
  refine WL.tk [(9,[]),(10,[])] hs ?_; clear hs
  iterate 2
   (first | refine TKs.p (v := ?_) ?_ ?_ | refine TKs.l (v := ?_) ?_ ?_); rotate_left
   ·intro w hc; go_simp <;> rfl
   simp only [Act.put,sA,sZ,sS]
  refine TKs.mk ?_; intro hs
  refine WL.o1 (i := 11) (by kernel_rfl) rfl hs ?_; clear hs
  intro K hK
  have e0 := BK.out.rcell 1 rfl 6 HK2.out
  have f0 := BK.out.rfree 1 rfl 6
  go_simp
  have BK := Lib.hid (BK.out.rset 1 rfl 6 (.int .u8 4))
  clear e0 f0
  refine hK.out _ _ (SApp.intro (fun h => (by first | exact trivial | cases h)) (BK.out.cell 0 rfl 1 rfl)) ?_
  generalize (wz.setCell ⟨g,6,none⟩ (.int .u8 4)) = wz at *
  clear hK K; intro hs; try simp only [Act.put]
  refine WL.tk [(12,[]),(13,[])] hs ?_; clear hs
  iterate 2
   (first | refine TKs.p (v := ?_) ?_ ?_ | refine TKs.l (v := ?_) ?_ ?_); rotate_left
   ·intro w hc; go_simp <;> rfl
   simp only [Act.put,sA,sZ,sS]
  refine TKs.mk ?_; intro hs
  refine WL.o1 (i := 14) (by kernel_rfl) rfl hs ?_; clear hs
  intro K hK
  have e0 := BK.out.rcell 1 rfl 30 HK3.out
  have f0 := BK.out.rfree 1 rfl 30
  go_simp
  have BK := Lib.hid (BK.out.rset 1 rfl 30 (.int .u8 3))
  clear e0 f0
  refine hK.out _ _ (SApp.intro (fun h => (by first | exact trivial | cases h)) (BK.out.cell 0 rfl 1 rfl)) ?_
  generalize (wz.setCell ⟨g,30,none⟩ (.int .u8 3)) = wz at *
  clear hK K; intro hs; try simp only [Act.put]
  clear hs; refine WL.done (by kernel_rfl) ?_ _; try simp only [Exit.then]
  clear y1
  obtain ⟨y0,y1,y2,y3⟩ := BK.out.q4 0 rfl
  obtain ⟨r0,fr0⟩ := BK.out.r1 3 rfl
  have r1 := BK.out.cell 3 rfl 1 rfl
  have fr1 := BK.out.free 3 rfl 1
  have r2 := BK.out.cell 3 rfl 2 rfl
  have fr2 := BK.out.free 3 rfl 2
  have r3 := BK.out.cell 3 rfl 3 rfl
  have fr3 := BK.out.free 3 rfl 3
  go_wp2
  refine bodyPost_ret (v := .agg #[.bool true,.slice (some ⟨g,0,none⟩) 11 11,.slice (some ⟨g2,0,none⟩) 512 512,.int .i64 0]) ?_ rfl ⟨⟨T.Pl.start,g,11,g2,512,t⟩,rfl,rfl,?_⟩
  ·simp [results,Tryz.results21,go_sem,y0,y1,y2,y3,r0,r1,r2,r3]
  ·have h := ((((BK.out.boxSet 3 rfl 0 (.bool true)).boxSet 3 rfl 1 (.slice (some ⟨g,0,none⟩) 11 11)).boxSet 3 rfl 2 (.slice (some ⟨g2,0,none⟩) 512 512)).boxSet 3 rfl 3 (.int .i64 0))
   dsimp only [List.set] at h
   rw [HST.out] at h
   exact h.sub (.cons _ (.cons_cons _ (.cons_cons _ (List.nil_sublist _))))
end Go.Proofs.YtfeipbgnjainlaaGreat.K
