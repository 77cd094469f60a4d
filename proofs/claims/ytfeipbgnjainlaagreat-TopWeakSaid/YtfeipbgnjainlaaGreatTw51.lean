/- What all servers look at: TLwC, TCkW -/
import Derived.Test.YtfeipbgnjainlaaGreatTw49
import Derived.Test.YtfeipbgnjainlaaGreatTw44
set_option linter.unusedVariables false
set_option linter.unusedSimpArgs false
/- (made by genlwc.py) The closures of lower's one, and one. -/
set_option maxRecDepth 100000
set_option maxHeartbeats 8000000
namespace Go.Proofs.YtfeipbgnjainlaaGreat.K
open Go Go.RowKit Go.Maps Go.Sort

theorem lwC1_ok {w0 w : World} {Mk : Nat} {lv : Value} {k : Nat} {out : List T.Fl} {bg : List Nat} {L : List Acc} (P np pc : Nat) (ps : List T.Pl) (X B : Nat) (i : T.Ins) (hB : LwB w0 w Mk lv (.slice (some ⟨P,0,none⟩) np pc) k out bg (boxAcc X 31 (insL i) :: boxAcc B 59 [.pointer (some ⟨Mk,0,none⟩)] :: L)) (hn : out.length ≤ 100000) (hP : PlcRd w0 P ps) (hl : ps.length = np) (hk : k < np) (hlv : (T.plAt ps k).live = true) (hs : 0 ≤ i.src ∧ i.src ≤ 10) : Calls Tryz.prog 41 #[.pointer (some ⟨B,0,none⟩),.pointer (some ⟨X,0,none⟩)] w (LwP w0 Mk lv (.slice (some ⟨P,0,none⟩) np pc) k (out ++ [{ T.Fl.zero with do' := if ((T.plAt ps k).reg i.src).k = 3 then 5 else 4,d := i.dst,a := i.src,n := T.wide i.off,size := i.size }]) bg (boxAcc X 31 (insL i) :: boxAcc B 59 [.pointer (some ⟨Mk,0,none⟩)] :: L)) := by
 have hLD := lwLoad_ok P np pc ps i hB hn hP hl hk hlv hs
 obtain ⟨nf,hnf⟩ : ∃ q,({ T.Fl.zero with do' := if ((T.plAt ps k).reg i.src).k = 3 then 5 else 4,d := i.dst,a := i.src,n := T.wide i.off,size := i.size } : T.Fl) = q := ⟨_,rfl⟩
 rw [hnf] at hLD ⊢
 have HLD := Lib.hid hLD
 clear hLD hnf
 have HB := Lib.hid hB
 clear hB
 have b0 := HB.out.cellL 1 rfl 0 rfl
 obtain ⟨x0,x1,x2,x3,x4,x5,x6,x7⟩ := HB.out.cells8 0 rfl
 go_enter Tryz.func41,Tryz.ntmps41
 go_wp2_with fail
 refine (HLD.out).mono ?_
 rintro e wq ⟨rfl,hb⟩
 have HB2 := Lib.hid hb
 clear hb
 go_wp2
 go_end0
 exact ⟨rfl,HB2.out⟩
theorem lwC2_ok {w0 w : World} {Mk : Nat} {lv : Value} {k : Nat} {out : List T.Fl} {bg : List Nat} {L : List Acc} (P np pc : Nat) (ps : List T.Pl) (X B : Nat) (i : T.Ins) (hB : LwB w0 w Mk lv (.slice (some ⟨P,0,none⟩) np pc) k out bg (boxAcc X 31 (insL i) :: boxAcc B 59 [.pointer (some ⟨Mk,0,none⟩)] :: L)) (hn : out.length ≤ 99999) : Calls Tryz.prog 43 #[.pointer (some ⟨B,0,none⟩),.pointer (some ⟨X,0,none⟩)] w (LwP w0 Mk lv (.slice (some ⟨P,0,none⟩) np pc) k (out ++ (T.lsec i ++ [{ T.Fl.zero with do' := 6,a := i.dst,b := T.lreg i,n := T.wide i.off,size := i.size }])) bg (boxAcc X 31 (insL i) :: boxAcc B 59 [.pointer (some ⟨Mk,0,none⟩)] :: L)) := by
 have hSC := lwSecond_ok i hB (by omega)
 have hcv := conv_wide i.off
 have hn2 : (out ++ T.lsec i).length ≤ 100000 := by rw [List.length_append]; have := T.lsec_len i; omega
 rw [← List.append_assoc]
 obtain ⟨lr,hlr⟩ : ∃ q,T.lreg i = q := ⟨_,rfl⟩
 obtain ⟨ls,hls⟩ : ∃ q,T.lsec i = q := ⟨_,rfl⟩
 rw [hlr,hls] at hSC
 rw [hls] at hn2
 rw [hlr,hls]
 have HSC := Lib.hid hSC
 clear hSC hlr hls
 have HB := Lib.hid hB
 clear hB
 have b0 := HB.out.cellL 1 rfl 0 rfl
 obtain ⟨x0,x1,x2,x3,x4,x5,x6,x7⟩ := HB.out.cells8 0 rfl
 go_enter Tryz.func43,Tryz.ntmps43
 go_wp2_with fail
 refine (HSC.out).mono ?_
 rintro e wq ⟨rfl,hb⟩
 have HB2 := Lib.hid hb
 clear hb
 clear b0 x0 x1 x2 x3 x4 x5 x6 x7
 have b0 := HB2.out.cellL 1 rfl 0 rfl
 obtain ⟨x0,x1,x2,x3,x4,x5,x6,x7⟩ := HB2.out.cells8 0 rfl
 go_wp2_with fail
 refine (lwPut_new ⟨6,0,false,0,i.dst,lr,T.wide i.off,i.size,0⟩ HB2.out hn2).mono ?_
 rintro e wq ⟨rfl,hb⟩
 have HB3 := Lib.hid hb
 clear hb
 go_wp2
 go_end0
 exact ⟨rfl,HB3.out⟩
theorem lwC3_ok {w0 w : World} {Mk : Nat} {lv : Value} {k : Nat} {out : List T.Fl} {bg : List Nat} {L : List Acc} (P np pc : Nat) (ps : List T.Pl) (X B : Nat) (i : T.Ins) (hB : LwB w0 w Mk lv (.slice (some ⟨P,0,none⟩) np pc) k out bg (boxAcc X 31 (insL i) :: boxAcc B 59 [.pointer (some ⟨Mk,0,none⟩)] :: L)) (hn : out.length ≤ 100000) (hk : k ≤ 100000) (h0 : 0 ≤ i.off ∧ i.off ≤ 40000) : Calls Tryz.prog 46 #[.pointer (some ⟨B,0,none⟩),.pointer (some ⟨X,0,none⟩)] w (LwP w0 Mk lv (.slice (some ⟨P,0,none⟩) np pc) k (out ++ T.lgoes k ((k : Int) + 1 + i.off)) bg (boxAcc X 31 (insL i) :: boxAcc B 59 [.pointer (some ⟨Mk,0,none⟩)] :: L)) := by
 obtain ⟨N,hN⟩ : ∃ N : Int,N = (k : Int) + 1 := ⟨_,rfl⟩
 obtain ⟨Z,hZ⟩ : ∃ Z : Int,Z = N + i.off := ⟨_,rfl⟩
 have kw1 : IntKind.i64.wrap ((k : Int) + 1) = N := by rw [IntWalk.i64_in _ (by omega),hN]
 have kw2 : IntKind.i64.wrap (N + i.off) = Z := by rw [IntWalk.i64_in _ (by omega),hZ]
 rw [show (k : Int) + 1 + i.off = Z by omega]
 have HG := Lib.hid (fun (w : World) (hB : LwB w0 w Mk lv (.slice (some ⟨P,0,none⟩) np pc) k out bg (boxAcc X 31 (insL i) :: boxAcc B 59 [.pointer (some ⟨Mk,0,none⟩)] :: L)) => lwGoes_ok Z hB hn hk)
 clear hN hZ h0
 have HB := Lib.hid hB
 clear hB
 go_enter Tryz.func46,Tryz.ntmps46
 have HB3 := Lib.hid HB.out.drew
 refine WL.begin 9 (fun w' => w'.cell? ⟨B,0,none⟩ = some (.pointer (some ⟨Mk,0,none⟩)) ∧ w'.cell? ⟨Mk,2,none⟩ = some (.int .i64 (k : Int)) ∧ w'.cell? ⟨X,5,none⟩ = some (.int .i64 i.off)) (fun _ => True) (by kernel_rfl) ⟨HB3.out.cellL 1 rfl 0 rfl,HB3.out.m2,HB3.out.cellL 0 rfl 5 (show (insL i)[5]? = some (.int .i64 i.off) from rfl)⟩ trivial (fun hs => ?_)
 generalize w.drew = w3 at *
 refine WL.tk [(0,[0]),(1,[8,5,4,3,2,1]),(2,[]),(3,[]),(4,[8,5,4]),(5,[]),(6,[]),(7,[8,7]),(8,[])] hs ?_; clear hs
 iterate 9
  (first | refine TKs.p (v := ?_) ?_ ?_ | refine TKs.l (v := ?_) ?_ ?_); rotate_left
  ·intro w hc; go_simp <;> rfl
  simp only [Act.put,sA,sZ,sS]
 refine TKs.mk ?_; intro hs
 refine WL.o1 (i := 9) (by kernel_rfl) rfl hs ?_; clear hs
 intro K hK
 go_simp
 refine (HG.out _ HB3.out).mono ?_
 rintro e wq ⟨rfl,hb⟩
 have HB4 := Lib.hid hb
 clear hb
 refine hK.out _ _ (SApp.intro (fun h => (by cases h)) trivial) ?_
 clear hK K; intro hs; try simp only [Act.put,sA,sZ,sS]
 clear hs; refine WL.done (by kernel_rfl) ?_ _; try simp only [Exit.then]
 go_wp2
 go_end0
 exact ⟨rfl,HB4.out⟩
theorem lwC4_ok {w0 w : World} {Mk : Nat} {lv : Value} {k : Nat} {out : List T.Fl} {bg : List Nat} {L : List Acc} (P np pc : Nat) (ps : List T.Pl) (X B : Nat) (i : T.Ins) (hB : LwB w0 w Mk lv (.slice (some ⟨P,0,none⟩) np pc) k out bg (boxAcc X 31 (insL i) :: boxAcc B 59 [.pointer (some ⟨Mk,0,none⟩)] :: L)) (hn : out.length ≤ 100000) : Calls Tryz.prog 48 #[.pointer (some ⟨B,0,none⟩)] w (LwP w0 Mk lv (.slice (some ⟨P,0,none⟩) np pc) k (out ++ [{ T.Fl.zero with do' := 9 }]) bg (boxAcc X 31 (insL i) :: boxAcc B 59 [.pointer (some ⟨Mk,0,none⟩)] :: L)) := by
 have HB := Lib.hid hB
 clear hB
 have b0 := HB.out.cellL 1 rfl 0 rfl
 obtain ⟨x0,x1,x2,x3,x4,x5,x6,x7⟩ := HB.out.cells8 0 rfl
 go_enter Tryz.func48,Tryz.ntmps48
 go_wp2_with fail
 refine (lwPut_new ⟨9,0,false,0,0,0,0#64,0,0⟩ HB.out hn).mono ?_
 rintro e wq ⟨rfl,hb⟩
 have HB3 := Lib.hid hb
 clear hb
 go_wp2
 go_end0
 exact ⟨rfl,HB3.out⟩
theorem lw_of {P : Program} {f : FuncId} {args : Array Value} {w w0 : World} {Mk : Nat} {lv pv : Value} {k : Nat} {out l l' : List T.Fl} {bg : List Nat} {L : List Acc} (h : Calls P f args w (LwP w0 Mk lv pv k (out ++ l) bg L)) (e : l = l') : Calls P f args w (LwP w0 Mk lv pv k (out ++ l') bg L) := e ▸ h
theorem lwOne_ok {w0 w : World} {Mk : Nat} {lv : Value} {k : Nat} {out : List T.Fl} {bg : List Nat} {L : List Acc} (P np pc : Nat) (ps : List T.Pl) (i : T.Ins) (hB : LwB w0 w Mk lv (.slice (some ⟨P,0,none⟩) np pc) k out bg L) (hn : out.length ≤ 99999) (hP : PlcRd w0 P ps) (hl : ps.length = np) (hnp : np ≤ 100000) (hk : k < np) (hlv : (T.plAt ps k).live = true) (hr : i.right = true) (hj : i.jumps = true → 0 ≤ i.off ∧ k + 1 + i.off.toNat < np) : Calls Tryz.prog 16 #[.pointer (some ⟨Mk,0,none⟩),insV i] w (LwP w0 Mk lv (.slice (some ⟨P,0,none⟩) np pc) k (out ++ T.lone ps k i) bg L) := by
 obtain ⟨hd,hs,hof,_,_,hop,_⟩ := T.right_facts hr
 have hn1 : out.length ≤ 100000 := by omega
 have hop : 0 ≤ i.op ∧ i.op ≤ 255 := by omega
 obtain ⟨nf,hnf⟩ : ∃ q,T.lone ps k i = q := ⟨_,rfl⟩
 rw [hnf]
 have hJ := fun w => jumps_any i w
 obtain ⟨jm,hjm⟩ : ∃ q,i.jumps = q := ⟨_,rfl⟩
 rw [hjm] at hJ
 have HJ := Lib.hid hJ
 have H14 := Lib.hid (fun (e : i.op = 14) (w : World) (X B : Nat) hB => lw_of (lwC1_ok (w0 := w0) (w := w) (k := k) (out := out) (Mk := Mk) (lv := lv) (bg := bg) (L := L) P np pc ps X B i hB hn1 hP hl hk hlv hs) (show _ = nf by rw [← hnf]; unfold T.lone; rw [if_pos e]))
 have H15 := Lib.hid (fun (e : i.op = 15) (w : World) (X B : Nat) hB => lw_of (lwC2_ok (w0 := w0) (w := w) (k := k) (out := out) (Mk := Mk) (lv := lv) (bg := bg) (L := L) P np pc ps X B i hB hn) (show _ = nf by rw [← hnf]; unfold T.lone; rw [if_neg (by omega),if_pos e]))
 have H16 := Lib.hid (fun (e : i.op = 16) (w : World) (X B : Nat) hB => lw_of (lwC3_ok (w0 := w0) (w := w) (k := k) (out := out) (Mk := Mk) (lv := lv) (bg := bg) (L := L) P np pc ps X B i hB hn1 (by omega) ⟨(hj (by unfold T.Ins.jumps; rw [e]; decide)).1,by omega⟩) (show _ = nf by rw [← hnf]; unfold T.lone; rw [if_neg (by omega),if_neg (by omega),if_pos e]))
 have H28 := Lib.hid (fun (e : i.op = 28) (w : World) (X B : Nat) hB => lw_of (lwC4_ok (w0 := w0) (w := w) (k := k) (out := out) (Mk := Mk) (lv := lv) (bg := bg) (L := L) P np pc ps X B i hB hn1) (show _ = nf by rw [← hnf]; unfold T.lone; rw [if_neg (by omega),if_neg (by omega),if_neg (by omega),if_pos e]))
 have HBr := Lib.hid (fun (h : ¬ i.op = 14 ∧ ¬ i.op = 15 ∧ ¬ i.op = 16 ∧ ¬ i.op = 28) (e : jm = true) (w : World) (L : List Acc) hB => lw_of (lwBranch_ok (w0 := w0) (w := w) (k := k) (out := out) (Mk := Mk) (lv := lv) (bg := bg) (L := L) P np pc ps i hB hn hP hl hnp (hj (hjm.trans e)).1 (hj (hjm.trans e)).2) (show _ = nf by rw [← hnf]; unfold T.lone; rw [if_neg h.1,if_neg h.2.1,if_neg h.2.2.1,if_neg h.2.2.2,if_pos (hjm.trans e)]))
 have HRe := Lib.hid (fun (h : ¬ i.op = 14 ∧ ¬ i.op = 15 ∧ ¬ i.op = 16 ∧ ¬ i.op = 28) (e : jm = false) (w : World) (L : List Acc) hB => lw_of (lwReckon_ok (w0 := w0) (w := w) (k := k) (out := out) (Mk := Mk) (lv := lv) (pv := .slice (some ⟨P,0,none⟩) np pc) (bg := bg) (L := L) i hB hn) (show _ = nf by rw [← hnf]; unfold T.lone; rw [if_neg h.1,if_neg h.2.1,if_neg h.2.2.1,if_neg h.2.2.2,if_neg (by rw [hjm,e]; simp)]))
 obtain ⟨op,nr,dst,src,u,off,imm,size⟩ := i
 simp only at H14 H15 H16 H28 HBr HRe hop
 clear hJ hnf hP hl hlv hr hj hd hs hof hn hn1 hjm hk
 unfold insV insL
 have HB0 := Lib.hid ((hB.box [.pointer (some ⟨Mk,0,none⟩)] 59 (by simp)).box [.int .u8 op,.bool nr,.int .i64 dst,.int .i64 src,.bool u,.int .i64 off,.int .i64 imm,.int .i64 size] 31 (by simp))
 clear hB
 rw [World.size_alloc] at HB0
 go_enter Tryz.func16,Tryz.ntmps16
 go_upto_region 1 with fail
 generalize w.heap.size = X at *
 generalize X + 1 = Y at *
 change Code.wp _ _ _ _ ((w.alloc (.cells #[.pointer (some ⟨Mk,0,none⟩)] 59)).alloc (.cells #[.int .u8 op,.bool nr,.int .i64 dst,.int .i64 src,.bool u,.int .i64 off,.int .i64 imm,.int .i64 size] 31))
 generalize ((w.alloc (.cells #[.pointer (some ⟨Mk,0,none⟩)] 59)).alloc (.cells #[.int .u8 op,.bool nr,.int .i64 dst,.int .i64 src,.bool u,.int .i64 off,.int .i64 imm,.int .i64 size] 31)) = w2 at *
 have ht := Tryz.underlying101
 have hk0 := Tryz.underlying29
 obtain ⟨v0,hv0⟩ : ∃ v,v = Value.func (.func 41) #[] #[.pointer (some ⟨X,0,none⟩),.pointer (some ⟨Y,0,none⟩)] := ⟨_,rfl⟩
 obtain ⟨v1,hv1⟩ : ∃ v,v = Value.func (.func 43) #[] #[.pointer (some ⟨X,0,none⟩),.pointer (some ⟨Y,0,none⟩)] := ⟨_,rfl⟩
 obtain ⟨v2,hv2⟩ : ∃ v,v = Value.func (.func 46) #[] #[.pointer (some ⟨X,0,none⟩),.pointer (some ⟨Y,0,none⟩)] := ⟨_,rfl⟩
 obtain ⟨v3,hv3⟩ : ∃ v,v = Value.func (.func 48) #[] #[.pointer (some ⟨X,0,none⟩)] := ⟨_,rfl⟩
 have p0 := put_mes ht hk0 w2 [] 14 v0 (by decide) (by decide) (by simp)
 have p1 := put_mes ht hk0 w2 [(14,v0)] 15 v1 (by decide) (by decide) (by simp)
 have p2 := put_mes ht hk0 w2 [(14,v0),(15,v1)] 16 v2 (by decide) (by decide) (by simp)
 have p3 := put_mes ht hk0 w2 [(14,v0),(15,v1),(16,v2)] 28 v3 (by decide) (by decide) (by simp)
 simp only [List.cons_append,List.nil_append,List.length_cons,List.length_nil,Nat.reduceAdd] at p0 p1 p2 p3
 have hb0 := heap_alloc_new w2 (.map (mes [(14,v0),(15,v1),(16,v2),(28,v3)]) 4)
 have hz : ∀ w,(zeroValue 1).run Tryz.prog w = .ok .nilFunc w := fun w => by kernel_rfl
 have l0 := look_mes ht hk0 hb0 14 v0 (by decide) (by decide) (by simp) (by simp)
 have l1 := look_mes ht hk0 hb0 15 v1 (by decide) (by decide) (by simp) (by simp)
 have l2 := look_mes ht hk0 hb0 16 v2 (by decide) (by decide) (by simp) (by simp)
 have l3 := look_mes ht hk0 hb0 28 v3 (by decide) (by decide) (by simp) (by simp)
 have LN := Lib.hid (fun h : ¬ op = 14 ∧ ¬ op = 15 ∧ ¬ op = 16 ∧ ¬ op = 28 => look_none2 ht hk0 hb0 op .nilFunc (hz _) hop.1 hop.2 (by intro p hp; simp only [List.mem_cons,List.mem_nil_iff,or_false] at hp; rcases hp with rfl | rfl | rfl | rfl <;> simp only <;> omega))
 have e0 : mes [] = #[] := rfl
 rw [e0] at p0
 clear e0 hb0 hz hop
 generalize mes [(14,v0)] = E1 at p0 p1
 generalize mes [(14,v0),(15,v1)] = E2 at p1 p2
 generalize mes [(14,v0),(15,v1),(16,v2)] = E3 at p2 p3
 generalize mes [(14,v0),(15,v1),(16,v2),(28,v3)] = E4 at p3 l0 l1 l2 l3 LN
 have hmm := run_makeMap (P := Tryz.prog) 101 w2
 have hmf : ∀ (fn : Fn) (first cap : Array Value) (w : World),(Instr.makeFunc fn first cap).run Tryz.prog w = .ok (.func fn first cap) w := fun _ _ _ _ => rfl
 subst hv0 hv1 hv2 hv3
 have HB := Lib.hid (HB0.out.alloc (.map E4 4))
 clear HB0
 rcases (show op = 14 ∨ op = 15 ∨ op = 16 ∨ op = 28 ∨ (¬ op = 14 ∧ ¬ op = 15 ∧ ¬ op = 16 ∧ ¬ op = 28) by omega) with rfl | rfl | rfl | rfl | h
 case' inr.inr.inr.inr =>
  have lk := LN.out h
  have HH := Lib.hid h
  clear l0 l1 l2 l3 h
 all_goals
  clear LN
  have b0 := HB.out.cellL 1 rfl 0 rfl
  obtain ⟨x0,x1,x2,x3,x4,x5,x6,x7⟩ := HB.out.cells8 0 rfl
  go_wp2_with fail
  first
   | refine (H14.out (by simp) _ Y X HB.out).mono ?_
   | refine (H15.out (by simp) _ Y X HB.out).mono ?_
   | refine (H16.out (by simp) _ Y X HB.out).mono ?_
   | refine (H28.out (by simp) _ Y X HB.out).mono ?_
   | refine (HJ.out _).mono ?_
     rintro e w4 ⟨rfl,hs⟩
     have HB := Lib.hid (HB.out.call hs)
     clear hs b0 x0 x1 x2 x3 x4 x5 x6 x7
     have b0 := HB.out.cellL 1 rfl 0 rfl
     obtain ⟨x0,x1,x2,x3,x4,x5,x6,x7⟩ := HB.out.cells8 0 rfl
     cases jm
     all_goals
      go_wp2_with fail
      first
       | refine (HBr.out HH.out (by simp) _ _ HB.out).mono ?_
       | refine (HRe.out HH.out (by simp) _ _ HB.out).mono ?_
       | fail
   | fail
 all_goals
  rintro e wq ⟨rfl,hb⟩
  have HBz := Lib.hid hb
  clear hb
  go_wp2
  go_end0
  exact ⟨rfl,HBz.out.drop.drop⟩
end Go.Proofs.YtfeipbgnjainlaaGreat.K
/- (made by genckf2.py) The contract of check.Filter. -/
set_option maxRecDepth 100000
set_option maxHeartbeats 4000000
namespace Go.Proofs.YtfeipbgnjainlaaGreat.K
open Go Go.RowKit Go.Maps Go.Sort

theorem placesF_err {l : List T.Ins} (h : (T.placesF l).1.1 = 0) : (T.placesF l).1 = (0,0) := by rw [(T.placesF_ok h).2.2]
theorem filter_any (b o n c : Nat) (l : List T.Ins) (w : World) (hr : InsRd w b o l) (hl : l.length = n) (hn : n ≤ 4096) :
  Calls Tryz.prog 5 #[.slice (some ⟨b,o,none⟩) n c] w (Ret w (.agg #[.int .i64 (T.placesF l).1.1,.int .i64 ((T.placesF l).1.2 : Int)])) := by
 have hc := fun w' (hs : Since w w') => places_any' b o n c l w' (hr.since hs) hl hn
 have HC := Lib.hid hc
 have HE := Lib.hid (fun h => placesF_err (l := l) h)
 clear hr hl hc
 have BK0 := bk1 w [.int .i64 0,.int .i64 0] 27
 go_enter Tryz.func5,Tryz.ntmps5
 go_upto_region 1 with fail
 generalize w.heap.size = X at *
 refine wp_hid BK0 (fun w1 BK0 => ?_)
 obtain ⟨r0,r1,fr0,fr1⟩ := BK0.out.r2 0 rfl
 go_wp2_with fail
 refine (HC.out _ BK0.out.since).mono ?_
 clear r0 r1 fr0 fr1
 rintro e w2 (⟨hz,P,c2,xs,rfl,_,_,hb⟩ | ⟨hz,rfl,hs⟩)
 case' inl =>
  have BK := Lib.hid (BK0.out.call hb.since)
  have HV := Lib.hid (show (T.placesF l).1 = (0,0) from HE.out hz)
  clear hz hb
 case' inr =>
  have BK := Lib.hid (BK0.out.call hs)
  clear hz hs
 case inl =>
  go_upto_region 2 with fail
  refine wp_bank [boxAcc w2.heap.size 27 [.int .i64 0,.int .i64 0],boxAcc X 27 [.int .i64 0,.int .i64 0]] (BK.out.boxL [.int .i64 0,.int .i64 0] 27 (by simp)) (fun w3 h3 => ?_)
  generalize w2.heap.size = Y at *
  have BK := Lib.hid h3
  obtain ⟨q0,q1⟩ := h3.q2 0 rfl
  obtain ⟨r0,r1,fr0,fr1⟩ := h3.r2 1 rfl
  clear h3
  go_wp2
  refine bodyPost_ret (v := .agg #[.int .i64 0,.int .i64 0]) ?_ rfl ⟨by rw [HV.out]; rfl,((BK.out.boxSet 1 rfl 0 (.int .i64 0)).boxSet 1 rfl 1 (.int .i64 0)).since⟩
  simp [results,Tryz.results5,go_sem,r0,r1]
 case inr =>
  go_upto_region 2 with fail
  refine wp_bank [boxAcc w2.heap.size 27 [.int .i64 (T.placesF l).1.1,.int .i64 ((T.placesF l).1.2 : Int)],boxAcc X 27 [.int .i64 0,.int .i64 0]] (BK.out.boxL [.int .i64 (T.placesF l).1.1,.int .i64 ((T.placesF l).1.2 : Int)] 27 (by simp)) (fun w3 h3 => ?_)
  generalize w2.heap.size = Y at *
  have BK := Lib.hid h3
  obtain ⟨q0,q1⟩ := h3.q2 0 rfl
  obtain ⟨r0,r1,fr0,fr1⟩ := h3.r2 1 rfl
  clear h3
  go_wp2
  refine bodyPost_ret (v := .agg #[.int .i64 (T.placesF l).1.1,.int .i64 ((T.placesF l).1.2 : Int)]) ?_ rfl ⟨rfl,((BK.out.boxSet 1 rfl 0 (.int .i64 (T.placesF l).1.1)).boxSet 1 rfl 1 (.int .i64 ((T.placesF l).1.2 : Int))).since⟩
  simp [results,Tryz.results5,go_sem,r0,r1]
end Go.Proofs.YtfeipbgnjainlaaGreat.K
