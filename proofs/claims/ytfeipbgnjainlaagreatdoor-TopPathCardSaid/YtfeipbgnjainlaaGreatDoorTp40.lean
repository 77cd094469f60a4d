/- TYq, TYs -/
import Derived.Test.YtfeipbgnjainlaaGreatDoorTp10
import Derived.Test.YtfeipbgnjainlaaGreatDoorTp2
import Derived.Test.YtfeipbgnjainlaaGreatDoorTp4
import Derived.Test.YtfeipbgnjainlaaGreatDoorTp26
import Derived.Test.YtfeipbgnjainlaaGreatDoorTp36
import Derived.Test.YtfeipbgnjainlaaGreatDoorTp37
import Derived.Test.YtfeipbgnjainlaaGreatDoorTp38
import Derived.Test.YtfeipbgnjainlaaGreatDoorTp39
import Derived.Test.YtfeipbgnjainlaaGreatDoorTp11
set_option linter.unusedVariables false
set_option linter.unusedSimpArgs false
set_option maxRecDepth 100000
set_option maxHeartbeats 8000000
namespace Go.Proofs.YtfeipbgnjainlaaGreatDoor.K
open Go Go.RowKit Go.Maps Go.Sort
theorem tyGoes1_ok(t I:Nat)(k:FuncId)(y:PV)(i:T.Ins)(p':T.Pl)(w:World)(hw:y.p.Wf)(hr:PRd w y)(hT:w.cell? ⟨t,0,none⟩=some (.func (.func k) #[] #[.pointer (some ⟨I,0,none⟩)]))(hI:∀j v,(insL i)[j]?=some v->w.cell? ⟨I,j,none⟩=some v)
  (hcf:∀(a b:Value) (w:World),(callFunc k #[a,b]).run Tryz.prog w=.ok (.enter k #[a,b]) w)
  (hturn:∀(Q:Nat) (z:PV) (w0 w:World) (R:List Acc),z.p=y.p->Bank w0 w (boxAcc Q 87 [.bool true,.slice (some ⟨z.gr,0,none⟩) 11 z.cr,.slice (some ⟨z.gb,0,none⟩) 512 z.cb,.int .i64 z.p.least]::z.regA::z.byA::R)->(∀j v,(insL i)[j]?=some v->w0.cell? ⟨I,j,none⟩=some v)->Calls Tryz.prog k #[.pointer (some ⟨Q,0,none⟩),.pointer (some ⟨I,0,none⟩)] w (TurnP w0 Q z R p')) :
  Calls Tryz.prog 237 #[PlV y,.pointer (some ⟨t,0,none⟩)] w (RuleT w (some p') none):=by
 have HC:=Hd (fun w' (h:PRd w' y)=>tyOwn_any y w' hw.rl hw.bl h.1 h.2.1);have HR:=Hd hr;have HT:=Hd hT;have HI:=Hd hI;have HU:=Hd hturn;clear hw hr hT hI hturn;unfold PlV at HC ⊢;have BK0:=bk3 w [.bool true,.slice (some ⟨y.gr,0,none⟩) 11 y.cr,.slice (some ⟨y.gb,0,none⟩) 512 y.cb,.int .i64 y.p.least] 87 [.bool false,.slice none 0 0,.slice none 0 0,.int .i64 0] 87 [.bool false,.slice none 0 0,.slice none 0 0,.int .i64 0] 87;go_enter Tryz.func237,Tryz.ntmps237;go_upto_region 1 with fail;generalize w.heap.size=X at *;refine wp_hid BK0 (fun w1 BK0=>?_);obtain⟨p0,p1,p2,p3⟩:=BK0.o.q4 2 rfl;go_wp2_with fail;refine(HC.o _ (HR.o.since BK0.o.since)).mono ?_;rintro e w2 ⟨z,hz,rfl,hb⟩;have BK1:=Hd (bank_join BK0.o hb);have HZ:=Hd hz;clear hb hz BK0 p0 p1 p2 p3;unfold PlV;go_upto_region 2 with fail;refine wp_hid (Hd (BK1.o.bx [.bool true,.slice (some ⟨z.gr,0,none⟩) 11 z.cr,.slice (some ⟨z.gb,0,none⟩) 512 z.cb,.int .i64 z.p.least] 87)) (fun w3 BK2=>?_);generalize w2.heap.size=Q at *;clear BK1;have t0:=BK2.o.since.keep HT.o;go_wp2_with fail;refine(HU.o Q z w w3 _ HZ.o BK2.o HI.o).mono ?_;rintro e w4 ⟨z2,hz2,rfl,hb⟩;have BK3:=Hd hb;have HZ2:=Hd hz2;clear hb hz2 t0 BK2;obtain⟨q0,q1,q2,q3⟩:=BK3.o.q4 0 rfl;obtain⟨a0,a1,a2,a3,fa0,fa1,fa2,fa3⟩:=BK3.o.r4 4 rfl;obtain⟨b0,b1,b2,b3,fb0,fb1,fb2,fb3⟩:=BK3.o.r4 3 rfl;have BK4:=Hd ((((BK3.o.bs 4 0 (.bool true)).bs 4 1 (.slice (some ⟨z2.gr,0,none⟩) 11 z2.cr)).bs 4 2 (.slice (some ⟨z2.gb,0,none⟩) 512 z2.cb)).bs 4 3 (.int .i64 z2.p.least));have BK5:=Hd ((((BK4.o.bs 3 0 (.bool false)).bs 3 1 (.slice none 0 0)).bs 3 2 (.slice none 0 0)).bs 3 3 (.int .i64 0));go_wp2;clear q0 q1 q2 q3 a0 a1 a2 a3 fa0 fa1 fa2 fa3 b0 b1 b2 b3 fb0 fb1 fb2 fb3;obtain⟨a0,a1,a2,a3⟩:=BK5.o.q4 4 rfl;obtain⟨b0,b1,b2,b3⟩:=BK5.o.q4 3 rfl;refine bodyPost_ret (v:=.tuple #[.agg #[.bool true,.slice (some ⟨z2.gr,0,none⟩) 11 z2.cr,.slice (some ⟨z2.gb,0,none⟩) 512 z2.cb,.int .i64 z2.p.least],.agg #[.bool false,.slice none 0 0,.slice none 0 0,.int .i64 0],.nilIface]) ?_ rfl ⟨_,_,[z2.regA,z2.byA],[],rfl,BK5.o.sub (.cons _ (.cons_cons _ (.cons_cons _ (List.nil_sublist _)))),.inr ⟨z2,by rw[HZ2.o],rfl,rfl⟩,.inl ⟨rfl,rfl,rfl⟩⟩;simp[results,Tryz.results237,go_sem,a0,a1,a2,a3,b0,b1,b2,b3]
theorem app7q{a b c d e f g:Prop}(x:a/\b/\c/\d)(y:e/\f/\g):a/\b/\c/\d/\e/\f/\g:=⟨x.1,x.2.1,x.2.2.1,x.2.2.2,y⟩
theorem tyExit_ok(y:PV)(w:World)(hw:y.p.Wf)(hr:PRd w y)(hk:(T.asN y.p (y.p.reg 0)).1=0):Calls Tryz.prog 139 #[PlV y] w (RuleT w none none):=by
 obtain⟨x,hx⟩:∃x,y.p.reg 0=x:=⟨_,rfl⟩
 rw[hx]at hk
 have HX:=Hd (show ∀w',Since w w'->w'.cell? ⟨y.gr,0,none⟩=some (.int .u8 x.k)/\w'.cell? ⟨y.gr,1,none⟩=some (W64 x.s.lo)/\w'.cell? ⟨y.gr,2,none⟩=some (W64 x.s.hi)from fun w' hs=>by
  have h:=knsReg (hr.since hs).1 hw.rl 0 (by decide);rw[show((0:Nat):Int)=0 from rfl,hx]at h
  simpa using h)
 obtain⟨sp,hsp⟩:∃sp,(T.asN y.p x).2=sp:=⟨_,rfl⟩
 have HN:=Hd (show ∀w',Calls Tryz.prog 140 #[.agg #[.int .u8 x.k,W64 x.s.lo,W64 x.s.hi],.agg #[.bool true,.slice (some ⟨y.gr,0,none⟩) 11 y.cr,.slice (some ⟨y.gb,0,none⟩) 512 y.cb,.int .i64 y.p.least]] w' (Ret w' (.tuple #[.agg #[W64 sp.lo,W64 sp.hi],.nilIface]))from fun w'=>by rw[<-hsp];exact tyNumber_ok y x w' hw.l0 hw.ll hk);clear hw hr hk hx hsp;unfold PlV;have BK0:=bk3 w [.bool true,.slice (some ⟨y.gr,0,none⟩) 11 y.cr,.slice (some ⟨y.gb,0,none⟩) 512 y.cb,.int .i64 y.p.least] 87 [.bool false,.slice none 0 0,.slice none 0 0,.int .i64 0] 87 [.bool false,.slice none 0 0,.slice none 0 0,.int .i64 0] 87;go_enter Tryz.func139,Tryz.ntmps139;go_upto_region 1 with fail;generalize w.heap.size=X at *;refine wp_hid BK0 (fun w1 BK0=>?_);go_cut [6] (fun s6 wx=>s6=.nilIface/\∃G,Bank w wx (boxAcc G 122 [W64 sp.lo,W64 sp.hi]::boxAcc (X+1+1) 87 [.bool false,.slice none 0 0,.slice none 0 0,.int .i64 0]::boxAcc (X+1) 87 [.bool false,.slice none 0 0,.slice none 0 0,.int .i64 0]::[boxAcc X 87 [.bool true,.slice (some ⟨y.gr,0,none⟩) 11 y.cr,.slice (some ⟨y.gb,0,none⟩) 512 y.cb,.int .i64 y.p.least]]))
 case first =>
  have BK:=Hd BK0.o.drew;clear BK0;refine WL.begin 99 (fun _=>True) (fun w'=>w'.cell? ⟨X,0,none⟩=some (.bool true)/\w'.cell? ⟨X,1,none⟩=some (.slice (some ⟨y.gr,0,none⟩) 11 y.cr)/\w'.cell? ⟨X,2,none⟩=some (.slice (some ⟨y.gb,0,none⟩) 512 y.cb)/\w'.cell? ⟨X,3,none⟩=some (.int .i64 y.p.least)/\w'.cell? ⟨y.gr,0,none⟩=some (.int .u8 x.k)/\w'.cell? ⟨y.gr,1,none⟩=some (W64 x.s.lo)/\w'.cell? ⟨y.gr,2,none⟩=some (W64 x.s.hi)) (by kernel_rfl) trivial (by first|exact app7q (BK.o.q4 2 rfl) (HX.o _ BK.o.since)|fail) (fun hs=>?_);generalize w1.drew=wz at *
  repeat' first
   | (with_reducible refine StepL.at 5 ?_
      intro K hK;go_simp;refine(HN.o _).mono ?_;rintro e wz ⟨rfl,hs⟩;have BK:=Hd (BK.o.call hs);clear hs;refine hK.o _ _ (SaT (by first|exact app7q (BK.o.q4 2 rfl) (HX.o _ BK.o.since)|exact app7q (BK.o.q4 3 rfl) (HX.o _ BK.o.since)|fail)) ?_
      clear hK K;intro hs;try simp only[Act.put,sA,sZ,sS])
   | (with_reducible refine StepL.at 9 ?_
      intro K hK;go_simp;have BK:=Hd (BK.o.bx [W64 0#64,W64 0#64] 122);refine hK.o _ _ (SaT (by first|exact app7q (BK.o.q4 3 rfl) (HX.o _ BK.o.since)|fail)) ?_;generalize wz.heap.size=G at *;generalize(wz.alloc (.cells #[W64 0#64,W64 0#64] 122))=wz at *
      clear hK K;intro hs;try simp only[Act.put,sA,sZ,sS])
   | (with_reducible refine StepL.at 10 ?_
      intro K hK;have hb3:=BK.o.r2 0 rfl;have b0:=hb3.1;have b1:=hb3.2.1;have fb0:=hb3.2.2.1;have fb1:=hb3.2.2.2;clear hb3;go_simp;have BK:=Hd ((BK.o.bs 0 0 (W64 sp.lo)).bs 0 1 (W64 sp.hi));clear b0 b1 fb0 fb1;refine hK.o _ _ (SaT (by first|exact app7q (BK.o.q4 3 rfl) (HX.o _ BK.o.since)|fail)) ?_
      clear hK K;intro hs;try simp only[Act.put])
   | (with_reducible refine StepL.at 11 ?_
      intro K hK;go_simp;refine hK.o _ _ (SaT (by first|exact app7q (BK.o.q4 3 rfl) (HX.o _ BK.o.since)|fail)) ?_
      clear hK K;intro hs;try simp only[Act.put,sA,sZ,sS])
   | (refine WL.tp (i:=0) (v:=?_) rfl (by decide +kernel) (fun _ _ _ h=>h) hs (Or.inl ⟨by kernel_rfl,?_⟩) ?_;rotate_left;· intro w hc;go_simp<;>rfl
      clear hs;intro hs;simp only[Act.put,sA,sZ,sS])
   | (refine WL.tp (i:=1) (v:=?_) rfl (by decide +kernel) (fun _ _ _ h=>h) hs (Or.inl ⟨by kernel_rfl,?_⟩) ?_;rotate_left;· intro w hc;go_simp<;>rfl
      clear hs;intro hs;simp only[Act.put,sA,sZ,sS])
   | (refine WL.tp (i:=2) (v:=?_) rfl (by decide +kernel) (fun _ _ _ h=>h) hs (Or.inl ⟨by kernel_rfl,?_⟩) ?_;rotate_left;· intro w hc;go_simp<;>rfl
      clear hs;intro hs;simp only[Act.put,sA,sZ,sS])
   | (refine WL.tp (i:=3) (v:=?_) rfl (by decide +kernel) (fun _ _ _ h=>h) hs (Or.inl ⟨by kernel_rfl,?_⟩) ?_;rotate_left;· intro w hc;go_simp<;>rfl
      clear hs;intro hs;simp only[Act.put,sA,sZ,sS])
   | (refine WL.tp (i:=4) (v:=?_) rfl (by decide +kernel) (fun _ _ _ h=>h) hs (Or.inl ⟨by kernel_rfl,?_⟩) ?_;rotate_left;· intro w hc;go_simp<;>rfl
      clear hs;intro hs;simp only[Act.put,sA,sZ,sS])
   | (refine WL.tp (i:=6) (v:=?_) rfl (by decide +kernel) (fun _ _ _ h=>h) hs (Or.inl ⟨by kernel_rfl,?_⟩) ?_;rotate_left;· intro w hc;go_simp<;>rfl
      clear hs;intro hs;simp only[Act.put,sA,sZ,sS])
   | (refine WL.tp (i:=7) (v:=?_) rfl (by decide +kernel) (fun _ _ _ h=>h) hs (Or.inl ⟨by kernel_rfl,?_⟩) ?_;rotate_left;· intro w hc;go_simp<;>rfl
      clear hs;intro hs;simp only[Act.put,sA,sZ,sS])
   | (refine WL.tp (i:=8) (v:=?_) rfl (by decide +kernel) (fun _ _ _ h=>h) hs (Or.inl ⟨by kernel_rfl,?_⟩) ?_;rotate_left;· intro w hc;go_simp<;>rfl
      clear hs;intro hs;simp only[Act.put,sA,sZ,sS])
   | (refine WL.s1 (i:=5) (by decide +kernel) rfl hs ?_<;>clear hs)
   | (refine WL.o2 (i:=5) (j:=9) (by decide +kernel) rfl rfl hs ?_ ?_<;>clear hs)
   | (refine WL.s1 (i:=9) (by decide +kernel) rfl hs ?_<;>clear hs)
   | (refine WL.s1 (i:=10) (by decide +kernel) rfl hs ?_<;>clear hs)
   | (refine WL.s1 (i:=11) (by decide +kernel) rfl hs ?_<;>clear hs)
   | (clear hs;refine WL.done (by decide +kernel) ?_ _;try simp only[Exit.then]
      go_wp2_with fail;go_meet
      exact⟨rfl,_,BK.o⟩)
 case rest =>
  obtain⟨rfl,G,hB⟩:=hcut;have BK3:=Hd hB;clear hB HN HX BK0;obtain⟨a0,a1,a2,a3,fa0,fa1,fa2,fa3⟩:=BK3.o.r4 2 rfl;obtain⟨b0,b1,b2,b3,fb0,fb1,fb2,fb3⟩:=BK3.o.r4 1 rfl;have BK4:=Hd ((((BK3.o.bs 2 0 (.bool false)).bs 2 1 (.slice none 0 0)).bs 2 2 (.slice none 0 0)).bs 2 3 (.int .i64 0));have BK5:=Hd ((((BK4.o.bs 1 0 (.bool false)).bs 1 1 (.slice none 0 0)).bs 1 2 (.slice none 0 0)).bs 1 3 (.int .i64 0));go_wp2;clear a0 a1 a2 a3 fa0 fa1 fa2 fa3 b0 b1 b2 b3 fb0 fb1 fb2 fb3;obtain⟨a0,a1,a2,a3⟩:=BK5.o.q4 2 rfl;obtain⟨b0,b1,b2,b3⟩:=BK5.o.q4 1 rfl;refine bodyPost_ret (v:=.tuple #[.agg #[.bool false,.slice none 0 0,.slice none 0 0,.int .i64 0],.agg #[.bool false,.slice none 0 0,.slice none 0 0,.int .i64 0],.nilIface]) ?_ rfl ⟨_,_,[],[],rfl,BK5.o.sub (List.nil_sublist _),.inl ⟨rfl,rfl,rfl⟩,.inl ⟨rfl,rfl,rfl⟩⟩;simp[results,Tryz.results139,go_sem,a0,a1,a2,a3,b0,b1,b2,b3]
set_option maxRecDepth 100000
set_option maxHeartbeats 8000000
def OfP(y:PV)(ah af:Option T.Pl)(w:World)(e:Ending)(w':World):Prop:=∃(k:FuncId) (cap:Array Value),e=.returned (.func (.func k) #[] cap)/\Since w w'/\(∀(vs:Array Value) (w:World),(callFunc k vs).run Tryz.prog w=.ok (.enter k vs) w)/\∀w'',Since w' w''->Calls Tryz.prog k (#[PlV y]++cap) w'' (RuleT w'' ah af)
theorem ofP_goes{k:FuncId}{y:PV}{i:T.Ins}{p':T.Pl}{w w':World}{e:Ending}(hw:y.p.Wf)(hr:PRd w y)(h:GoesP k i w e w')(hcf:∀(a b:Value) (w:World),(callFunc k #[a,b]).run Tryz.prog w=.ok (.enter k #[a,b]) w)
  (hturn:∀(I Q:Nat) (z:PV) (w0 w:World) (R:List Acc),z.p=y.p->Bank w0 w (boxAcc Q 87 [.bool true,.slice (some ⟨z.gr,0,none⟩) 11 z.cr,.slice (some ⟨z.gb,0,none⟩) 512 z.cb,.int .i64 z.p.least]::z.regA::z.byA::R)->(∀j v,(insL i)[j]?=some v->w0.cell? ⟨I,j,none⟩=some v)->Calls Tryz.prog k #[.pointer (some ⟨Q,0,none⟩),.pointer (some ⟨I,0,none⟩)] w (TurnP w0 Q z R p')):OfP y (some p') none w e w':=by
 obtain⟨t,I,rfl,hs,hT,hI⟩:=h;exact⟨_,_,rfl,hs,fun _ _=>by kernel_rfl,fun w'' hs''=>tyGoes1_ok t I k y i p' w'' hw (hr.since (hs.add hs'')) (hs''.keep hT) (fun j v hj=>hs''.keep (hI j v hj)) hcf (hturn I)⟩
theorem tyOf_any(i:T.Ins)(y:PV){ah af:Option T.Pl}(w:World)(hw:y.p.Wf)(hr:PRd w y)(hir:i.right=true)(hc:T.cstep i y.p=(0,ah,af)):Calls Tryz.prog 88 #[insV i] w (OfP y ah af w):=by
 obtain⟨_,_,_,_,_,hop,_⟩:=T.right_facts hir;unfold T.cstep at hc;split at hc
 ·rename_i h14
  split at hc
  ·rename_i h;simp only[Prod.mk.injEq]at hc;exact absurd hc.1 h
  rename_i h;simp only[Prod.mk.injEq,true_and]at hc;obtain⟨rfl,rfl⟩:=hc;refine(tyOf_load i h14 w).mono fun e w' hg=>ofP_goes hw hr hg (fun _ _ _=>by kernel_rfl) (fun I Q z w0 w1 R hz hB hI=>?_)
  rw[<-hz];exact tyLoad1_ok I Q z i hB hI (hz▸hw) hir h14 (hz▸Classical.byContradiction h)
 split at hc
 ·rename_i h15
  split at hc
  ·rename_i h;simp only[Prod.mk.injEq]at hc;exact absurd hc.1 h
  rename_i h;simp only[Prod.mk.injEq,true_and]at hc;obtain⟨rfl,rfl⟩:=hc;refine(tyOf_put i h15 w).mono fun e w' hg=>ofP_goes hw hr hg (fun _ _ _=>by kernel_rfl) (fun I Q z w0 w1 R hz hB hI=>?_)
  rw[<-hz];exact tyPut1_ok I Q z i hB hI (hz▸hw) hir (hz▸Classical.byContradiction h)
 split at hc
 ·rename_i h16
  simp only[Prod.mk.injEq,true_and]at hc;obtain⟨rfl,rfl⟩:=hc;refine(tyOf_jump i h16 w).mono ?_;rintro e w' ⟨rfl,hs⟩;exact⟨_,_,rfl,hs,fun _ _=>by kernel_rfl,fun w'' hs''=>tyJump_ok y w'' hw (hr.since (hs.add hs''))⟩
 split at hc
 ·rename_i h28
  simp only[Prod.mk.injEq]at hc;obtain⟨h0,rfl,rfl⟩:=hc;refine(tyOf_exit i h28 w).mono ?_;rintro e w' ⟨rfl,hs⟩;exact⟨_,_,rfl,hs,fun _ _=>by kernel_rfl,fun w'' hs''=>tyExit_ok y w'' hw (hr.since (hs.add hs'')) h0⟩
 split at hc
 ·rename_i h13
  split at hc
  ·rename_i h;simp only[Prod.mk.injEq]at hc;exact absurd hc.1 h
  rename_i h;simp only[Prod.mk.injEq,true_and]at hc;obtain⟨rfl,rfl⟩:=hc;refine(tyOf_reck i h13 w).mono fun e w' hg=>ofP_goes hw hr hg (fun _ _ _=>by kernel_rfl) (fun I Q z w0 w1 R hz hB hI=>?_)
  rw[<-hz];exact tyReck1_ok I Q z i hB hI (hz▸hw) hir h13 (hz▸Classical.byContradiction h)
 split at hc
 ·simp only[Prod.mk.injEq]at hc;exact absurd hc.1 (by decide)
 split at hc
 ·rename_i h;simp only[Prod.mk.injEq]at hc;exact absurd hc.1 h
 rename_i hM;split at hc
 ·rename_i h;simp only[Prod.mk.injEq]at hc;exact absurd hc.1 h
 rename_i hN;simp only[Prod.mk.injEq,true_and]at hc;obtain⟨rfl,rfl⟩:=hc;have ho:17<=i.op/\i.op<=27:=by omega
 refine(tyOf_branch i ho w).mono ?_;rintro e w' ⟨I,rfl,hs,hI⟩;exact⟨_,_,rfl,hs,fun _ _=>by kernel_rfl,fun w'' hs''=>tyBranch1_ok I y i _ _ w'' hw (hr.since (hs.add hs'')) (fun j v hj=>hs''.keep (hI j v hj)) hir ho (Prod.ext (Classical.byContradiction hM) rfl) (Prod.ext (Classical.byContradiction hN) rfl)⟩
def StepT(w:World)(ah af:Option T.Pl)(e:Ending)(w':World):Prop:=∃v1 v2 M1 M2,e=.returned (.tuple #[v1,v2,.int .i64 0])/\Bank w w' (M1++M2)/\OptA M1 ah v1/\OptA M2 af v2
theorem s12{a b c d e f g h i j k l:Prop}(x:a/\b/\c/\d/\e/\f/\g/\h)(y:i/\j/\k/\l):a/\b/\c/\d/\e/\f/\g/\h/\i/\j/\k/\l:=⟨x.1,x.2.1,x.2.2.1,x.2.2.2.1,x.2.2.2.2.1,x.2.2.2.2.2.1,x.2.2.2.2.2.2.1,x.2.2.2.2.2.2.2,y⟩
theorem s9{a b c d e f g h i:Prop}(x:a/\b/\c/\d)(y:e/\f/\g/\h)(z:i):a/\b/\c/\d/\e/\f/\g/\h/\i:=⟨x.1,x.2.1,x.2.2.1,x.2.2.2,y.1,y.2.1,y.2.2.1,y.2.2.2,z⟩
theorem tyStep_ok(i:T.Ins)(y:PV){ah af:Option T.Pl}(w:World)(hw:y.p.Wf)(hr:PRd w y)(hir:i.right=true)(hc:T.cstep i y.p=(0,ah,af)):Calls Tryz.prog 46 #[insV i,PlV y] w (StepT w ah af):=by
 have HO:=Hd (fun w' (hs:Since w w')=>tyOf_any i y w' hw (hr.since hs) hir hc);have HR:=Hd (fun w' (hs:Since w w')=>tyRight_live y w' hw (hr.since hs));have HN:=Hd (fun w'=>(insRight_any i w'));have HIR:=Hd hir;clear hw hr hir hc;unfold insV insL at HO HN ⊢;unfold PlV at HR ⊢;have h0:=(bk4 w [.int .u8 i.op,.bool i.narrow,.int .i64 i.dst,.int .i64 i.src,.bool i.useImm,.int .i64 i.off,.int .i64 i.imm,.int .i64 i.size] 55 [.bool true,.slice (some ⟨y.gr,0,none⟩) 11 y.cr,.slice (some ⟨y.gb,0,none⟩) 512 y.cb,.int .i64 y.p.least] 87 [.bool false,.slice none 0 0,.slice none 0 0,.int .i64 0] 87 [.bool false,.slice none 0 0,.slice none 0 0,.int .i64 0] 87).o.bx [.int .i64 0] 25;simp only[World.size_alloc]at h0;have BK0:=Hd h0;clear h0;go_enter Tryz.func46,Tryz.ntmps46;go_upto_region 1 with fail;generalize w.heap.size=X at *;refine wp_hid BK0 (fun w1 BK0=>?_);obtain⟨i0,i1,i2,i3,i4,i5,i6,i7⟩:=BK0.o.q8 4 rfl;obtain⟨p0,p1,p2,p3⟩:=BK0.o.q4 3 rfl;go_wp2_with fail;refine(HN.o _).mono ?_;rintro e wa ⟨rfl,hs⟩;have BK:=Hd (BK0.o.call hs);clear hs BK0 i0 i1 i2 i3 i4 i5 i6 i7 p0 p1 p2 p3;rw[HIR.o];obtain⟨p0,p1,p2,p3⟩:=BK.o.q4 3 rfl;go_wp2_with fail;refine(HR.o _ BK.o.since).mono ?_;rintro e wb ⟨rfl,hs⟩;have BK:RowKit.Hid (Bank w wb (boxAcc (X+1+1+1+1) 25 [.int .i64 0]::boxAcc (X+1+1+1) 87 [.bool false,.slice none 0 0,.slice none 0 0,.int .i64 0]::boxAcc (X+1+1) 87 [.bool false,.slice none 0 0,.slice none 0 0,.int .i64 0]::boxAcc (X+1) 87 [.bool true,.slice (some ⟨y.gr,0,none⟩) 11 y.cr,.slice (some ⟨y.gb,0,none⟩) 512 y.cb,.int .i64 y.p.least]::boxAcc X 55 [.int .u8 i.op,.bool i.narrow,.int .i64 i.dst,.int .i64 i.src,.bool i.useImm,.int .i64 i.off,.int .i64 i.imm,.int .i64 i.size]::[])):=Hd (BK.o.call hs);clear hs p0 p1 p2 p3;go_upto_region 3 with fail;have BK:RowKit.Hid (Bank w _ (boxAcc (X+1+1+1+1) 25 [.int .i64 0]::boxAcc (X+1+1+1) 87 [.bool false,.slice none 0 0,.slice none 0 0,.int .i64 0]::boxAcc (X+1+1) 87 [.bool false,.slice none 0 0,.slice none 0 0,.int .i64 0]::boxAcc (X+1) 87 [.bool true,.slice (some ⟨y.gr,0,none⟩) 11 y.cr,.slice (some ⟨y.gb,0,none⟩) 512 y.cb,.int .i64 y.p.least]::boxAcc X 55 [.int .u8 i.op,.bool i.narrow,.int .i64 i.dst,.int .i64 i.src,.bool i.useImm,.int .i64 i.off,.int .i64 i.imm,.int .i64 i.size]::[])):=Hd BK.o.drew;refine WL.begin 99 (fun _=>True) (fun w'=>w'.cell? ⟨X,0,none⟩=some (.int .u8 i.op)/\w'.cell? ⟨X,1,none⟩=some (.bool i.narrow)/\w'.cell? ⟨X,2,none⟩=some (.int .i64 i.dst)/\w'.cell? ⟨X,3,none⟩=some (.int .i64 i.src)/\w'.cell? ⟨X,4,none⟩=some (.bool i.useImm)/\w'.cell? ⟨X,5,none⟩=some (.int .i64 i.off)/\w'.cell? ⟨X,6,none⟩=some (.int .i64 i.imm)/\w'.cell? ⟨X,7,none⟩=some (.int .i64 i.size)/\w'.cell? ⟨(X+1),0,none⟩=some (.bool true)/\w'.cell? ⟨(X+1),1,none⟩=some (.slice (some ⟨y.gr,0,none⟩) 11 y.cr)/\w'.cell? ⟨(X+1),2,none⟩=some (.slice (some ⟨y.gb,0,none⟩) 512 y.cb)/\w'.cell? ⟨(X+1),3,none⟩=some (.int .i64 y.p.least)) (by kernel_rfl) trivial (s12 (BK.o.q8 4 rfl) (BK.o.q4 3 rfl)) (fun hs=>?_);generalize wb.drew=wz at *;refine WL.tk [(0,[]),(2,[])] hs ?_;clear hs
 iterate 2
  (first|refine WLp ?_ ?_ ?_|refine WLl ?_ ?_ ?_);rotate_left
  ·intro w hc;go_simp<;>rfl
  simp only[Act.put,sA,sZ,sS]
 refine TKs.mk ?_;intro hs;refine WLo 1 hs ?_;clear hs;intro K hK;go_simp;refine(HO.o _ BK.o.since).mono ?_;rintro e wz ⟨k,cap,rfl,hs,hcf,hcall⟩;have BK:=Hd (BK.o.call hs);have HCALL:=Hd (hcall _ (Below.refl _ _));clear hs hcall;unfold PlV at HCALL;refine hK.o _ _ (SaT (s12 (BK.o.q8 4 rfl) (BK.o.q4 3 rfl))) ?_;clear hK K;intro hs;try simp only[Act.put,sA,sZ,sS]
 refine WLo 3 hs ?_;clear hs;intro K hK;go_simp;refine HCALL.o.mono ?_;rintro e wz ⟨v1,v2,M1,M2,rfl,hb,hv1,hv2⟩;have BK:RowKit.Hid (Bank w wz (boxAcc (X+1+1+1+1) 25 [.int .i64 0]::boxAcc (X+1+1+1) 87 [.bool false,.slice none 0 0,.slice none 0 0,.int .i64 0]::boxAcc (X+1+1) 87 [.bool false,.slice none 0 0,.slice none 0 0,.int .i64 0]::boxAcc (X+1) 87 [.bool true,.slice (some ⟨y.gr,0,none⟩) 11 y.cr,.slice (some ⟨y.gb,0,none⟩) 512 y.cb,.int .i64 y.p.least]::boxAcc X 55 [.int .u8 i.op,.bool i.narrow,.int .i64 i.dst,.int .i64 i.src,.bool i.useImm,.int .i64 i.off,.int .i64 i.imm,.int .i64 i.size]::(M1++M2))):=Hd (bank_tail BK.o hb);clear hb hcf;obtain⟨lv1,A1,n1,c1,B1,m1,d1,l1,rfl,hl1⟩:=optA_form hv1;obtain⟨lv2,A2,n2,c2,B2,m2,d2,l2,rfl,hl2⟩:=optA_form hv2;have HV1:=Hd hv1;have HV2:=Hd hv2;clear hl1 hl2 hv1 hv2;refine hK.o _ _ (SaT (s12 (BK.o.q8 4 rfl) (BK.o.q4 3 rfl))) ?_;clear hK K;intro hs;try simp only[Act.put,sA,sZ,sS]
 refine WL.tk [(4,[]),(5,[]),(6,[]),(7,[])] hs ?_;clear hs
 iterate 4
  (first|refine WLp ?_ ?_ ?_|refine WLl ?_ ?_ ?_);rotate_left
  ·intro w hc;go_simp<;>rfl
  simp only[Act.put,sA,sZ,sS]
 refine TKs.mk ?_;intro hs;refine WLo 8 hs ?_;clear hs;intro K hK;have hb4:=BK.o.r4 2 rfl;have b0:=hb4.1;have b1:=hb4.2.1;have b2:=hb4.2.2.1;have b3:=hb4.2.2.2.1;have fb0:=hb4.2.2.2.2.1;have fb1:=hb4.2.2.2.2.2.1;have fb2:=hb4.2.2.2.2.2.2.1;have fb3:=hb4.2.2.2.2.2.2.2;clear hb4;go_simp;have BK:=Hd ((((BK.o.bs 2 0 (.bool lv1)).bs 2 1 (.slice A1 n1 c1)).bs 2 2 (.slice B1 m1 d1)).bs 2 3 (.int .i64 l1));clear b0 b1 b2 b3 fb0 fb1 fb2 fb3;refine hK.o _ _ (SaT (s12 (BK.o.q8 4 rfl) (BK.o.q4 3 rfl))) ?_;clear hK K;intro hs;try simp only[Act.put]
 refine WLo 9 hs ?_;clear hs;intro K hK;have hb4:=BK.o.r4 1 rfl;have b0:=hb4.1;have b1:=hb4.2.1;have b2:=hb4.2.2.1;have b3:=hb4.2.2.2.1;have fb0:=hb4.2.2.2.2.1;have fb1:=hb4.2.2.2.2.2.1;have fb2:=hb4.2.2.2.2.2.2.1;have fb3:=hb4.2.2.2.2.2.2.2;clear hb4;go_simp;have BK:=Hd ((((BK.o.bs 1 0 (.bool lv2)).bs 1 1 (.slice A2 n2 c2)).bs 1 2 (.slice B2 m2 d2)).bs 1 3 (.int .i64 l2));clear b0 b1 b2 b3 fb0 fb1 fb2 fb3;refine hK.o _ _ (SaT (s12 (BK.o.q8 4 rfl) (BK.o.q4 3 rfl))) ?_;clear hK K;intro hs;try simp only[Act.put]
 refine WLo 10 hs ?_;clear hs;intro K hK;go_simp;refine hK.o _ _ (SaT (s12 (BK.o.q8 4 rfl) (BK.o.q4 3 rfl))) ?_;clear hK K;intro hs;try simp only[Act.put,sA,sZ,sS]
 clear hs;refine WLd ?_ _;try simp only[Exit.then]
 go_wp2_with fail;refine(errAs_nil _ _).mono ?_;rintro e wc ⟨rfl,rfl⟩;go_upto_region 5 with fail;refine wp_hid BK (fun wc BK=>?_);have BK:RowKit.Hid (Bank w _ (boxAcc (X+1+1+1+1) 25 [.int .i64 0]::boxAcc (X+1+1+1) 87 [.bool lv2,.slice A2 n2 c2,.slice B2 m2 d2,.int .i64 l2]::boxAcc (X+1+1) 87 [.bool lv1,.slice A1 n1 c1,.slice B1 m1 d1,.int .i64 l1]::boxAcc (X+1) 87 [.bool true,.slice (some ⟨y.gr,0,none⟩) 11 y.cr,.slice (some ⟨y.gb,0,none⟩) 512 y.cb,.int .i64 y.p.least]::boxAcc X 55 [.int .u8 i.op,.bool i.narrow,.int .i64 i.dst,.int .i64 i.src,.bool i.useImm,.int .i64 i.off,.int .i64 i.imm,.int .i64 i.size]::(M1++M2))):=Hd BK.o.drew;refine WL.begin 99 (fun _=>True) (fun w'=>w'.cell? ⟨(X+1+1),0,none⟩=some (.bool lv1)/\w'.cell? ⟨(X+1+1),1,none⟩=some (.slice A1 n1 c1)/\w'.cell? ⟨(X+1+1),2,none⟩=some (.slice B1 m1 d1)/\w'.cell? ⟨(X+1+1),3,none⟩=some (.int .i64 l1)/\w'.cell? ⟨(X+1+1+1),0,none⟩=some (.bool lv2)/\w'.cell? ⟨(X+1+1+1),1,none⟩=some (.slice A2 n2 c2)/\w'.cell? ⟨(X+1+1+1),2,none⟩=some (.slice B2 m2 d2)/\w'.cell? ⟨(X+1+1+1),3,none⟩=some (.int .i64 l2)/\w'.cell? ⟨(X+1+1+1+1),0,none⟩=some (.int .i64 0)) (by kernel_rfl) trivial (s9 (BK.o.q4 2 rfl) (BK.o.q4 1 rfl) (BK.o.cl 0 0)) (fun hs=>?_);generalize wc.drew=wz at *;refine WL.tk [(0,[]),(1,[]),(2,[])] hs ?_;clear hs
 iterate 3
  (first|refine WLp ?_ ?_ ?_|refine WLl ?_ ?_ ?_);rotate_left
  ·intro w hc;go_simp<;>rfl
  simp only[Act.put,sA,sZ,sS]
 refine TKs.mk ?_;intro hs;refine WLo 3 hs ?_;clear hs;intro K hK;have hb4:=BK.o.r4 2 rfl;have b0:=hb4.1;have b1:=hb4.2.1;have b2:=hb4.2.2.1;have b3:=hb4.2.2.2.1;have fb0:=hb4.2.2.2.2.1;have fb1:=hb4.2.2.2.2.2.1;have fb2:=hb4.2.2.2.2.2.2.1;have fb3:=hb4.2.2.2.2.2.2.2;clear hb4;go_simp;have BK:=Hd ((((BK.o.bs 2 0 (.bool lv1)).bs 2 1 (.slice A1 n1 c1)).bs 2 2 (.slice B1 m1 d1)).bs 2 3 (.int .i64 l1));clear b0 b1 b2 b3 fb0 fb1 fb2 fb3;refine hK.o _ _ (SaT (s9 (BK.o.q4 2 rfl) (BK.o.q4 1 rfl) (BK.o.cl 0 0))) ?_;clear hK K;intro hs;try simp only[Act.put]
 refine WLo 4 hs ?_;clear hs;intro K hK;have hb4:=BK.o.r4 1 rfl;have b0:=hb4.1;have b1:=hb4.2.1;have b2:=hb4.2.2.1;have b3:=hb4.2.2.2.1;have fb0:=hb4.2.2.2.2.1;have fb1:=hb4.2.2.2.2.2.1;have fb2:=hb4.2.2.2.2.2.2.1;have fb3:=hb4.2.2.2.2.2.2.2;clear hb4;go_simp;have BK:=Hd ((((BK.o.bs 1 0 (.bool lv2)).bs 1 1 (.slice A2 n2 c2)).bs 1 2 (.slice B2 m2 d2)).bs 1 3 (.int .i64 l2));clear b0 b1 b2 b3 fb0 fb1 fb2 fb3;refine hK.o _ _ (SaT (s9 (BK.o.q4 2 rfl) (BK.o.q4 1 rfl) (BK.o.cl 0 0))) ?_;clear hK K;intro hs;try simp only[Act.put]
 refine WLo 5 hs ?_;clear hs;intro K hK;have hb1:=BK.o.r1 0 rfl;have b0:=hb1.1;have fb0:=hb1.2;clear hb1;go_simp;have BK:=Hd (BK.o.bs 0 0 (.int .i64 0));clear b0 fb0;refine hK.o _ _ (SaT (s9 (BK.o.q4 2 rfl) (BK.o.q4 1 rfl) (BK.o.cl 0 0))) ?_;clear hK K;intro hs;try simp only[Act.put]
 clear hs;refine WLd ?_ _;try simp only[Exit.then]
 go_wp2;obtain⟨a0,a1,a2,a3⟩:=BK.o.q4 2 rfl;obtain⟨b0,b1,b2,b3⟩:=BK.o.q4 1 rfl;have c0:=BK.o.cl 0 0;refine bodyPost_ret (v:=.tuple #[.agg #[.bool lv1,.slice A1 n1 c1,.slice B1 m1 d1,.int .i64 l1],.agg #[.bool lv2,.slice A2 n2 c2,.slice B2 m2 d2,.int .i64 l2],.int .i64 0]) ?_ rfl ⟨_,_,M1,M2,rfl,BK.o.sub (.cons _ (.cons _ (.cons _ (.cons _ (.cons _ (.refl _)))))),HV1.o,HV2.o⟩;simp[results,Tryz.results46,go_sem,a0,a1,a2,a3,b0,b1,b2,b3,c0]
end Go.Proofs.YtfeipbgnjainlaaGreatDoor.K
