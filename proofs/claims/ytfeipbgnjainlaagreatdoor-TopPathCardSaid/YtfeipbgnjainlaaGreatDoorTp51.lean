/- TLwC, TRnD -/
import Derived.Test.YtfeipbgnjainlaaGreatDoorTp10
import Derived.Test.YtfeipbgnjainlaaGreatDoorTp2
import Derived.Test.YtfeipbgnjainlaaGreatDoorTp50
import Derived.Test.YtfeipbgnjainlaaGreatDoorTp49
set_option linter.unusedVariables false
set_option linter.unusedSimpArgs false
set_option maxRecDepth 100000
set_option maxHeartbeats 8000000
namespace Go.Proofs.YtfeipbgnjainlaaGreatDoor.K
open Go Go.RowKit Go.Maps Go.Sort
theorem lwC1_ok{w0 w:World}{Mk:Nat}{lv:Value}{k:Nat}{out:List T.Fl}{bg:List Nat}{L:List Acc}(P np pc:Nat)(ps:List T.Pl)(X B:Nat)(i:T.Ins)(hB:LwB w0 w Mk lv (.slice (some ⟨P,0,none⟩) np pc) k out bg (boxAcc X 55 (insL i)::boxAcc B 47 [.pointer (some ⟨Mk,0,none⟩)]::L))(hn:out.length<=100000)(hP:PlcRd w0 P ps)(hl:ps.length=np)(hk:k<np)(hlv:(T.plAt ps k).live=true)(hs:0<=i.src/\i.src<=10):Calls Tryz.prog 29 #[.pointer (some ⟨B,0,none⟩),.pointer (some ⟨X,0,none⟩)] w (LwP w0 Mk lv (.slice (some ⟨P,0,none⟩) np pc) k (out ++ [{ T.Fl.zero with do':=if((T.plAt ps k).reg i.src).k=3 then 5 else 4,d:=i.dst,a:=i.src,n:=T.wide i.off,size:=i.size }]) bg (boxAcc X 55 (insL i)::boxAcc B 47 [.pointer (some ⟨Mk,0,none⟩)]::L)):=by
 have hLD:=lwLoad_ok P np pc ps i hB hn hP hl hk hlv hs;obtain⟨nf,hnf⟩:∃q,({ T.Fl.zero with do':=if((T.plAt ps k).reg i.src).k=3 then 5 else 4,d:=i.dst,a:=i.src,n:=T.wide i.off,size:=i.size }:T.Fl)=q:=⟨_,rfl⟩
 rw[hnf]at hLD ⊢;have HLD:=Hd hLD;clear hLD hnf;have HB:=Hd hB;clear hB;have b0:=HB.o.cellL 1 rfl 0 rfl;obtain⟨x0,x1,x2,x3,x4,x5,x6,x7⟩:=HB.o.cells8 0 rfl;go_enter Tryz.func29,Tryz.ntmps29;go_wp2_with fail;refine(HLD.o).mono ?_;rintro e wq ⟨rfl,hb⟩;have HB2:=Hd hb;clear hb;go_wp2;go_end0;exact⟨rfl,HB2.o⟩
theorem lwC2_ok{w0 w:World}{Mk:Nat}{lv:Value}{k:Nat}{out:List T.Fl}{bg:List Nat}{L:List Acc}(P np pc:Nat)(ps:List T.Pl)(X B:Nat)(i:T.Ins)(hB:LwB w0 w Mk lv (.slice (some ⟨P,0,none⟩) np pc) k out bg (boxAcc X 55 (insL i)::boxAcc B 47 [.pointer (some ⟨Mk,0,none⟩)]::L))(hn:out.length<=99999):Calls Tryz.prog 31 #[.pointer (some ⟨B,0,none⟩),.pointer (some ⟨X,0,none⟩)] w (LwP w0 Mk lv (.slice (some ⟨P,0,none⟩) np pc) k (out++(T.lsec i ++ [{ T.Fl.zero with do':=6,a:=i.dst,b:=T.lreg i,n:=T.wide i.off,size:=i.size }])) bg (boxAcc X 55 (insL i)::boxAcc B 47 [.pointer (some ⟨Mk,0,none⟩)]::L)):=by
 have hSC:=lwSecond_ok i hB (by omega);have hcv:=conv_wide i.off;have hn2:(out++T.lsec i).length<=100000:=by rw[List.length_append];have:=T.lsec_len i;omega
 rw[<-List.append_assoc];obtain⟨lr,hlr⟩:∃q,T.lreg i=q:=⟨_,rfl⟩
 obtain⟨ls,hls⟩:∃q,T.lsec i=q:=⟨_,rfl⟩
 rw[hlr,hls]at hSC;rw[hls]at hn2;rw[hlr,hls];have HSC:=Hd hSC;clear hSC hlr hls;have HB:=Hd hB;clear hB;have b0:=HB.o.cellL 1 rfl 0 rfl;obtain⟨x0,x1,x2,x3,x4,x5,x6,x7⟩:=HB.o.cells8 0 rfl;go_enter Tryz.func31,Tryz.ntmps31;go_wp2_with fail;refine(HSC.o).mono ?_;rintro e wq ⟨rfl,hb⟩;have HB2:=Hd hb;clear hb;clear b0 x0 x1 x2 x3 x4 x5 x6 x7;have b0:=HB2.o.cellL 1 rfl 0 rfl;obtain⟨x0,x1,x2,x3,x4,x5,x6,x7⟩:=HB2.o.cells8 0 rfl;go_wp2_with fail;refine(lwPut_new ⟨6,0,false,0,i.dst,lr,T.wide i.off,i.size,0⟩ HB2.o hn2).mono ?_;rintro e wq ⟨rfl,hb⟩;have HB3:=Hd hb;clear hb;go_wp2;go_end0;exact⟨rfl,HB3.o⟩
theorem lwC3_ok{w0 w:World}{Mk:Nat}{lv:Value}{k:Nat}{out:List T.Fl}{bg:List Nat}{L:List Acc}(P np pc:Nat)(ps:List T.Pl)(X B:Nat)(i:T.Ins)(hB:LwB w0 w Mk lv (.slice (some ⟨P,0,none⟩) np pc) k out bg (boxAcc X 55 (insL i)::boxAcc B 47 [.pointer (some ⟨Mk,0,none⟩)]::L))(hn:out.length<=100000)(hk:k<=100000)(h0:0<=i.off/\i.off<=40000):Calls Tryz.prog 34 #[.pointer (some ⟨B,0,none⟩),.pointer (some ⟨X,0,none⟩)] w (LwP w0 Mk lv (.slice (some ⟨P,0,none⟩) np pc) k (out++T.lgoes k ((k:Int)+1+i.off)) bg (boxAcc X 55 (insL i)::boxAcc B 47 [.pointer (some ⟨Mk,0,none⟩)]::L)):=by
 obtain⟨N,hN⟩:∃N:Int,N=(k:Int)+1:=⟨_,rfl⟩
 obtain⟨Z,hZ⟩:∃Z:Int,Z=N+i.off:=⟨_,rfl⟩
 have kw1:IntKind.i64.wrap ((k:Int)+1)=N:=by rw[IntWalk.i64_in _ (by omega),hN]
 have kw2:IntKind.i64.wrap (N+i.off)=Z:=by rw[IntWalk.i64_in _ (by omega),hZ]
 rw[show(k:Int)+1+i.off=Z by omega];have HG:=Hd (fun(w:World) (hB:LwB w0 w Mk lv (.slice (some ⟨P,0,none⟩) np pc) k out bg (boxAcc X 55 (insL i)::boxAcc B 47 [.pointer (some ⟨Mk,0,none⟩)]::L))=>lwGoes_ok Z hB hn hk);clear hN hZ h0;have HB:=Hd hB;clear hB;go_enter Tryz.func34,Tryz.ntmps34;have HB3:=Hd HB.o.drew;refine WL.begin 9 (fun w'=>w'.cell? ⟨B,0,none⟩=some (.pointer (some ⟨Mk,0,none⟩))/\w'.cell? ⟨Mk,2,none⟩=some (.int .i64 (k:Int))/\w'.cell? ⟨X,5,none⟩=some (.int .i64 i.off)) (fun _=>True) (by kernel_rfl) ⟨HB3.o.cellL 1 rfl 0 rfl,HB3.o.m2,HB3.o.cellL 0 rfl 5 (show(insL i)[5]?=some (.int .i64 i.off)from rfl)⟩ trivial (fun hs=>?_);generalize w.drew=w3 at *;refine WL.tk [(0,[0]),(1,[8,5,4,3,2,1]),(2,[]),(3,[]),(4,[8,5,4]),(5,[]),(6,[]),(7,[8,7]),(8,[])] hs ?_;clear hs
 iterate 9
  (first|refine WLp ?_ ?_ ?_|refine WLl ?_ ?_ ?_);rotate_left
  ·intro w hc;go_simp<;>rfl
  simp only[Act.put,sA,sZ,sS]
 refine TKs.mk ?_;intro hs;refine WLo 9 hs ?_;clear hs;intro K hK;go_simp;refine(HG.o _ HB3.o).mono ?_;rintro e wq ⟨rfl,hb⟩;have HB4:=Hd hb;clear hb;refine hK.o _ _ SaF ?_;clear hK K;intro hs;try simp only[Act.put,sA,sZ,sS]
 clear hs;refine WLd ?_ _;try simp only[Exit.then]
 go_wp2;go_end0;exact⟨rfl,HB4.o⟩
theorem lwC4_ok{w0 w:World}{Mk:Nat}{lv:Value}{k:Nat}{out:List T.Fl}{bg:List Nat}{L:List Acc}(P np pc:Nat)(ps:List T.Pl)(X B:Nat)(i:T.Ins)(hB:LwB w0 w Mk lv (.slice (some ⟨P,0,none⟩) np pc) k out bg (boxAcc X 55 (insL i)::boxAcc B 47 [.pointer (some ⟨Mk,0,none⟩)]::L))(hn:out.length<=100000):Calls Tryz.prog 36 #[.pointer (some ⟨B,0,none⟩)] w (LwP w0 Mk lv (.slice (some ⟨P,0,none⟩) np pc) k (out ++ [{ T.Fl.zero with do':=9 }]) bg (boxAcc X 55 (insL i)::boxAcc B 47 [.pointer (some ⟨Mk,0,none⟩)]::L)):=by
 have HB:=Hd hB;clear hB;have b0:=HB.o.cellL 1 rfl 0 rfl;obtain⟨x0,x1,x2,x3,x4,x5,x6,x7⟩:=HB.o.cells8 0 rfl;go_enter Tryz.func36,Tryz.ntmps36;go_wp2_with fail;refine(lwPut_new ⟨9,0,false,0,0,0,0#64,0,0⟩ HB.o hn).mono ?_;rintro e wq ⟨rfl,hb⟩;have HB3:=Hd hb;clear hb;go_wp2;go_end0;exact⟨rfl,HB3.o⟩
theorem lw_of{P:Program}{f:FuncId}{args:Array Value}{w w0:World}{Mk:Nat}{lv pv:Value}{k:Nat}{out l l':List T.Fl}{bg:List Nat}{L:List Acc}(h:Calls P f args w (LwP w0 Mk lv pv k (out++l) bg L))(e:l=l'):Calls P f args w (LwP w0 Mk lv pv k (out++l') bg L):=e▸h
theorem lwOne_ok{w0 w:World}{Mk:Nat}{lv:Value}{k:Nat}{out:List T.Fl}{bg:List Nat}{L:List Acc}(P np pc:Nat)(ps:List T.Pl)(i:T.Ins)(hB:LwB w0 w Mk lv (.slice (some ⟨P,0,none⟩) np pc) k out bg L)(hn:out.length<=99999)(hP:PlcRd w0 P ps)(hl:ps.length=np)(hnp:np<=100000)(hk:k<np)(hlv:(T.plAt ps k).live=true)(hr:i.right=true)(hj:i.jumps=true->0<=i.off/\k+1+i.off.toNat<np):Calls Tryz.prog 17 #[.pointer (some ⟨Mk,0,none⟩),insV i] w (LwP w0 Mk lv (.slice (some ⟨P,0,none⟩) np pc) k (out++T.lone ps k i) bg L):=by
 obtain⟨hd,hs,hof,_,_,hop,_⟩:=T.right_facts hr;have hn1:out.length<=100000:=by omega
 have hop:0<=i.op/\i.op<=255:=by omega
 obtain⟨nf,hnf⟩:∃q,T.lone ps k i=q:=⟨_,rfl⟩
 rw[hnf];have hJ:=fun w=>jumps_any i w
 obtain⟨jm,hjm⟩:∃q,i.jumps=q:=⟨_,rfl⟩
 rw[hjm]at hJ;have HJ:=Hd hJ;have H14:=Hd (fun(e:i.op=14) (w:World) (X B:Nat) hB=>lw_of (lwC1_ok (w0:=w0) (w:=w) (k:=k) (out:=out) (Mk:=Mk) (lv:=lv) (bg:=bg) (L:=L) P np pc ps X B i hB hn1 hP hl hk hlv hs) (show _=nf by rw[<-hnf];unfold T.lone;rw[if_pos e]));have H15:=Hd (fun(e:i.op=15) (w:World) (X B:Nat) hB=>lw_of (lwC2_ok (w0:=w0) (w:=w) (k:=k) (out:=out) (Mk:=Mk) (lv:=lv) (bg:=bg) (L:=L) P np pc ps X B i hB hn) (show _=nf by rw[<-hnf];unfold T.lone;rw[if_neg (by omega),if_pos e]));have H16:=Hd (fun(e:i.op=16) (w:World) (X B:Nat) hB=>lw_of (lwC3_ok (w0:=w0) (w:=w) (k:=k) (out:=out) (Mk:=Mk) (lv:=lv) (bg:=bg) (L:=L) P np pc ps X B i hB hn1 (by omega) ⟨(hj (by unfold T.Ins.jumps;rw[e];decide)).1,by omega⟩) (show _=nf by rw[<-hnf];unfold T.lone;rw[if_neg (by omega),if_neg (by omega),if_pos e]));have H28:=Hd (fun(e:i.op=28) (w:World) (X B:Nat) hB=>lw_of (lwC4_ok (w0:=w0) (w:=w) (k:=k) (out:=out) (Mk:=Mk) (lv:=lv) (bg:=bg) (L:=L) P np pc ps X B i hB hn1) (show _=nf by rw[<-hnf];unfold T.lone;rw[if_neg (by omega),if_neg (by omega),if_neg (by omega),if_pos e]));have HBr:=Hd (fun(h:¬i.op=14/\¬i.op=15/\¬i.op=16/\¬i.op=28) (e:jm=true) (w:World) (L:List Acc) hB=>lw_of (lwBranch_ok (w0:=w0) (w:=w) (k:=k) (out:=out) (Mk:=Mk) (lv:=lv) (bg:=bg) (L:=L) P np pc ps i hB hn hP hl hnp (hj (hjm.trans e)).1 (hj (hjm.trans e)).2) (show _=nf by rw[<-hnf];unfold T.lone;rw[if_neg h.1,if_neg h.2.1,if_neg h.2.2.1,if_neg h.2.2.2,if_pos (hjm.trans e)]));have HRe:=Hd (fun(h:¬i.op=14/\¬i.op=15/\¬i.op=16/\¬i.op=28) (e:jm=false) (w:World) (L:List Acc) hB=>lw_of (lwReckon_ok (w0:=w0) (w:=w) (k:=k) (out:=out) (Mk:=Mk) (lv:=lv) (pv:=.slice (some ⟨P,0,none⟩) np pc) (bg:=bg) (L:=L) i hB hn) (show _=nf by rw[<-hnf];unfold T.lone;rw[if_neg h.1,if_neg h.2.1,if_neg h.2.2.1,if_neg h.2.2.2,if_neg (by rw[hjm,e];simp)]));obtain⟨op,nr,dst,src,u,off,imm,size⟩:=i;simp only at H14 H15 H16 H28 HBr HRe hop;clear hJ hnf hP hl hlv hr hj hd hs hof hn hn1 hjm hk;unfold insV insL;have HB0:=Hd ((hB.box [.pointer (some ⟨Mk,0,none⟩)] 47 (by simp)).box [.int .u8 op,.bool nr,.int .i64 dst,.int .i64 src,.bool u,.int .i64 off,.int .i64 imm,.int .i64 size] 55 (by simp));clear hB;rw[World.size_alloc]at HB0;go_enter Tryz.func17,Tryz.ntmps17;go_upto_region 1 with fail;generalize w.heap.size=X at *;generalize X+1=Y at *;change Code.wp _ _ _ _ ((w.alloc (.cells #[.pointer (some ⟨Mk,0,none⟩)] 47)).alloc (.cells #[.int .u8 op,.bool nr,.int .i64 dst,.int .i64 src,.bool u,.int .i64 off,.int .i64 imm,.int .i64 size] 55));generalize((w.alloc (.cells #[.pointer (some ⟨Mk,0,none⟩)] 47)).alloc (.cells #[.int .u8 op,.bool nr,.int .i64 dst,.int .i64 src,.bool u,.int .i64 off,.int .i64 imm,.int .i64 size] 55))=w2 at *;have ht:=Tryz.underlying98;have hk0:=Tryz.underlying53;obtain⟨v0,hv0⟩:∃v,v=Value.func (.func 29) #[] #[.pointer (some ⟨X,0,none⟩),.pointer (some ⟨Y,0,none⟩)]:=⟨_,rfl⟩
 obtain⟨v1,hv1⟩:∃v,v=Value.func (.func 31) #[] #[.pointer (some ⟨X,0,none⟩),.pointer (some ⟨Y,0,none⟩)]:=⟨_,rfl⟩
 obtain⟨v2,hv2⟩:∃v,v=Value.func (.func 34) #[] #[.pointer (some ⟨X,0,none⟩),.pointer (some ⟨Y,0,none⟩)]:=⟨_,rfl⟩
 obtain⟨v3,hv3⟩:∃v,v=Value.func (.func 36) #[] #[.pointer (some ⟨X,0,none⟩)]:=⟨_,rfl⟩
 have p0:=put_mes ht hk0 w2 [] 14 v0 (by decide) (by decide) (by simp);have p1:=put_mes ht hk0 w2 [(14,v0)] 15 v1 (by decide) (by decide) (by simp);have p2:=put_mes ht hk0 w2 [(14,v0),(15,v1)] 16 v2 (by decide) (by decide) (by simp);have p3:=put_mes ht hk0 w2 [(14,v0),(15,v1),(16,v2)] 28 v3 (by decide) (by decide) (by simp);simp only[List.cons_append,List.nil_append,List.length_cons,List.length_nil,Nat.reduceAdd]at p0 p1 p2 p3;have hb0:=heap_alloc_new w2 (.map (mes [(14,v0),(15,v1),(16,v2),(28,v3)]) 4);have hz:∀w,(zeroValue 1).run Tryz.prog w=.ok .nilFunc w:=fun w=>by kernel_rfl
 have l0:=look_mes ht hk0 hb0 14 v0 (by decide) (by decide) (by simp) (by simp);have l1:=look_mes ht hk0 hb0 15 v1 (by decide) (by decide) (by simp) (by simp);have l2:=look_mes ht hk0 hb0 16 v2 (by decide) (by decide) (by simp) (by simp);have l3:=look_mes ht hk0 hb0 28 v3 (by decide) (by decide) (by simp) (by simp);have LN:=Hd (fun h:¬op=14/\¬op=15/\¬op=16/\¬op=28=>look_none2 ht hk0 hb0 op .nilFunc (hz _) hop.1 hop.2 (by intro p hp;simp only[List.mem_cons,List.mem_nil_iff,or_false]at hp;rcases hp with rfl|rfl|rfl|rfl<;>simp only<;>omega));have e0:mes [] = #[]:=rfl;rw[e0]at p0;clear e0 hb0 hz hop;generalize mes [(14,v0)]=E1 at p0 p1;generalize mes [(14,v0),(15,v1)]=E2 at p1 p2;generalize mes [(14,v0),(15,v1),(16,v2)]=E3 at p2 p3;generalize mes [(14,v0),(15,v1),(16,v2),(28,v3)]=E4 at p3 l0 l1 l2 l3 LN;have hmm:=run_makeMap (P:=Tryz.prog) 98 w2;have hmf:=hmfT;subst hv0 hv1 hv2 hv3;have HB:=Hd (HB0.o.alloc (.map E4 4));clear HB0;rcases(show op=14\/op=15\/op=16\/op=28\/(¬op=14/\¬op=15/\¬op=16/\¬op=28)by omega)with rfl|rfl|rfl|rfl|h
 case' inr.inr.inr.inr =>
  have lk:=LN.o h;have HH:=Hd h;clear l0 l1 l2 l3 h
 all_goals
  clear LN;have b0:=HB.o.cellL 1 rfl 0 rfl;obtain⟨x0,x1,x2,x3,x4,x5,x6,x7⟩:=HB.o.cells8 0 rfl;go_wp2_with fail
  first
   | refine(H14.o (by simp) _ Y X HB.o).mono ?_
   | refine(H15.o (by simp) _ Y X HB.o).mono ?_
   | refine(H16.o (by simp) _ Y X HB.o).mono ?_
   | refine(H28.o (by simp) _ Y X HB.o).mono ?_
   | refine(HJ.o _).mono ?_
     rintro e w4 ⟨rfl,hs⟩;have HB:=Hd (HB.o.call hs);clear hs b0 x0 x1 x2 x3 x4 x5 x6 x7;have b0:=HB.o.cellL 1 rfl 0 rfl;obtain⟨x0,x1,x2,x3,x4,x5,x6,x7⟩:=HB.o.cells8 0 rfl;cases jm
     all_goals
      go_wp2_with fail
      first
       | refine(HBr.o HH.o (by simp) _ _ HB.o).mono ?_
       | refine(HRe.o HH.o (by simp) _ _ HB.o).mono ?_
       | fail
   | fail
 all_goals
  rintro e wq ⟨rfl,hb⟩;have HBz:=Hd hb;clear hb;go_wp2;go_end0;exact⟨rfl,HBz.o.drop.drop⟩
set_option maxRecDepth 100000
set_option maxHeartbeats 8000000
def fmZero:T.Fm:=⟨List.replicate 16 0,List.replicate 512 0,0⟩
def fmA(pk:Value):Array Value:=(fmL fmZero pk (.int .i64 0) (.bool false)).toArray
theorem fmZero_ok:Fok fmZero:=⟨List.length_replicate,List.length_replicate⟩
theorem built_fm(A:Option Addr)(n c:Nat):Tryz.prog.built 78 [(2,.slice A n c)]=some (fmA (.slice A n c)):=by kernel_rfl
theorem run_build_fm(A:Option Addr)(n c:Nat)(w:World):(Instr.build 78 #[(2,.slice A n c)]).run Tryz.prog w=.ok (.agg (fmA (.slice A n c))) w:=run_build w _ _ _ (built_fm A n c)
theorem fm_start_ok(n:Nat):Fok (T.Fm.start n):=⟨by unfold T.Fm.start;rw[List.length_set,List.length_replicate],List.length_replicate⟩
theorem Bank.keepNew{w0 w:World}{L:List Acc}(h:Bank w0 w L)(o:Obj):BankK [(w.heap.size,o)] w0 (w.alloc o) L :=
 ⟨h.alloc o,fun k hk=>by
  rw[List.mem_singleton]at hk;subst hk;exact heap_alloc_new w o,fun k hk p hp e=>by
  rw[List.mem_singleton]at hk;subst hk
  exact Nat.lt_irrefl _ (h.lt hp e).2⟩
theorem okP_9{P:Nat->Prop}{f:T.Fl}(h:f.okP P)(h9:f.do'=9):T.reg16 f.a:=by
 rcases h with⟨d,n,rfl,h1⟩|⟨d,a,rfl,h1,h2⟩|⟨wh,nr,d,a,b,rfl,w1,w2,h1,h2,h3,_⟩|⟨k,d,a,n,s,hk,rfl,h1,h2,hs⟩|⟨a,b,n,s,rfl,h1,h2,hs⟩|⟨t,rfl,ht⟩|⟨wh,nr,a,b,t,rfl,w1,w2,h1,h2,ht⟩|rfl
 all_goals first
  | exact⟨by decide,by decide⟩
  | (exfalso;simp only at h9;omega)
theorem fstep_fwd{pk:List T.B}{f:T.Fl}{m m':T.Fm}{x:Nat}{P:Nat->Prop}(hP:∀y,P y->x<=y)(hf:f.okP P)(hx:x<=m.at')(h:T.fstep pk f m=some m'):x<=m'.at':=by
 rcases hf with⟨d,n,rfl,h1⟩|⟨d,a,rfl,h1,h2⟩|⟨wh,nr,d,a,b,rfl,w1,w2,h1,h2,h3,_⟩|⟨k,d,a,n,s,hk,rfl,h1,h2,hs⟩|⟨a,b,n,s,rfl,h1,h2,hs⟩|⟨t,rfl,ht⟩|⟨wh,nr,a,b,t,rfl,w1,w2,h1,h2,ht⟩|rfl
 ·rw[fstep_1 rfl h];exact hx
 ·rw[fstep_2 rfl h];exact hx
 ·rw[(fstep_3 rfl h).2];exact hx
 ·rcases hk with rfl|rfl
  ·rw[(fstep_4 rfl h).2];exact hx
  ·rw[(fstep_5 rfl h).2];exact hx
 ·rw[(fstep_6 rfl h).2];exact hx
 ·rw[fstep_7 rfl h];exact hP _ ht
 ·rw[fstep_8 rfl h]
  split
  ·exact hP _ ht
  ·exact hx
 ·exact absurd h (by unfold T.fstep;simp)
theorem fstep_ok{pk:List T.B}{f:T.Fl}{m m':T.Fm}{P:Nat->Prop}(hf:f.okP P)(hok:Fok m)(h:T.fstep pk f m=some m'):Fok m':=by
 rcases hf with⟨d,n,rfl,h1⟩|⟨d,a,rfl,h1,h2⟩|⟨wh,nr,d,a,b,rfl,w1,w2,h1,h2,h3,_⟩|⟨k,d,a,n,s,hk,rfl,h1,h2,hs⟩|⟨a,b,n,s,rfl,h1,h2,hs⟩|⟨t,rfl,ht⟩|⟨wh,nr,a,b,t,rfl,w1,w2,h1,h2,ht⟩|rfl
 ·rw[fstep_1 rfl h];exact hok.put _ _
 ·rw[fstep_2 rfl h];exact hok.put _ _
 ·rw[(fstep_3 rfl h).2];exact hok.put _ _
 ·rcases hk with rfl|rfl
  ·rw[(fstep_4 rfl h).2];exact hok.put _ _
  ·rw[(fstep_5 rfl h).2];exact hok.put _ _
 ·rw[(fstep_6 rfl h).2];exact hok.stk' (by simp[T.puts,hok.tl])
 ·rw[fstep_7 rfl h];exact hok.ats _
 ·rw[fstep_8 rfl h]
  split
  ·exact hok.ats _
  ·exact hok
 ·exact absurd h (by unfold T.fstep;simp)
theorem fruns_len{c:List T.Fl}{pk:List T.B}(hc:T.FRight c):∀(k:Nat) (m:T.Fm) (v:T.U),T.FRuns c pk k m v->m.at'+k<=c.length
 | 0,_,_,h=>h.elim
 | k+1,m,v,⟨f,hf,h⟩=>by
   have h1:=(List.getElem?_eq_some_iff.1 hf).1;rcases h with⟨rfl,_,_⟩|⟨m',hs,hr⟩
   ·omega
   ·have h2:=fruns_len hc k m' v hr
    have h3:=fstep_fwd (x:=m.at'+1) (fun y hy=>hy.1) (hc.all _ f hf) (Nat.le_refl _) hs;omega
theorem doFacts{w:World}{b o N Y R at_:Nat}{l:List T.Fl}{f:T.Fl}(hr:FlRd w b o l)(hf:l[at_]?=some f)(h1:w.cell? ⟨N,0,none⟩=some (.int .i64 (at_:Int)))(h2:w.cell? ⟨Y,0,none⟩=some (.pointer (some ⟨R,0,none⟩))):(w.cell? ⟨N,0,none⟩=some (.int .i64 (at_:Int))/\w.cell? ⟨Y,0,none⟩=some (.pointer (some ⟨R,0,none⟩))/\w.cell? ⟨b,o+at_*9,none⟩=some (.int .u8 f.do')/\w.cell? ⟨b,o+at_*9+1,none⟩=some (.int .u8 f.what)/\w.cell? ⟨b,o+at_*9+2,none⟩=some (.bool f.narrow)/\w.cell? ⟨b,o+at_*9+3,none⟩=some (.int .i64 f.d)/\w.cell? ⟨b,o+at_*9+4,none⟩=some (.int .i64 f.a)/\w.cell? ⟨b,o+at_*9+5,none⟩=some (.int .i64 f.b)/\w.cell? ⟨b,o+at_*9+6,none⟩=some (W64 f.n)/\w.cell? ⟨b,o+at_*9+7,none⟩=some (.int .i64 f.size)/\w.cell? ⟨b,o+at_*9+8,none⟩=some (.int .i64 f.to)):=⟨h1,h2,hr.cells hf⟩
theorem runDo_ok(b o n c:Nat)(l:List T.Fl)(A:Option Addr)(pn pc:Nat)(pkl:List T.B)(w:World)(hr:FlRd w b o l)(hl:l.length=n)(hf:T.FRight l)(hrow:RowRd w ⟨A,pn,pc⟩ pkl)(hpn:pn<=65535)(k:Nat)(v:T.U)(hruns:T.FRuns l pkl k (T.Fm.start pn) v):
  Calls Tryz.prog 14 #[.slice (some ⟨b,o,none⟩) n c,.slice A pn pc] w (Ret w (.agg #[.int .i64 0,.int .i64 0,W64 v,.int .i64 (k:Int)])):=by
 have hmf:=hmfT
 have hk:k<=16384:=by
  have h1:=fruns_len hf k _ v hruns;have h2:=hf.len;omega
 have hn:n<=16384:=by rw[<-hl];exact hf.len
 have HR:=Hd hr;have HL:=Hd hl;have HF:=Hd hf;have HROW:=Hd hrow;have HRUN:=Hd hruns;clear hr hl hf hrow hruns;have BK0:=Hd ((Bank.nil (Below.refl w.heap.size w)).boxL [.int .i64 0,.int .i64 0,W64 0#64,.int .i64 0] 41 (by simp))
 go_enter_defers Tryz.func14,Tryz.ntmps14
 go_upto_region 1 with fail;generalize w.heap.size=X at *;change Code.wp _ _ _ _ (w.alloc (.cells #[.int .i64 0,.int .i64 0,W64 0#64,.int .i64 0] 41));generalize(w.alloc (.cells #[.int .i64 0,.int .i64 0,W64 0#64,.int .i64 0] 41))=w1 at *;go_wp2_with fail;refine(irRight_ok b o n c l _ (HR.o.since BK0.o.since) HL.o HF.o).mono ?_;rintro e w2 ⟨rfl,hs⟩;have BK1:=Hd (BK0.o.call hs);clear hs BK0;have hpl:¬(65535:Int)<(pn:Int):=by omega
 obtain⟨R,hR⟩:∃R,w2.heap.size=R:=⟨_,rfl⟩
 go_upto_region 6 with(first|(with_reducible refine at_buildL 78 ?_;refine wpList_build_run rfl _ _ rfl (.agg (fmA (.slice A pn pc))) (run_build_fm A pn pc _) ?_)|(with_reducible refine at_boxL 78 ?_;refine Great.wpList_boxTo rfl _ _ rfl (some 20) rfl R hR (fmA (.slice A pn pc)) rfl ?_))
 have BK2:=Hd (hR▸BK1.o.boxL (fmL fmZero (.slice A pn pc) (.int .i64 0) (.bool false)) 78 (by rw[fmL_len fmZero_ok];decide));have BK2:=Hd (show Bank w (w2.alloc (.cells (fmA (.slice A pn pc)) 78)) _ from BK2.o);have hY:(w2.alloc (.cells (fmA (.slice A pn pc)) 78)).heap.size=R+1:=by rw[World.size_alloc,hR]
 clear hR BK1;generalize(w2.alloc (.cells (fmA (.slice A pn pc)) 78))=w3 at *;have BK3:=Hd (hY▸BK2.o.boxL [.pointer (some ⟨R,0,none⟩)] 74 (by simp));clear hY;generalize R+1=Y at *;change Code.wp _ _ _ _ (w3.alloc (.cells #[.pointer (some ⟨R,0,none⟩)] 74));generalize(w3.alloc (.cells #[.pointer (some ⟨R,0,none⟩)] 74))=w4 at *;clear BK2;have y0:=BK3.o.cell 0 rfl 0 rfl;have c2:=BK3.o.cell 1 rfl 2 (fmL_reg fmZero_ok _ _ _ 2 (by decide));have f2:=BK3.o.free 1 rfl 2;have hcl:=conv_len pn;go_wp2_with fail;rw[run_storeCells_W64];go_simp;have BK4:=Hd ((BK3.o.boxSet 1 rfl 2 (W64 (BitVec.ofNat 64 pn))).boxL [.int .i64 0] 3 (by simp));have hN:(w4.setCell ⟨R,2,none⟩ (W64 (BitVec.ofNat 64 pn))).heap.size=w4.heap.size:=by simp
 rw[hN]at BK4;clear y0 c2 f2 hcl hpl BK3 BK2 hN;go_wp2_with fail;generalize w4.heap.size=N at *;generalize((w4.setCell ⟨R,2,none⟩ (W64 (BitVec.ofNat 64 pn))).alloc (.cells #[.int .i64 0] 3))=wA at *;refine(rnDoes_any _).mono ?_;rintro e w5 ⟨rfl,rfl⟩;have BKm:=Hd (BK4.o.keepNew (.map (mes rnEnt) 9));clear BK4;generalize wA.heap.size=g at *;generalize wA.alloc (.map (mes rnEnt) 9)=wB at *;have h0:(fmL fmZero (.slice A pn pc) (.int .i64 0) (.bool false)).set 2 (W64 (BitVec.ofNat 64 pn))=fmL (T.Fm.start pn) (.slice A pn pc) (.int .i64 ((0:Nat):Int)) (.bool false):=fmL_put fmZero_ok _ _ _ 2 (by decide) _;have BK5:=Hd (show BankK [(g,.map (mes rnEnt) 9)] w wB (boxAcc R 78 (fmL (T.Fm.start pn) (.slice A pn pc) (.int .i64 ((0:Nat):Int)) (.bool false))::boxAcc N 3 [.int .i64 ((0:Nat):Int)]::boxAcc Y 74 [.pointer (some ⟨R,0,none⟩)]::boxAcc X 41 [.int .i64 0,.int .i64 0,W64 0#64,.int .i64 0]::[])from h0▸BKm.o.permB (List.perm_middle (l₁:=[boxAcc N 3 [.int .i64 0],boxAcc Y 74 [.pointer (some ⟨R,0,none⟩)]]) (l₂:=[boxAcc X 41 [.int .i64 0,.int .i64 0,W64 0#64,.int .i64 0]])));clear BKm h0;go_wp2_with fail;go_loopw [] (fun wr=>∃(j now:Nat) (m:T.Fm) (dn:Bool),Fok m/\j<=k/\BankK [(g,.map (mes rnEnt) 9)] w wr (boxAcc R 78 (fmL m (.slice A pn pc) (.int .i64 (j:Int)) (.bool dn))::boxAcc N 3 [.int .i64 (now:Int)]::boxAcc Y 74 [.pointer (some ⟨R,0,none⟩)]::boxAcc X 41 [.int .i64 0,.int .i64 0,W64 0#64,.int .i64 0]::[])/\((dn=false/\T.FRuns l pkl (k-j) m v)\/(dn=true/\j=k/\∃f,l[now]?=some f/\T.reg16 f.a/\m.reg f.a=v))) (fun wr=>leftBy R 530 k wr)
 case atStart=>exact⟨0,0,_,false,fm_start_ok pn,Nat.zero_le _,BK5.o,.inl ⟨rfl,HRUN.o⟩⟩
 case round =>
  obtain⟨j,now,m,dn,hok,hj,hB,hrel⟩:=hrel;have BK6:=Hd hB;have HJ:=Hd hj;have HM:=Hd (leftBy_at (k:=k) (hB.cell 0 rfl 530 (fmL_end hok _ _ _ 2)));have y0:=hB.cell 2 rfl 0 rfl;have r3:=hB.cell 0 rfl 531 (fmL_end hok _ _ _ 3);clear hB BK5 hj;rcases hrel with⟨rfl,hrn⟩|⟨rfl,rfl,f,hf,hfa,hfv⟩
  ·obtain⟨q,hq⟩:∃q,k-j=q+1:=by
    cases hkj:k-j with
    | zero=>rw[hkj]at hrn;exact absurd hrn (by simp[T.FRuns])
    | succ q=>exact⟨q,rfl⟩
   rw[hq]at hrn;obtain⟨f,hf,hnx⟩:=hrn;have hat:m.at'<n:=by rw[<-HL.o];exact(List.getElem?_eq_some_iff.1 hf).1
   have hokp:=HF.o.all _ f hf
   obtain⟨FD,m2,dn2,hmem,hcf,hstep,hok2,hrest⟩:∃(FD:FuncId) (m2:T.Fm) (dn2:Bool),(f.do',Value.func (.func FD) #[] #[])∈rnEnt/\(∀(a b:Value) (w:World),(callFunc FD #[a,b]).run Tryz.prog w=.ok (.enter FD #[a,b]) w) /\
     (∀(w':World) (st:Value) (L':List Acc),BankK [(g,.map (mes rnEnt) 9)] w w' (boxAcc R 78 (fmL { m with at':=m.at'+1 } (.slice A pn pc) st (.bool false))::L')->Calls Tryz.prog FD #[.pointer (some ⟨R,0,none⟩),flV f] w' (RnP [(g,.map (mes rnEnt) 9)] w R m2 (.slice A pn pc) st (.bool dn2) L'))/\Fok m2 /\
     ((dn2=false/\T.FRuns l pkl q m2 v)\/(dn2=true/\q=0/\T.reg16 f.a/\m2.reg f.a=v)):=by
    rcases hnx with⟨rfl,h9,hv⟩|⟨m',hs,hr⟩
    ·refine⟨_,{ m with at':=m.at'+1 },true,h9▸rnEnd_mem,fun a b w=>by kernel_rfl,fun w' st L' hb=>rnEnd_ok f hb (hok.ats _),hok.ats _,.inr ⟨rfl,rfl,?_,hv.symm⟩⟩
     exact okP_9 hokp h9
    ·have hne:f.do'≠9:=fun h9=>by unfold T.fstep at hs;rw[h9]at hs;simp at hs
     obtain⟨FD,h1,h2,h3⟩:=rnDoes_step f hokp hne;exact⟨FD,m',false,h1,h2,fun w' st L' hb=>h3 _ _ _ _ _ _ _ _ _ _ _ _ _ hb (hok.ats _) HROW.o (by omega) hs,fstep_ok hokp (hok.ats _) hs,.inl ⟨rfl,hr⟩⟩
   have HMEM:=Hd hmem;have HSTEP:=Hd hstep;have HREST:=Hd hrest;have HQ:=Hd hq;have HFI:=Hd hf;clear hmem hstep hrest hq hf hnx hokp;have r1:=BK6.o.cell 0 rfl 529 (fmL_end hok _ _ _ 1);have r2:=BK6.o.cell 0 rfl 530 (fmL_end hok _ _ _ 2);have fr1:=BK6.o.free 0 rfl 529;have fr2:=BK6.o.free 0 rfl 530;have n0:=BK6.o.cell 1 rfl 0 rfl;have fn0:=BK6.o.free 1 rfl 0;have hne1:=BK6.o.bank.ne (i:=0) (j:=1) rfl rfl (by decide);have hne2:=hne1.symm;have hne3:=BK6.o.bank.ne (i:=0) (j:=2) rfl rfl (by decide);have hne4:=hne3.symm;have hne5:=BK6.o.bank.ne (i:=1) (j:=2) rfl rfl (by decide);have hne6:=hne5.symm;have kw:IntKind.i64.wrap ((m.at':Int)+1)=((m.at'+1:Nat):Int):=by rw[IntWalk.i64_in _ (by omega)];omega
   have kj:IntKind.i64.wrap ((j:Int)+1)=((j+1:Nat):Int):=by rw[IntWalk.i64_in _ (by have:=HJ.o;omega)];omega
   go_upto_region 14 with fail;have BK7:=Hd (((BK6.o.boxSet 1 rfl 0 (.int .i64 (m.at':Int))).boxSet 0 rfl 529 (.int .i64 ((m.at'+1:Nat):Int))).boxSet 0 rfl 530 (.int .i64 ((j+1:Nat):Int)))
   have hX:BankK [(g,.map (mes rnEnt) 9)] w (((wr.setCell ⟨N,0,none⟩ (.int .i64 (m.at':Int))).setCell ⟨R,529,none⟩ (.int .i64 ((m.at'+1:Nat):Int))).setCell ⟨R,530,none⟩ (.int .i64 ((j+1:Nat):Int))) (boxAcc R 78 (fmL { m with at':=m.at'+1 } (.slice A pn pc) (.int .i64 ((j+1:Nat):Int)) (.bool false))::boxAcc N 3 [.int .i64 (m.at':Int)]::boxAcc Y 74 [.pointer (some ⟨R,0,none⟩)]::boxAcc X 41 [.int .i64 0,.int .i64 0,W64 0#64,.int .i64 0]::[]):=by
    have h:=BK7.o;rw[show((fmL m (.slice A pn pc) (.int .i64 (j:Int)) (.bool false)).set 529 (.int .i64 ((m.at'+1:Nat):Int)))=fmL { m with at':=m.at'+1 } (.slice A pn pc) (.int .i64 (j:Int)) (.bool false)from fmL_at hok _ _ _ _]at h;rw[show((fmL { m with at':=m.at'+1 } (.slice A pn pc) (.int .i64 (j:Int)) (.bool false)).set 530 (.int .i64 ((j+1:Nat):Int)))=fmL { m with at':=m.at'+1 } (.slice A pn pc) (.int .i64 ((j+1:Nat):Int)) (.bool false)from fmL_st (hok.ats _) _ _ _ _]at h;exact h
   refine wp_bankK _ hX (fun wd hz=>?_);clear hX BK7 BK6 y0 r3 r1 r2 fr1 fr2 n0 fn0 hne1 hne2 hne3 hne4 hne5 hne6 kw kj;have BK8:=Hd hz;clear hz;have t0:(0:Int)<=(m.at':Int):=by omega
   have t1:(m.at':Int)<(n:Int):=by omega
   refine wp_region_noPanic ?_;have BK9:=Hd BK8.o.drew;refine WL.begin 12 (fun w'=>w'.cell? ⟨N,0,none⟩=some (.int .i64 (m.at':Int))/\w'.cell? ⟨Y,0,none⟩=some (.pointer (some ⟨R,0,none⟩))/\w'.cell? ⟨b,o+m.at'*9,none⟩=some (.int .u8 f.do')/\w'.cell? ⟨b,o+m.at'*9+1,none⟩=some (.int .u8 f.what)/\w'.cell? ⟨b,o+m.at'*9+2,none⟩=some (.bool f.narrow)/\w'.cell? ⟨b,o+m.at'*9+3,none⟩=some (.int .i64 f.d)/\w'.cell? ⟨b,o+m.at'*9+4,none⟩=some (.int .i64 f.a)/\w'.cell? ⟨b,o+m.at'*9+5,none⟩=some (.int .i64 f.b)/\w'.cell? ⟨b,o+m.at'*9+6,none⟩=some (W64 f.n)/\w'.cell? ⟨b,o+m.at'*9+7,none⟩=some (.int .i64 f.size)/\w'.cell? ⟨b,o+m.at'*9+8,none⟩=some (.int .i64 f.to)) (fun _=>True) (by kernel_rfl) (doFacts (HR.o.since BK9.o.since) HFI.o (BK9.o.cell 1 rfl 0 rfl) (BK9.o.cell 2 rfl 0 rfl)) trivial (fun hs=>?_);generalize wd.drew=w9 at *;refine WL.tk [(0,[]),(1,[]),(2,[6,5,4,3,2]),(3,[]),(4,[]),(5,[6,5]),(7,[7]),(8,[]),(9,[11,10,9]),(10,[]),(11,[11])] hs ?_;clear hs
   iterate 11
    (first|refine WLp ?_ ?_ ?_|refine WLl ?_ ?_ ?_);rotate_left
    ·intro w hc;go_simp<;>rfl
    simp only[Act.put,sA,sZ,sS]
   refine TKs.mk ?_;intro hs;refine WLo 6 hs ?_;clear hs;intro K hK;have hlk:=rnLook (BK9.o.kept _ (.head _)) HMEM.o;go_simp;refine hK.o _ _ (SApp.intro (fun _=>(doFacts (HR.o.since BK9.o.since) HFI.o (BK9.o.cell 1 rfl 0 rfl) (BK9.o.cell 2 rfl 0 rfl))) trivial) ?_;clear hlk;clear hK K;intro hs;try simp only[Act.put,sA,sZ,sS]
   refine WLo 12 hs ?_;clear hs;intro K hK;go_simp;refine(HSTEP.o _ _ _ BK9.o).mono ?_;rintro e w8 ⟨rfl,hb⟩;have BKa:=Hd hb;clear hb;refine hK.o _ _ SaF ?_;clear hK K;intro hs;try simp only[Act.put,sA,sZ,sS]
   clear hs;refine WLd ?_ _;try simp only[Exit.then]
   refine NoPanic.normal ?_;go_wp2;go_round
   case rel =>
    have hq:=HQ.o;have hj:=HJ.o;refine⟨j+1,m.at',m2,dn2,hok2,by omega,BKa.o,?_⟩;rcases HREST.o with⟨rfl,hr⟩|⟨rfl,rfl,ha,hv⟩
    ·exact .inl ⟨rfl,by rw[show k-(j+1)=q by omega];exact hr⟩
    ·exact .inr ⟨rfl,by omega,f,HFI.o,ha,hv⟩
   case measure =>
    have hq:=HQ.o;rw[HM.o];exact Nat.lt_of_le_of_lt (Nat.le_of_eq (leftBy_at (k:=k) (BKa.o.cell 0 rfl 530 (fmL_end hok2 _ _ _ 2)))) (by omega)
  ·have hnow:now<n:=by rw[<-HL.o];exact(List.getElem?_eq_some_iff.1 hf).1
   have t0:(0:Int)<=(now:Int):=by omega
   have t1:(now:Int)<(n:Int):=by omega
   have c4:∀(w':World),Since w w'->w'.cell? ⟨b,o+now*9+4,none⟩=some (.int .i64 f.a):=fun w' hs=>(HR.o.since hs) now f hf 4 _ rfl
   obtain⟨a,ha⟩:=Int.eq_ofNat_of_zero_le hfa.1;rw[ha]at c4 hfv;have HC4:=Hd c4;have a1:a<16:=by have:=hfa.2;omega
   have u0:(0:Int)<=(a:Int):=by omega
   have u1:(a:Int)<(16:Int):=by omega
   have hra:(fmL m (.slice A pn pc) (.int .i64 (j:Int)) (.bool true))[a]?=some (W64 v):=hfv▸fmL_reg hok _ _ _ a a1;have HRA:=Hd hra;clear c4 ha hfa hf hfv hra;go_upto_region 15 with fail;refine wp_region_noPanic ?_;have BK9:=Hd BK6.o.drew;refine WL.begin 15 (fun w'=>w'.cell? ⟨Y,0,none⟩=some (.pointer (some ⟨R,0,none⟩))/\w'.cell? ⟨N,0,none⟩=some (.int .i64 (now:Int))/\w'.cell? ⟨b,o+now*9+4,none⟩=some (.int .i64 (a:Int))/\w'.cell? ⟨R,a,none⟩=some (W64 v)/\w'.cell? ⟨R,530,none⟩=some (.int .i64 (j:Int))) (fun _=>True) (by kernel_rfl) ⟨BK9.o.cell 2 rfl 0 rfl,BK9.o.cell 1 rfl 0 rfl,HC4.o _ BK9.o.since,BK9.o.cell 0 rfl a HRA.o,BK9.o.cell 0 rfl 530 (fmL_end hok _ _ _ 2)⟩ trivial (fun hs=>?_);generalize wr.drew=w9 at *;refine WL.tk [(0,[0]),(1,[]),(2,[2]),(3,[]),(4,[]),(5,[5]),(6,[]),(7,[]),(8,[]),(9,[9]),(10,[10]),(11,[]),(12,[]),(13,[13]),(14,[])] hs ?_;clear hs
   iterate 15
    (first|refine WLp ?_ ?_ ?_|refine WLl ?_ ?_ ?_);rotate_left
    ·intro w hc;go_simp<;>rfl
    simp only[Act.put,sA,sZ,sS]
   refine TKs.mk ?_;intro hs;refine WLo 15 hs ?_;clear hs;intro K hK;have x0:=BK9.o.cell 3 rfl 0 rfl;have fx0:=BK9.o.free 3 rfl 0;have x1:=BK9.o.cell 3 rfl 1 rfl;have fx1:=BK9.o.free 3 rfl 1;have x2:=BK9.o.cell 3 rfl 2 rfl;have fx2:=BK9.o.free 3 rfl 2;have x3:=BK9.o.cell 3 rfl 3 rfl;have fx3:=BK9.o.free 3 rfl 3;go_simp;have BKz:=Hd ((((BK9.o.boxSet 3 rfl 0 (.int .i64 0)).boxSet 3 rfl 1 (.int .i64 0)).boxSet 3 rfl 2 (W64 v)).boxSet 3 rfl 3 (.int .i64 (j:Int)));clear x0 x1 x2 x3 fx0 fx1 fx2 fx3;refine hK.o _ _ SaF ?_;clear hK K;intro hs;try simp only[Act.put]
   clear hs;refine WLd ?_ _;try simp only[Exit.then]
   refine NoPanic.normal ?_;go_wp2;refine leaves_cons (f:=23) (args:=#[.pointer (some ⟨N,0,none⟩),.pointer (some ⟨Y,0,none⟩),.pointer (some ⟨X,0,none⟩)]) (by simp) (by simp[go_sem]) ?_;refine(catchDo_idle _ _ _ _).mono ?_;rintro e u' w'' ⟨rfl,rfl,rfl⟩;have x0:=BKz.o.cell 3 rfl 0 rfl;have x1:=BKz.o.cell 3 rfl 1 rfl;have x2:=BKz.o.cell 3 rfl 2 rfl;have x3:=BKz.o.cell 3 rfl 3 rfl;exact⟨.agg #[.int .i64 0,.int .i64 0,W64 v,.int .i64 (j:Int)],by simp[results,Tryz.results14,go_sem,x0,x1,x2,x3],rfl,BKz.o.since⟩
end Go.Proofs.YtfeipbgnjainlaaGreatDoor.K
