/- TLwB -/
import Derived.Test.YtfeipbgnjainlaaGreatDoorTp2
import Derived.Test.YtfeipbgnjainlaaGreatDoorTp49
import Derived.Test.YtfeipbgnjainlaaGreatDoorTp4
set_option linter.unusedVariables false
set_option linter.unusedSimpArgs false
set_option maxRecDepth 100000
set_option maxHeartbeats 4000000
namespace Go.Proofs.YtfeipbgnjainlaaGreatDoor.K
open Go Go.RowKit Go.Maps Go.Sort
section
variable{w0 w:World}{Mk:Nat}{lv pv:Value}{k:Nat}{out:List T.Fl}{bg:List Nat}{L:List Acc}
theorem LwB.freeL(h:LwB w0 w Mk lv pv k out bg L)(i:Nat){g:Nat}{t:TypeId}{vs:List Value}(hi:L[i]?=some (boxAcc g t vs))(j:Nat):w.frozen? ⟨g,j,none⟩=false:=by
 obtain⟨_,_,_,_,h⟩:=h;exact h.free (i+3) hi j
theorem LwB.setL(h:LwB w0 w Mk lv pv k out bg L)(i:Nat){g:Nat}{t:TypeId}{vs:List Value}(hi:L[i]?=some (boxAcc g t vs))(j:Nat)(v:Value):LwB w0 (w.setCell ⟨g,j,none⟩ v) Mk lv pv k out bg (L.set i (boxAcc g t (vs.set j v))):=by
 obtain⟨a,b,c,d,h⟩:=h;exact⟨a,b,c,d,h.boxSet (i+3) hi j v⟩
end
theorem plAt_get{ps:List T.Pl}{j:Nat}(h:j<ps.length):ps[j]?=some (T.plAt ps j):=by
 unfold T.plAt;rw[List.getD_eq_getElem?_getD,List.getElem?_eq_getElem h];rfl
theorem lwLoad_ok{w0 w:World}{Mk:Nat}{lv:Value}{k:Nat}{out:List T.Fl}{bg:List Nat}{L:List Acc}(P np pc:Nat)(ps:List T.Pl)(i:T.Ins)(hB:LwB w0 w Mk lv (.slice (some ⟨P,0,none⟩) np pc) k out bg L)(hn:out.length<=100000)(hP:PlcRd w0 P ps)(hl:ps.length=np)(hk:k<np)(hlv:(T.plAt ps k).live=true)(hs:0<=i.src/\i.src<=10):Calls Tryz.prog 30 #[.pointer (some ⟨Mk,0,none⟩),insV i] w (LwP w0 Mk lv (.slice (some ⟨P,0,none⟩) np pc) k (out ++ [{ T.Fl.zero with do':=if((T.plAt ps k).reg i.src).k=3 then 5 else 4,d:=i.dst,a:=i.src,n:=T.wide i.off,size:=i.size }]) bg L):=by
 obtain⟨op,nr,dst,src,u,off,imm,size⟩:=i;obtain⟨s,rfl⟩:=Int.eq_ofNat_of_zero_le hs.1;have s1:s<11:=by have:=hs.2;simp only at this;omega
 obtain⟨_,hp2⟩:=hP k _ (plAt_get (by omega));obtain⟨gr,cr,c1,c2⟩:=hp2 hlv;have HC1:=Hd c1;have HC2:=Hd (c2 s s1);obtain⟨kd,hkd⟩:∃q,((T.plAt ps k).reg (s:Int)).k=q:=⟨_,rfl⟩
 rw[hkd]at HC2;simp only;rw[hkd];obtain⟨nf,hnf⟩:∃q,({ T.Fl.zero with do':=if kd=3 then 5 else 4,d:=dst,a:=(s:Int),n:=T.wide off,size:=size }:T.Fl)=q:=⟨_,rfl⟩
 rw[hnf];have HNF:=Hd hnf;clear hnf;have j0:(0:Int)<=(s:Int):=by omega
 have j1:(s:Int)<(11:Int):=by omega
 have j2:(0:Int)<=(k:Int):=by omega
 have j3:(k:Int)<(np:Int):=by omega
 have hcv:=conv_wide off;clear hs hp2 hlv c1 c2 hP hkd;unfold insV insL;have HB:=Hd (hB.box [.int .u8 op,.bool nr,.int .i64 dst,.int .i64 (s:Int),.bool u,.int .i64 off,.int .i64 imm,.int .i64 size] 55 (by simp));clear hB;go_enter Tryz.func30,Tryz.ntmps30;go_upto_region 1 with fail;generalize w.heap.size=X at *;refine wp_hidL HB (fun w1 HB=>?_);obtain⟨x0,x1,x2,x3,x4,x5,x6,x7⟩:=HB.o.cells8 0 rfl;go_upto_region 2 with fail;have HB2:=Hd (HB.o.box [.int .u8 4,.int .u8 0,.bool false,.int .i64 dst,.int .i64 (s:Int),.int .i64 0,W64 (T.wide off),.int .i64 size,.int .i64 0] 58 (by simp));generalize w1.heap.size=Y at *;refine wp_hidL HB2 (fun w2 HB2=>?_);clear HB x0 x1 x2 x3 x4 x5 x6 x7;have HB3:=Hd HB2.o.drew;refine WL.begin 99 (fun _=>True) (fun w'=>w'.cell? ⟨Mk,1,none⟩=some ((.slice (some ⟨P,0,none⟩) np pc))/\w'.cell? ⟨Mk,2,none⟩=some (.int .i64 (k:Int))/\w'.cell? ⟨P,k*4+1,none⟩=some (.slice (some ⟨gr,0,none⟩) 11 cr)/\w'.cell? ⟨X,3,none⟩=some (.int .i64 (s:Int))/\w'.cell? ⟨gr,s*3,none⟩=some (.int .u8 kd)) (by kernel_rfl) trivial ⟨HB3.o.m1,HB3.o.m2,HB3.o.since.keep HC1.o,HB3.o.cellL 1 rfl 3 rfl,HB3.o.since.keep HC2.o⟩ (fun hs=>?_);generalize w2.drew=w3 at *;refine WL.tk [(0,[]),(1,[]),(2,[]),(3,[]),(4,[]),(5,[]),(6,[]),(7,[]),(8,[]),(9,[]),(10,[]),(11,[]),(12,[]),(13,[]),(14,[]),(15,[])] hs ?_;clear hs
 iterate 16
  (first|refine WLp ?_ ?_ ?_|refine WLl ?_ ?_ ?_);rotate_left
  ·intro w hc;go_simp<;>rfl
  simp only[Act.put,sA,sZ,sS]
 refine TKs.mk ?_;intro hs;refine WLo 16 hs ?_;clear hs;intro K hK;go_simp;refine hK.o _ _ (SaT ⟨HB3.o.m1,HB3.o.m2,HB3.o.since.keep HC1.o,HB3.o.cellL 1 rfl 3 rfl,HB3.o.since.keep HC2.o⟩) ?_;clear hK K;intro hs;try simp only[Act.put,sA,sZ,sS]
 clear hs;refine WLd ?_ _;try simp only[Exit.then]
 by_cases hkd:kd=3
 ·subst hkd
  have y0:=HB3.o.cellL 0 rfl 0 rfl;have fy0:=HB3.o.freeL 0 rfl 0;have HB4:=Hd (HB3.o.setL 0 rfl 0 (.int .u8 5));go_upto_region 4 with fail;refine wp_hidL HB4 (fun w4 HB4=>?_);clear y0 fy0 HB3;have y0:=HB4.o.cellL 0 rfl 0 rfl;have y1:=HB4.o.cellL 0 rfl 1 rfl;have y2:=HB4.o.cellL 0 rfl 2 rfl;have y3:=HB4.o.cellL 0 rfl 3 rfl;have y4:=HB4.o.cellL 0 rfl 4 rfl;have y5:=HB4.o.cellL 0 rfl 5 rfl;have y6:=HB4.o.cellL 0 rfl 6 rfl;have y7:=HB4.o.cellL 0 rfl 7 rfl;have y8:=HB4.o.cellL 0 rfl 8 rfl;go_wp2_with fail;refine(lwPut_new ⟨5,0,false,dst,(s:Int),0,T.wide off,size,0⟩ HB4.o hn).mono ?_;rintro e wq ⟨rfl,hb⟩;have HB5:=Hd hb;clear hb;go_wp2;go_end0;rw[<-HNF.o];first|rw[if_pos rfl]|rw[if_pos trivial]
  exact⟨rfl,HB5.o.drop.drop⟩
 ·have e0:(kd==3)=false:=by simpa using hkd
  have y0:=HB3.o.cellL 0 rfl 0 rfl;have y1:=HB3.o.cellL 0 rfl 1 rfl;have y2:=HB3.o.cellL 0 rfl 2 rfl;have y3:=HB3.o.cellL 0 rfl 3 rfl;have y4:=HB3.o.cellL 0 rfl 4 rfl;have y5:=HB3.o.cellL 0 rfl 5 rfl;have y6:=HB3.o.cellL 0 rfl 6 rfl;have y7:=HB3.o.cellL 0 rfl 7 rfl;have y8:=HB3.o.cellL 0 rfl 8 rfl;go_wp2_with fail;refine(lwPut_new ⟨4,0,false,dst,(s:Int),0,T.wide off,size,0⟩ HB3.o hn).mono ?_;rintro e wq ⟨rfl,hb⟩;have HB5:=Hd hb;clear hb;go_wp2;go_end0;rw[<-HNF.o,if_neg hkd];exact⟨rfl,HB5.o.drop.drop⟩
theorem lwReckon_ok{w0 w:World}{Mk:Nat}{lv pv:Value}{k:Nat}{out:List T.Fl}{bg:List Nat}{L:List Acc}(i:T.Ins)(hB:LwB w0 w Mk lv pv k out bg L)(hn:out.length<=99999):Calls Tryz.prog 39 #[.pointer (some ⟨Mk,0,none⟩),insV i] w (LwP w0 Mk lv pv k (out++T.lreckon i) bg L):=by
 obtain⟨op,nr,dst,src,u,off,imm,size⟩:=i;have hcv:=conv_wide imm;have hn1:out.length<=100000:=by omega
 by_cases h13:op=13
 ·subst h13
  have e:T.lreckon ⟨13,nr,dst,src,u,off,imm,size⟩=[⟨3,13,nr,dst,dst,0,0,0,0⟩]:=rfl;rw[e];unfold insV insL;have HB:=Hd (hB.box [.int .u8 13,.bool nr,.int .i64 dst,.int .i64 src,.bool u,.int .i64 off,.int .i64 imm,.int .i64 size] 55 (by simp));clear hB;go_enter Tryz.func39,Tryz.ntmps39;go_upto_region 3 with fail;generalize w.heap.size=X at *;refine wp_hidL HB (fun w1 HB=>?_);obtain⟨x0,x1,x2,x3,x4,x5,x6,x7⟩:=HB.o.cells8 0 rfl;go_wp2_with fail;refine(lwPut_new ⟨3,13,nr,dst,dst,0,0,0,0⟩ HB.o hn1).mono ?_;rintro e wq ⟨rfl,hb⟩;have HB2:=Hd hb;clear hb;go_wp2;go_end0;exact⟨rfl,HB2.o.drop⟩
 have e13:(op==13)=false:=by simpa using h13
 by_cases hmv:op=12/\nr=false
 ·obtain⟨rfl,rfl⟩:=hmv
  cases u
  case true =>
   have e:T.lreckon ⟨12,false,dst,src,true,off,imm,size⟩=[⟨1,0,false,dst,0,0,T.wide imm,0,0⟩]:=rfl;rw[e];unfold insV insL;have HB:=Hd (hB.box [.int .u8 12,.bool false,.int .i64 dst,.int .i64 src,.bool true,.int .i64 off,.int .i64 imm,.int .i64 size] 55 (by simp));clear hB;go_enter Tryz.func39,Tryz.ntmps39;go_upto_region 3 with fail;generalize w.heap.size=X at *;refine wp_hidL HB (fun w1 HB=>?_);obtain⟨x0,x1,x2,x3,x4,x5,x6,x7⟩:=HB.o.cells8 0 rfl;go_wp2_with fail;refine(lwPut_new ⟨1,0,false,dst,0,0,T.wide imm,0,0⟩ HB.o hn1).mono ?_;rintro e wq ⟨rfl,hb⟩;have HB2:=Hd hb;clear hb;go_wp2;go_end0;exact⟨rfl,HB2.o.drop⟩
  case false =>
   have e:T.lreckon ⟨12,false,dst,src,false,off,imm,size⟩=[⟨2,0,false,dst,src,0,0,0,0⟩]:=rfl;rw[e];unfold insV insL;have HB:=Hd (hB.box [.int .u8 12,.bool false,.int .i64 dst,.int .i64 src,.bool false,.int .i64 off,.int .i64 imm,.int .i64 size] 55 (by simp));clear hB;go_enter Tryz.func39,Tryz.ntmps39;go_upto_region 3 with fail;generalize w.heap.size=X at *;refine wp_hidL HB (fun w1 HB=>?_);obtain⟨x0,x1,x2,x3,x4,x5,x6,x7⟩:=HB.o.cells8 0 rfl;go_wp2_with fail;refine(lwPut_new ⟨2,0,false,dst,src,0,0,0,0⟩ HB.o hn1).mono ?_;rintro e wq ⟨rfl,hb⟩;have HB2:=Hd hb;clear hb;go_wp2;go_end0;exact⟨rfl,HB2.o.drop⟩
 ·have e:T.lreckon ⟨op,nr,dst,src,u,off,imm,size⟩=T.lsec ⟨op,nr,dst,src,u,off,imm,size⟩ ++ [⟨3,op,nr,dst,dst,T.lreg ⟨op,nr,dst,src,u,off,imm,size⟩,0,0,0⟩]:=by
   unfold T.lreckon;rw[if_neg h13,if_neg (fun h=>hmv ⟨h.1,h.2.1⟩),if_neg (fun h=>hmv h)];rfl
  rw[e,<-List.append_assoc];have hn2:(out++T.lsec ⟨op,nr,dst,src,u,off,imm,size⟩).length<=100000:=by rw[List.length_append];have:=T.lsec_len ⟨op,nr,dst,src,u,off,imm,size⟩;omega
  have key:(op==12)=false\/((op==12)=true/\(!nr)=false):=by
   by_cases h12:op=12
   ·right
    refine⟨by simpa using h12,?_⟩;cases nr
    ·exact absurd ⟨h12,rfl⟩ hmv
    ·rfl
   ·left;simpa using h12
  clear h13 hmv e;obtain⟨lr,hlr⟩:∃q,T.lreg ⟨op,nr,dst,src,u,off,imm,size⟩=q:=⟨_,rfl⟩
  obtain⟨ls,hls⟩:∃q,T.lsec ⟨op,nr,dst,src,u,off,imm,size⟩=q:=⟨_,rfl⟩
  have HLR:=Hd hlr;have HLS:=Hd hls;rw[hlr,hls];rw[hls]at hn2;clear hlr hls;unfold insV insL;have HB:=Hd (hB.box [.int .u8 op,.bool nr,.int .i64 dst,.int .i64 src,.bool u,.int .i64 off,.int .i64 imm,.int .i64 size] 55 (by simp));clear hB;go_enter Tryz.func39,Tryz.ntmps39;go_upto_region 3 with fail;generalize w.heap.size=X at *;refine wp_hidL HB (fun w1 HB=>?_);obtain⟨x0,x1,x2,x3,x4,x5,x6,x7⟩:=HB.o.cells8 0 rfl;rcases key with k12|⟨k12,knr⟩
  all_goals
   go_wp2_with fail;refine(lwSecond_ok ⟨op,nr,dst,src,u,off,imm,size⟩ HB.o hn1).mono ?_;rintro e wp ⟨rfl,hb⟩;have HB2:=Hd hb;clear hb x0 x1 x2 x3 x4 x5 x6 x7;rw[HLR.o];rw[HLS.o]at HB2;obtain⟨x0,x1,x2,x3,x4,x5,x6,x7⟩:=HB2.o.cells8 0 rfl;go_wp2_with fail;refine(lwPut_new ⟨3,op,nr,dst,dst,lr,0,0,0⟩ HB2.o hn2).mono ?_;rintro e wq ⟨rfl,hb⟩;have HB3:=Hd hb;clear hb;go_wp2;go_end0;exact⟨rfl,HB3.o.drop⟩
theorem lwBranch_ok{w0 w:World}{Mk:Nat}{lv:Value}{k:Nat}{out:List T.Fl}{bg:List Nat}{L:List Acc}(P np pc:Nat)(ps:List T.Pl)(i:T.Ins)(hB:LwB w0 w Mk lv (.slice (some ⟨P,0,none⟩) np pc) k out bg L)(hn:out.length<=99999)(hP:PlcRd w0 P ps)(hl:ps.length=np)(hnp:np<=100000)(h0:0<=i.off)(hk:k+1+i.off.toNat<np):Calls Tryz.prog 38 #[.pointer (some ⟨Mk,0,none⟩),insV i] w (LwP w0 Mk lv (.slice (some ⟨P,0,none⟩) np pc) k (out++T.lbranch ps k i) bg L):=by
 obtain⟨op,nr,dst,src,u,off,imm,size⟩:=i;obtain⟨t,rfl⟩:=Int.eq_ofNat_of_zero_le h0;simp only at hk;rw[Int.toNat_natCast]at hk;have hn1:out.length<=100000:=by omega
 obtain⟨N,hN⟩:∃N:Int,N=(k:Int)+1:=⟨_,rfl⟩
 obtain⟨Z,hZ⟩:∃Z:Int,Z=N+(t:Int):=⟨_,rfl⟩
 have kw1:IntKind.i64.wrap ((k:Int)+1)=N:=by rw[IntWalk.i64_in _ (by omega),hN]
 have kw2:IntKind.i64.wrap (N+(t:Int))=Z:=by rw[IntWalk.i64_in _ (by omega),hZ]
 have hLV:=fun(w:World) (out:List T.Fl) (L:List Acc) (hB:LwB w0 w Mk lv (.slice (some ⟨P,0,none⟩) np pc) k out bg L)=>lwLive_ok P np pc ps (k+1+t) hB hP hk hl
 have hLN:=fun(w:World) (out:List T.Fl) (L:List Acc) (hB:LwB w0 w Mk lv (.slice (some ⟨P,0,none⟩) np pc) k out bg L)=>lwLive_ok P np pc ps (k+1) hB hP (by omega) hl
 rw[show((k+1+t:Nat):Int)=Z by omega]at hLV;rw[show((k+1:Nat):Int)=N by omega]at hLN;obtain⟨q1,hq1⟩:∃q,(T.plAt ps (k+1+t)).live=q:=⟨_,rfl⟩
 obtain⟨q2,hq2⟩:∃q,(T.plAt ps (k+1)).live=q:=⟨_,rfl⟩
 rw[hq1]at hLV;rw[hq2]at hLN;have HLV:=Hd hLV;have HLN:=Hd hLN;clear hLV hLN
 have HE:=Hd (show T.lbranch ps k ⟨op,nr,dst,src,u,(t:Int),imm,size⟩=if(t:Int)=0\/q1=false then[]else if q2=false then T.lgoes k Z else T.lsec ⟨op,nr,dst,src,u,(t:Int),imm,size⟩ ++ [⟨8,op,nr,0,dst,T.lreg ⟨op,nr,dst,src,u,(t:Int),imm,size⟩,0,0,Z⟩]by
  unfold T.lbranch;simp only;rw[Int.toNat_natCast,hq1,hq2,show(k:Int)+1+(t:Int)=Z by omega]
  rfl)
 obtain⟨nw,hnw⟩:∃q,T.lbranch ps k ⟨op,nr,dst,src,u,(t:Int),imm,size⟩=q:=⟨_,rfl⟩
 rw[hnw]at HE ⊢;have HZN:=Hd (show(t=0->(Z==N)=true)/\(t≠0->(Z==N)=false)from⟨fun h=>by simp;omega,fun h=>by simp;omega⟩);clear hq1 hq2 hnw h0 hP hN hZ;unfold insV insL;have HB:=Hd (hB.box [.int .u8 op,.bool nr,.int .i64 dst,.int .i64 src,.bool u,.int .i64 (t:Int),.int .i64 imm,.int .i64 size] 55 (by simp));clear hB;go_enter Tryz.func38,Tryz.ntmps38;go_upto_region 1 with fail;generalize w.heap.size=X at *;refine wp_hidL HB (fun w1 HB=>?_);have HB3:=Hd HB.o.drew;refine WL.begin 99 (fun _=>True) (fun w'=>w'.cell? ⟨Mk,2,none⟩=some (.int .i64 (k:Int))/\w'.cell? ⟨X,5,none⟩=some (.int .i64 (t:Int))) (by kernel_rfl) trivial ⟨HB3.o.m2,HB3.o.cellL 0 rfl 5 rfl⟩ (fun hs=>?_);generalize w1.drew=w3 at *;refine WL.tk [(0,[]),(1,[]),(2,[]),(3,[]),(4,[]),(5,[]),(6,[]),(7,[]),(8,[]),(9,[]),(10,[]),(11,[]),(12,[])] hs ?_;clear hs
 iterate 13
  (first|refine WLp ?_ ?_ ?_|refine WLl ?_ ?_ ?_);rotate_left
  ·intro w hc;go_simp<;>rfl
  simp only[Act.put,sA,sZ,sS]
 refine TKs.mk ?_;intro hs;refine WLo 13 hs ?_;clear hs;intro K hK;go_simp;refine hK.o _ _ (SaT ⟨HB3.o.m2,HB3.o.cellL 0 rfl 5 rfl⟩) ?_;clear hK K;intro hs;try simp only[Act.put,sA,sZ,sS]
 refine WLo 14 hs ?_;clear hs;intro K hK;go_simp;try simp only[kw1,kw2]
 refine hK.o _ _ (SaT ⟨HB3.o.m2,HB3.o.cellL 0 rfl 5 rfl⟩) ?_;clear hK K;intro hs;try simp only[Act.put,sA,sZ,sS]
 clear hs;refine WLd ?_ _;try simp only[Exit.then]
 by_cases ht:t=0
 ·have e0:=HZN.o.1 ht
  rw[if_pos (.inl (by omega))]at HE;clear ht kw1 kw2;go_wp2;go_end0;rw[HE.o,List.append_nil];exact⟨rfl,HB3.o.drop⟩
 have e0:=HZN.o.2 ht;have HT:=Hd ht;clear ht kw1 kw2;cases q1
 ·rw[if_pos (.inr rfl)]at HE
  go_wp2_with fail;refine(HLV.o _ _ _ HB3.o).mono ?_;rintro e w4 ⟨rfl,rfl⟩;go_wp2;go_end0;rw[HE.o,List.append_nil];exact⟨rfl,HB3.o.drop⟩
 rw[if_neg (fun h=>h.elim (fun h=>HT.o (by omega)) (fun h=>by cases h))]at HE;cases q2
 ·rw[if_pos rfl]at HE
  go_wp2_with fail;refine(HLV.o _ _ _ HB3.o).mono ?_;rintro e w4 ⟨rfl,rfl⟩;go_wp2_with fail;refine(HLN.o _ _ _ HB3.o).mono ?_;rintro e w4 ⟨rfl,rfl⟩;go_wp2_with fail;refine(lwGoes_ok Z HB3.o hn1 (by omega)).mono ?_;rintro e w5 ⟨rfl,hb⟩;have HB4:=Hd hb;clear hb;go_wp2;go_end0;rw[HE.o];exact⟨rfl,HB4.o.drop⟩
 ·rw[if_neg (fun h=>by cases h)]at HE
  have hn2:(out++T.lsec ⟨op,nr,dst,src,u,(t:Int),imm,size⟩).length<=100000:=by rw[List.length_append];have:=T.lsec_len ⟨op,nr,dst,src,u,(t:Int),imm,size⟩;omega
  go_wp2_with fail;refine(HLV.o _ _ _ HB3.o).mono ?_;rintro e w4 ⟨rfl,rfl⟩;go_wp2_with fail;refine(HLN.o _ _ _ HB3.o).mono ?_;rintro e w4 ⟨rfl,rfl⟩;obtain⟨x0,x1,x2,x3,x4,x5,x6,x7⟩:=HB3.o.cells8 0 rfl;obtain⟨lr,hlr⟩:∃q,T.lreg ⟨op,nr,dst,src,u,(t:Int),imm,size⟩=q:=⟨_,rfl⟩
  obtain⟨ls,hls⟩:∃q,T.lsec ⟨op,nr,dst,src,u,(t:Int),imm,size⟩=q:=⟨_,rfl⟩
  have HLR:=Hd hlr;have HLS:=Hd hls;rw[hls]at hn2;clear hlr hls;go_wp2_with fail;refine(lwSecond_ok ⟨op,nr,dst,src,u,(t:Int),imm,size⟩ HB3.o hn1).mono ?_;rintro e wp ⟨rfl,hb⟩;have HB5:=Hd hb;clear hb x0 x1 x2 x3 x4 x5 x6 x7;rw[HLR.o];rw[HLS.o]at HB5;obtain⟨x0,x1,x2,x3,x4,x5,x6,x7⟩:=HB5.o.cells8 0 rfl;go_wp2_with fail;refine(lwPut_new ⟨8,op,nr,0,dst,lr,0,0,Z⟩ HB5.o hn2).mono ?_;rintro e wq ⟨rfl,hb⟩;have HB6:=Hd hb;clear hb;go_wp2;go_end0;rw[HE.o,HLR.o,HLS.o,<-List.append_assoc];exact⟨rfl,HB6.o.drop⟩
end Go.Proofs.YtfeipbgnjainlaaGreatDoor.K
