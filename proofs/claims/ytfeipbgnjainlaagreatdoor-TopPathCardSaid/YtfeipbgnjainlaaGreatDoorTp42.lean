/- TExG -/
import Derived.Test.YtfeipbgnjainlaaGreatDoorTp10
import Derived.Test.YtfeipbgnjainlaaGreatDoorTp2
import Derived.Test.YtfeipbgnjainlaaGreatDoorTp4
import Derived.Test.YtfeipbgnjainlaaGreatDoorTp35
import Derived.Test.YtfeipbgnjainlaaGreatDoorTp22
set_option linter.unusedVariables false
set_option linter.unusedSimpArgs false
set_option maxRecDepth 100000
set_option maxHeartbeats 8000000
namespace Go.Proofs.YtfeipbgnjainlaaGreatDoor.K
open Go Go.RowKit Go.Maps Go.Sort
theorem stk_all(a:Addr)(w:World):(Instr.sliceAt 66 (.pointer (some a)) none none none).run Tryz.prog w=.ok (.slice (some a) 512 512) w:=by
 have h0:a.add 0=a:=by cases a;rfl
 simp[Instr.sliceAt,run_underlying Tryz.underlying66,Instr.sureAddr,Instr.sliceBounds,Tryz.sizeOf5,h0]
theorem mc_stk{w:World}{M:Nat}{m:T.Mc}{pk vd:Value}(hok:Mok m)(h:RdC w M (mcL m pk vd)):RowRd w ⟨some ⟨M,22,none⟩,512,512⟩ m.stk :=
 ⟨fun k hk=>⟨M,22,rfl,h _ _ (by
  have h0:=mcL_stk hok pk vd k (by rw[<-hok.tl];exact hk);rw[List.getD_eq_getElem?_getD,List.getElem?_eq_getElem hk]at h0
  exact h0)⟩,hok.tl,fun h=>by cases h⟩
theorem exLoadP_ok{M:Nat}{m:T.Mc}{vd:Value}{A:Option Addr}{n c:Nat}{pkl:List T.B}{w0 w:World}{L:List Acc}(i:T.Ins)(hB:Bank w0 w (boxAcc M 70 (mcL m (.slice A n c) vd)::L))(hok:Mok m)(hd:0<=i.dst/\i.dst<=10)(hsr:0<=i.src/\i.src<=10)(hr:RowRd w0 ⟨A,n,c⟩ pkl)(hn:n<=1000000)(hk:(m.reg i.src).1=2)(hg:T.getErr n ((m.reg i.src).2+T.wide i.off).toInt i.size=0):Calls Tryz.prog 57 #[.pointer (some ⟨M,0,none⟩),insV i] w (ExP w0 M (m.put i.dst (1,T.gets pkl ((m.reg i.src).2+T.wide i.off).toInt.toNat i.size.toNat)) (.slice A n c) vd L):=by
 obtain⟨z,hz⟩:∃z,m.reg i.src=z:=⟨_,rfl⟩
 obtain⟨zk,zn⟩:=z;rw[hz]at hk hg ⊢;simp only at hk hg ⊢;subst hk;obtain⟨gs,g1,g2⟩:=getErr_facts hg;obtain⟨k,hkk⟩:=Int.eq_ofNat_of_zero_le g1;obtain⟨sz,hsz⟩:∃sz:Nat,i.size=(sz:Int):=⟨i.size.toNat,by omega⟩
 clear gs g1 g2;rw[hkk,hsz]at hg ⊢;rw[Int.toNat_natCast,Int.toNat_natCast];have HG:=Hd (fun w hr=>pkGet_ok A n c pkl k sz w hr hn hg);have hS:S64 (zn+T.wide i.off)=.int .i64 (k:Int):=by unfold S64;rw[hkk]
 have hcv:=fun w (y:BitVec 64)=>conv_W64_S64 (P:=Tryz.prog) (src:=39) (dst:=2) (w:=w) y Tryz.underlying39 Tryz.underlying2
 clear hg hkk;have hkn:(2:Int)≠0:=by decide
 obtain⟨op,nr,dst,src,u,off,imm,size⟩:=i;simp only at *;subst hsz;obtain⟨s,rfl⟩:=Int.eq_ofNat_of_zero_le hsr.1;obtain⟨d,rfl⟩:=Int.eq_ofNat_of_zero_le hd.1;have s1:s<11:=by have:=hsr.2;omega
 have d1:d<11:=by have:=hd.2;omega
 have j0:(0:Int)<=(s:Int):=by omega
 have j1:(s:Int)<(11:Int):=by omega
 have j2:(0:Int)<=(d:Int):=by omega
 have j3:(d:Int)<(11:Int):=by omega
 have HE:=mcL_reg hok (.slice A n c) vd s s1;rw[hz]at HE;have HE:=Hd HE;have hns:s<11/\(m.reg (s:Int)).1≠0:=⟨s1,by rw[hz];exact hkn⟩
 have HNS:=Hd hns;clear hd hsr hz hns hkn;unfold insV insL;have BK0:=Hd (hB.bx [.int .u8 op,.bool nr,.int .i64 (d:Int),.int .i64 (s:Int),.bool u,.int .i64 off,.int .i64 imm,.int .i64 (sz:Int)] 55);clear hB;go_enter Tryz.func57,Tryz.ntmps57;go_upto_region 1 with fail;generalize w.heap.size=X at *;refine wp_hid BK0 (fun w1 BK0=>?_);have i3:=BK0.o.cl 0 3;go_wp2_with fail;have BK1:=Hd (BK0.o.bx [.int .i64 (s:Int)] 3);have n0:=(BK1.o.cl 0 0)
 have hM:=fun j v (hj:(mcL m (.slice A n c) vd)[j]?=some v)=>BK1.o.cell 2 rfl j hj
 generalize w1.heap.size=Y at *;generalize w1.alloc (.cells #[.int .i64 (s:Int)] 3)=w2 at *;refine(asks_ok M m (.slice A n c) vd (some ⟨Y,0,none⟩) 1 1 [s] w2 hok (fun j v hj=>hM j v hj) rfl (by decide) (fun j r hr=>⟨Y,0,rfl,by cases j with|zero=>cases hr;exact n0|succ j=>cases hr⟩) (fun r hr=>by cases hr with|head=>exact HNS.o|tail _ h=>cases h)).mono ?_;rintro e w3 ⟨rfl,rfl⟩;clear i3 n0 hM BK0;go_wp2_with fail;have BKa:=Hd BK1.o.drew;refine WL.begin 8 (fun w'=>w'.cell? ⟨X,3,none⟩=some (.int .i64 (s:Int))/\w'.cell? ⟨M,s*2,none⟩=some (.int .u8 2)/\w'.cell? ⟨M,s*2+1,none⟩=some (W64 zn)) (fun _=>True) (by kernel_rfl) ⟨BKa.o.cl 1 3,BKa.o.cell 2 rfl (s*2) HE.o.1,BKa.o.cell 2 rfl (s*2+1) HE.o.2⟩ trivial (fun hs=>?_);generalize w3.drew=wa at *;refine WL.tk [(0,[]),(1,[]),(2,[2]),(3,[]),(4,[]),(5,[]),(6,[6])] hs ?_;clear hs
 iterate 7
  (first|refine WLp ?_ ?_ ?_|refine WLl ?_ ?_ ?_);rotate_left
  ·intro w hc;go_simp<;>rfl
  simp only[Act.put,sA,sZ,sS]
 refine TKs.mk ?_;intro hs;refine WLo 7 hs ?_;clear hs;intro K hK;go_simp;have BKb:=Hd (BKa.o.bx [.int .u8 0,W64 0#64] 64);refine hK.o _ _ (SApp.intro (fun _=>⟨BKb.o.cl 2 3,BKb.o.cell 3 rfl (s*2) HE.o.1,BKb.o.cell 3 rfl (s*2+1) HE.o.2⟩) trivial) ?_;generalize wa.heap.size=V at *;generalize(wa.alloc (.cells #[.int .u8 0,W64 0#64] 64))=wb at *;clear hK K;intro hs;try simp only[Act.put,sA,sZ,sS]
 refine WLo 8 hs ?_;clear hs;intro K hK;obtain⟨r0,r1,fr0,fr1⟩:=BKb.o.r2 0 rfl;go_simp;have BKv:=Hd ((BKb.o.bs 0 0 (.int .u8 2)).bs 0 1 (W64 zn));clear r0 r1 fr0 fr1;refine hK.o _ _ SaF ?_;clear hK K;intro hs;try simp only[Act.put]
 clear hs;refine WLd ?_ _;try simp only[Exit.then]
 generalize((wb.setCell ⟨V,0,none⟩ (.int .u8 2)).setCell ⟨V,1,none⟩ (W64 zn))=wv at *;obtain⟨v0,v1⟩:=BKv.o.q2 0 rfl;go_wp2_with fail;have i5:=BKv.o.cl 2 5;have i7:=BKv.o.cl 2 7;have m6:=BKv.o.cell 3 rfl 1046 (mcL_end hok _ vd 0);refine WL.begin 13 (fun w'=>w'.cell? ⟨M,1046,none⟩=some (.slice A n c)/\w'.cell? ⟨V,1,none⟩=some (W64 zn)/\w'.cell? ⟨X,5,none⟩=some (.int .i64 off)/\w'.cell? ⟨X,7,none⟩=some (.int .i64 (sz:Int))) (fun _=>True) (by kernel_rfl) ⟨m6,v1,i5,i7⟩ trivial (fun hs=>?_);have BKw:=Hd BKv.o.drew;generalize wv.drew=w6 at *;refine WL.tk [(0,[]),(1,[]),(2,[]),(3,[3]),(4,[]),(5,[10,9,5]),(6,[]),(7,[8,7]),(11,[]),(12,[12])] hs ?_;clear hs
 iterate 10
  (first|refine WLp ?_ ?_ ?_|refine WLl ?_ ?_ ?_);rotate_left
  ·intro w hc;go_simp<;>rfl
  simp only[Act.put,sA,sZ,sS]
 refine TKs.mk ?_;intro hs;refine WLo 8 hs ?_;clear hs;intro K hK;go_simp;refine(aluWide_any _ off).mono ?_;rintro e wk ⟨rfl,rfl⟩;refine hK.o _ _ (SApp.intro (fun _=>⟨BKw.o.cell 3 rfl 1046 (mcL_end hok _ vd 0),BKw.o.cl 0 1,BKw.o.cl 2 5,BKw.o.cl 2 7⟩) trivial) ?_;clear hK K;intro hs;try simp only[Act.put,sA,sZ,sS]
 refine WL.tk [(9,[]),(10,[])] hs ?_;clear hs
 iterate 2
  (first|refine WLp ?_ ?_ ?_|refine WLl ?_ ?_ ?_);rotate_left
  ·intro w hc;go_simp<;>rfl
  simp only[Act.put,sA,sZ,sS]
 refine TKs.mk ?_;intro hs;refine WLo 13 hs ?_;clear hs;intro K hK;go_simp;refine(HG.o _ (BKw.o.since.row hr)).mono ?_;rintro e w7 ⟨rfl,hs⟩;have BK6:=Hd (BKw.o.call hs);clear hs;refine hK.o _ _ SaF ?_;clear hK K;intro hs;try simp only[Act.put,sA,sZ,sS]
 refine WL.tk [(14,[]),(15,[]),(16,[])] hs ?_;clear hs
 iterate 3
  (first|refine WLp ?_ ?_ ?_|refine WLl ?_ ?_ ?_);rotate_left
  ·intro w hc;go_simp<;>rfl
  simp only[Act.put,sA,sZ,sS]
 refine TKs.mk ?_;intro hs;refine WLo 17 hs ?_;clear hs;intro K hK;go_simp;refine hK.o _ _ SaF ?_;clear hK K;intro hs;try simp only[Act.put,sA,sZ,sS]
 refine WLo 18 hs ?_;clear hs;intro K hK;go_simp;refine hK.o _ _ SaF ?_;clear hK K;intro hs;try simp only[Act.put,sA,sZ,sS]
 clear hs;refine WLd ?_ _;try simp only[Exit.then]
 clear v0 v1 i5 i7 m6;go_wp2_with fail;have i2:=BK6.o.cl 2 2;refine WL.begin 8 (fun w'=>w'.cell? ⟨X,2,none⟩=some (.int .i64 (d:Int))) (fun _=>True) (by kernel_rfl) i2 trivial (fun hs=>?_);have BKx:=Hd BK6.o.drew;generalize w7.drew=wx at *;refine WL.tk [(0,[]),(1,[]),(2,[2]),(3,[]),(4,[]),(5,[]),(6,[]),(7,[])] hs ?_;clear hs
 iterate 8
  (first|refine WLp ?_ ?_ ?_|refine WLl ?_ ?_ ?_);rotate_left
  ·intro w hc;go_simp<;>rfl
  simp only[Act.put,sA,sZ,sS]
 refine TKs.mk ?_;intro hs;refine WLo 8 hs ?_;clear hs;intro K hK;have m0:=BKx.o.cell 3 rfl (d*2) (mcL_reg hok _ vd d d1).1;have m1:=BKx.o.cell 3 rfl (d*2+1) (mcL_reg hok _ vd d d1).2;have fm0:=BKx.o.free 3 rfl (d*2);have fm1:=BKx.o.free 3 rfl (d*2+1);go_simp;have BKy:=Hd ((BKx.o.boxSet 3 rfl (d*2) (.int .u8 1)).boxSet 3 rfl (d*2+1) (W64 (T.gets pkl k sz)));refine hK.o _ _ SaF ?_;clear hK K;intro hs;try simp only[Act.put]
 clear hs;refine WLd ?_ _;try simp only[Exit.then]
 go_wp2;go_ret;refine⟨rfl,?_⟩;have h:=BKy.o.drop.drop.drop;rw[mcL_put hok _ vd d d1 (1,T.gets pkl k sz)]at h;exact h
theorem exLoadF_ok{M:Nat}{m:T.Mc}{pk vd:Value}{w0 w:World}{L:List Acc}(i:T.Ins)(hB:Bank w0 w (boxAcc M 70 (mcL m pk vd)::L))(hok:Mok m)(hd:0<=i.dst/\i.dst<=10)(hsr:0<=i.src/\i.src<=10)(hk:(m.reg i.src).1≠0/\(m.reg i.src).1≠1/\(m.reg i.src).1≠2)(hg:T.frameErr (m.reg i.src).2 i=0)(hss:T.sized i.size=true)(hset:T.allSet m.set (((m.reg i.src).2+T.wide i.off).toInt+512).toNat i.size.toNat=true):Calls Tryz.prog 57 #[.pointer (some ⟨M,0,none⟩),insV i] w (ExP w0 M (m.put i.dst (1,T.gets m.stk (((m.reg i.src).2+T.wide i.off).toInt+512).toNat i.size.toNat)) pk vd L):=by
 obtain⟨z,hz⟩:∃z,m.reg i.src=z:=⟨_,rfl⟩
 obtain⟨zk,zn⟩:=z;rw[hz]at hk hg hset ⊢;simp only at hk hg hset ⊢;obtain⟨hkn,hk1,hk2⟩:=hk;obtain⟨g1,g2⟩:=frameErr_in hg;have gs:=T.sized_cases hss;have HF:=fun w=>exFrame_ok zn i w hg hss
 obtain⟨k,hkk⟩:=Int.eq_ofNat_of_zero_le g1;obtain⟨sz,hsz⟩:∃sz:Nat,i.size=(sz:Int):=⟨i.size.toNat,by omega⟩
 rw[hkk]at HF;have HF:=Hd HF;rw[hkk,hsz]at hset ⊢;rw[Int.toNat_natCast,Int.toNat_natCast]at hset;rw[Int.toNat_natCast,Int.toNat_natCast];have gz:1<=sz/\sz<=8:=by omega
 have gk:k+sz<=512:=by omega
 have HG:=Hd (fun w hr=>pkGet_ok (some ⟨M,22,none⟩) 512 512 m.stk k sz w hr (by decide) (by unfold T.getErr;rw[show T.sized (sz:Int)=true by rw[<-hsz];exact hss];rw[if_neg (by simp),if_neg (by omega)]));have hat:=stk_all
 have HS:=Hd (show ∀j,j<sz->m.set.getD (k+j) false=true from fun j hj=>by
  unfold T.allSet at hset
  exact List.all_eq_true.1 hset j (List.mem_range.2 hj))
 have GZ:=Hd gz;have GK:=Hd gk;clear hg hkk hset gs g1 g2 hss gz gk;have e1:(zk==1)=false:=by simpa using hk1
 have e2:(zk==2)=false:=by simpa using hk2
 clear hk1 hk2;obtain⟨op,nr,dst,src,u,off,imm,size⟩:=i;simp only at *;subst hsz;obtain⟨s,rfl⟩:=Int.eq_ofNat_of_zero_le hsr.1;obtain⟨d,rfl⟩:=Int.eq_ofNat_of_zero_le hd.1;have s1:s<11:=by have:=hsr.2;omega
 have d1:d<11:=by have:=hd.2;omega
 have j0:(0:Int)<=(s:Int):=by omega
 have j1:(s:Int)<(11:Int):=by omega
 have j2:(0:Int)<=(d:Int):=by omega
 have j3:(d:Int)<(11:Int):=by omega
 have HE:=mcL_reg hok pk vd s s1;rw[hz]at HE;have HE:=Hd HE;have hns:s<11/\(m.reg (s:Int)).1≠0:=⟨s1,by rw[hz];exact hkn⟩
 have HNS:=Hd hns;clear hd hsr hz hns hkn;unfold insV insL;have BK0:=Hd (hB.bx [.int .u8 op,.bool nr,.int .i64 (d:Int),.int .i64 (s:Int),.bool u,.int .i64 off,.int .i64 imm,.int .i64 (sz:Int)] 55);clear hB;go_enter Tryz.func57,Tryz.ntmps57;go_upto_region 1 with fail;generalize w.heap.size=X at *;refine wp_hid BK0 (fun w1 BK0=>?_);have i3:=BK0.o.cl 0 3;go_wp2_with fail;have BK1:=Hd (BK0.o.bx [.int .i64 (s:Int)] 3);have n0:=(BK1.o.cl 0 0)
 have hM:=fun j v (hj:(mcL m pk vd)[j]?=some v)=>BK1.o.cell 2 rfl j hj
 generalize w1.heap.size=Y at *;generalize w1.alloc (.cells #[.int .i64 (s:Int)] 3)=w2 at *;refine(asks_ok M m pk vd (some ⟨Y,0,none⟩) 1 1 [s] w2 hok (fun j v hj=>hM j v hj) rfl (by decide) (fun j r hr=>⟨Y,0,rfl,by cases j with|zero=>cases hr;exact n0|succ j=>cases hr⟩) (fun r hr=>by cases hr with|head=>exact HNS.o|tail _ h=>cases h)).mono ?_;rintro e w3 ⟨rfl,rfl⟩;clear i3 n0 hM BK0;go_wp2_with fail;have BKa:=Hd BK1.o.drew;refine WL.begin 8 (fun w'=>w'.cell? ⟨X,3,none⟩=some (.int .i64 (s:Int))/\w'.cell? ⟨M,s*2,none⟩=some (.int .u8 zk)/\w'.cell? ⟨M,s*2+1,none⟩=some (W64 zn)) (fun _=>True) (by kernel_rfl) ⟨BKa.o.cl 1 3,BKa.o.cell 2 rfl (s*2) HE.o.1,BKa.o.cell 2 rfl (s*2+1) HE.o.2⟩ trivial (fun hs=>?_);generalize w3.drew=wa at *;refine WL.tk [(0,[]),(1,[]),(2,[2]),(3,[]),(4,[]),(5,[]),(6,[6])] hs ?_;clear hs
 iterate 7
  (first|refine WLp ?_ ?_ ?_|refine WLl ?_ ?_ ?_);rotate_left
  ·intro w hc;go_simp<;>rfl
  simp only[Act.put,sA,sZ,sS]
 refine TKs.mk ?_;intro hs;refine WLo 7 hs ?_;clear hs;intro K hK;go_simp;have BKb:=Hd (BKa.o.bx [.int .u8 0,W64 0#64] 64);refine hK.o _ _ (SApp.intro (fun _=>⟨BKb.o.cl 2 3,BKb.o.cell 3 rfl (s*2) HE.o.1,BKb.o.cell 3 rfl (s*2+1) HE.o.2⟩) trivial) ?_;generalize wa.heap.size=V at *;generalize(wa.alloc (.cells #[.int .u8 0,W64 0#64] 64))=wb at *;clear hK K;intro hs;try simp only[Act.put,sA,sZ,sS]
 refine WLo 8 hs ?_;clear hs;intro K hK;obtain⟨r0,r1,fr0,fr1⟩:=BKb.o.r2 0 rfl;go_simp;have BKv:=Hd ((BKb.o.bs 0 0 (.int .u8 zk)).bs 0 1 (W64 zn));clear r0 r1 fr0 fr1;refine hK.o _ _ SaF ?_;clear hK K;intro hs;try simp only[Act.put]
 clear hs;refine WLd ?_ _;try simp only[Exit.then]
 generalize((wb.setCell ⟨V,0,none⟩ (.int .u8 zk)).setCell ⟨V,1,none⟩ (W64 zn))=wv at *;obtain⟨v0,v1⟩:=BKv.o.q2 0 rfl;obtain⟨i0,i1,i2,i3,i4,i5,i6,i7⟩:=BKv.o.q8 2 rfl;go_wp2_with fail;refine(HF.o _).mono ?_;rintro e w7 ⟨rfl,hs⟩;have BK6:=Hd (BKv.o.call hs);clear hs v0 v1 i0 i1 i2 i3 i4 i5 i6 i7 BKv;have i7:=BK6.o.cl 2 7;go_wp2_with fail;go_loopw [12,42] (fun v i wr=>∃j:Nat,j<=sz/\i=.int .i64 (j:Int)/\wr=w7) (fun _ i _=>sz-(intOf i).toNat)
 case atStart=>exact⟨0,Nat.zero_le _,rfl,rfl⟩
 case round =>
  obtain⟨j,hj,rfl,rfl⟩:=hrel;have q0:(0:Int)<=(j:Int):=by omega
  have:=GZ.o;have:=GK.o;by_cases hlt:j<sz
  ·have q1:(j:Int)<(sz:Int):=by omega
   have kw:IntKind.i64.wrap ((k:Int)+(j:Int))=((k+j:Nat):Int):=by rw[IntWalk.i64_in _ (by omega)];omega
   have q2:(0:Int)<=((k+j:Nat):Int):=by omega
   have q3:((k+j:Nat):Int)<512:=by omega
   have c0:=BK6.o.cell 3 rfl (534+(k+j)) (mcL_set hok pk vd (k+j) (by omega));rw[HS.o j hlt]at c0;clear i7;go_wp2;go_round
   case rel=>exact⟨j+1,by omega,by go_num,by first|rfl|trivial⟩
   case measure=>simp[intOf];omega
  ·have q1:¬(j:Int)<(sz:Int):=by omega
   go_wp2_with fail;refine WL.begin 7 (fun w'=>w'.cell? ⟨X,7,none⟩=some (.int .i64 (sz:Int))) (fun _=>True) (by kernel_rfl) i7 trivial (fun hs=>?_);have BKw:=Hd BK6.o.drew;generalize wr.drew=w8 at *;refine WL.tk [(0,[]),(1,[]),(2,[]),(3,[]),(4,[]),(5,[]),(6,[6])] hs ?_;clear hs
   iterate 7
    (first|refine WLp ?_ ?_ ?_|refine WLl ?_ ?_ ?_);rotate_left
    ·intro w hc;go_simp<;>rfl
    simp only[Act.put,sA,sZ,sS]
   refine TKs.mk ?_;intro hs;refine WLo 7 hs ?_;clear hs;intro K hK;go_simp;refine(HG.o _ (mc_stk hok (fun j v hj=>BKw.o.cell 3 rfl j hj))).mono ?_;rintro e w9 ⟨rfl,hs⟩;have BK7:=Hd (BKw.o.call hs);clear hs;refine hK.o _ _ SaF ?_;clear hK K;intro hs;try simp only[Act.put,sA,sZ,sS]
   refine WL.tk [(8,[]),(9,[]),(10,[])] hs ?_;clear hs
   iterate 3
    (first|refine WLp ?_ ?_ ?_|refine WLl ?_ ?_ ?_);rotate_left
    ·intro w hc;go_simp<;>rfl
    simp only[Act.put,sA,sZ,sS]
   refine TKs.mk ?_;intro hs;refine WLo 11 hs ?_;clear hs;intro K hK;go_simp;refine hK.o _ _ SaF ?_;clear hK K;intro hs;try simp only[Act.put,sA,sZ,sS]
   clear hs;refine WLd ?_ _;try simp only[Exit.then]
   clear i7;go_wp2_with fail;have i2:=BK7.o.cl 2 2;refine WL.begin 8 (fun w'=>w'.cell? ⟨X,2,none⟩=some (.int .i64 (d:Int))) (fun _=>True) (by kernel_rfl) i2 trivial (fun hs=>?_);have BKx:=Hd BK7.o.drew;generalize w9.drew=wx at *;refine WL.tk [(0,[]),(1,[]),(2,[2]),(3,[]),(4,[]),(5,[]),(6,[]),(7,[])] hs ?_;clear hs
   iterate 8
    (first|refine WLp ?_ ?_ ?_|refine WLl ?_ ?_ ?_);rotate_left
    ·intro w hc;go_simp<;>rfl
    simp only[Act.put,sA,sZ,sS]
   refine TKs.mk ?_;intro hs;refine WLo 8 hs ?_;clear hs;intro K hK;have m0:=BKx.o.cell 3 rfl (d*2) (mcL_reg hok _ vd d d1).1;have m1:=BKx.o.cell 3 rfl (d*2+1) (mcL_reg hok _ vd d d1).2;have fm0:=BKx.o.free 3 rfl (d*2);have fm1:=BKx.o.free 3 rfl (d*2+1);go_simp;have BKy:=Hd ((BKx.o.boxSet 3 rfl (d*2) (.int .u8 1)).boxSet 3 rfl (d*2+1) (W64 (T.gets m.stk k sz)));refine hK.o _ _ SaF ?_;clear hK K;intro hs;try simp only[Act.put]
   clear hs;refine WLd ?_ _;try simp only[Exit.then]
   go_wp2;go_ret;refine⟨rfl,?_⟩;have h:=BKy.o.drop.drop.drop;rw[mcL_put hok _ vd d d1 (1,T.gets m.stk k sz)]at h;exact h
end Go.Proofs.YtfeipbgnjainlaaGreatDoor.K
