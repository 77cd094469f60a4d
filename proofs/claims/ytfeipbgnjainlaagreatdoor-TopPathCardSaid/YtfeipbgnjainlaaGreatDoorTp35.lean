/- TYa, TYf, TExF, TCkQ -/
import Derived.Test.YtfeipbgnjainlaaGreatDoorTp4
import Derived.Test.YtfeipbgnjainlaaGreatDoorTp2
import Derived.Test.YtfeipbgnjainlaaGreatDoorTp9
import Derived.Test.YtfeipbgnjainlaaGreatDoorTp26
import Derived.Test.YtfeipbgnjainlaaGreatDoorTp10
import Derived.Test.YtfeipbgnjainlaaGreatDoorTp22
import Derived.Test.YtfeipbgnjainlaaGreatDoorTp30
import Derived.Test.YtfeipbgnjainlaaGreatDoorTp34
import Derived.Test.YtfeipbgnjainlaaGreatDoorTp25
set_option linter.unusedVariables false
set_option linter.unusedSimpArgs false
set_option maxRecDepth 100000
set_option maxHeartbeats 4000000
namespace Go.Proofs.YtfeipbgnjainlaaGreatDoor.K
open Go Go.RowKit Go.Maps Go.Sort
theorem wrap_i64_add(x:BitVec 64)(z:Int):IntKind.i64.wrap (x.toInt+z)=(x+T.wide z).toInt:=by
 unfold T.wide;have h:=BitVec.toInt_add x (BitVec.ofInt 64 z);rw[BitVec.toInt_ofInt,Int.add_bmod_bmod]at h;rw[h];generalize x.toInt+z=y;simp only[IntKind.wrap,IntKind.bits,IntKind.signed,Int.bmod];simp;split<;>split<;>omega
theorem tyFar_any(x:T.Kn)(off:Int)(w:World):Calls Tryz.prog 178 #[knv x,.int .i64 off] w (Ret w (.int .i64 (x.s.lo+T.wide off).toInt)):=by
 obtain⟨k,⟨lo,hi⟩⟩:=x;unfold knv;simp only
 have hadd:∀w,(binOp .add 2 (S64 lo) (.int .i64 off)).run Tryz.prog w=.ok (.int .i64 (lo+T.wide off).toInt) w:=fun w=>by
  rw[<-wrap_i64_add];rfl
 generalize(lo+T.wide off).toInt=z at *;have BK0:=bk1 w [.int .u8 k,W64 lo,W64 hi] 124;go_enter Tryz.func178,Tryz.ntmps178;go_upto_region 1 with fail;generalize w.heap.size=X at *;refine wp_hid BK0 (fun w1 BK0=>?_);obtain⟨a0,a1,a2⟩:=BK0.o.q3 0 rfl;have hcv:=fun w (y:BitVec 64)=>conv_W64_S64 (P:=Tryz.prog) (src:=39) (dst:=2) (w:=w) y Tryz.underlying39 Tryz.underlying2
 go_wp2;go_ret;exact⟨rfl,BK0.o.since⟩
theorem tySure_ok(w:World):Calls Tryz.prog 176 #[.int .i64 0] w fun e w'=>e=.returned .nilIface/\w'=w:=by
 go_enter Tryz.func176,Tryz.ntmps176;go_wp2;go_ret;exact⟨rfl,rfl⟩
theorem tyNumber_ok(x:PV)(k:T.Kn)(w:World)(h0:0<=x.p.least)(h1:x.p.least<=65535)(hk:(T.asN x.p k).1=0):Calls Tryz.prog 140 #[knv k,PlV x] w (Ret w (.tuple #[spv (T.asN x.p k).2,.nilIface])):=by
 obtain⟨k,⟨lo,hi⟩⟩:=k;have HW:=Hd (wide_W64 x.p.least h0 h1)
 have hc:k=1\/k=4:=by
  unfold T.asN at hk;simp only at hk;by_cases h:k=1
  ·exact .inl h
  ·by_cases h':k=4
   ·exact .inr h'
   ·rw[if_neg h,if_neg h']at hk
    split at hk<;>cases hk
 clear hk;unfold knv PlV;have BK0:=bk3 w [.int .u8 k,W64 lo,W64 hi] 124 [.bool true,.slice (some ⟨x.gr,0,none⟩) 11 x.cr,.slice (some ⟨x.gb,0,none⟩) 512 x.cb,.int .i64 x.p.least] 87 [W64 0#64,W64 0#64] 122;go_enter Tryz.func140,Tryz.ntmps140;go_upto_region 1 with fail;generalize w.heap.size=X at *;refine wp_hid BK0 (fun w1 BK0=>?_);obtain⟨a0,a1,a2⟩:=BK0.o.q3 2 rfl;obtain⟨b0,b1,b2,b3⟩:=BK0.o.q4 1 rfl;obtain⟨r0,r1,fr0,fr1⟩:=BK0.o.r2 0 rfl;rcases hc with rfl|rfl
 ·go_wp2
  refine bodyPost_ret (v:=.tuple #[.agg #[W64 lo,W64 hi],.nilIface]) ?_ rfl ⟨rfl,((BK0.o.bs 0 0 (W64 lo)).bs 0 1 (W64 hi)).since⟩;simp[results,Tryz.results140,go_sem,r0,r1]
 ·go_wp2
  refine bodyPost_ret (v:=.tuple #[.agg #[.int .u64 x.p.least,W64 65535#64],.nilIface]) ?_ rfl ⟨by rw[HW.o];rfl,((BK0.o.bs 0 0 (.int .u64 x.p.least)).bs 0 1 (W64 65535#64)).since⟩;simp[results,Tryz.results140,go_sem,r0,r1]
theorem knsReg{w:World}{g:Nat}{p:T.Pl}(h:RdC w g (knsL p.regs))(hl:p.regs.length=11)(s:Nat)(hs:s<11):w.cell? ⟨g,s*3,none⟩=some (.int .u8 (p.reg (s:Int)).k)/\w.cell? ⟨g,s*3+1,none⟩=some (W64 (p.reg (s:Int)).s.lo)/\w.cell? ⟨g,s*3+2,none⟩=some (W64 (p.reg (s:Int)).s.hi):=by
 have h1:=knsL_at' h s (by omega)
 have e:p.reg (s:Int)=p.regs[s]'(by omega):=by
  unfold T.Pl.reg;rw[Int.toNat_natCast,List.getD_eq_getElem?_getD,List.getElem?_eq_getElem (by omega)];rfl
 rw[e];exact h1
theorem tyPart_any(x:PV)(i:T.Ins)(w:World)(hr:RdC w x.gr (knsL x.p.regs))(hl:x.p.regs.length=11)(hs:0<=i.src/\i.src<=10):Calls Tryz.prog 175 #[insV i,PlV x] w (Ret w (knv (T.second i x.p))):=by
 obtain⟨op,nr,dst,src,u,off,imm,size⟩:=i;obtain⟨s,rfl⟩:=Int.eq_ofNat_of_zero_le hs.1;have s1:s<11:=by have:=hs.2;simp only at this;omega
 obtain⟨kn,hk⟩:∃kn,x.p.reg (s:Int)=kn:=⟨_,rfl⟩
 have HV:=Hd (show ∀op nr dst u off imm size,T.second ⟨op,nr,dst,(s:Int),u,off,imm,size⟩ x.p=if u then⟨1,T.Sp.of (T.wide imm)⟩else kn from fun _ _ _ _ _ _ _=>by unfold T.second;rw[<-hk]);have HC:=Hd (fun w' (S:Since w w')=>hk▸knsReg (hr.since S) hl s s1);have hw:Value.int .u64 (IntKind.u64.wrap imm)=W64 (T.wide imm):=wrap_wide imm;have j0:(0:Int)<=(s:Int):=by omega
 have j1:(s:Int)<(11:Int):=by omega
 clear hr hk hs hl;unfold insV insL PlV;have BK0:=bk3 w [.int .u8 op,.bool nr,.int .i64 dst,.int .i64 (s:Int),.bool u,.int .i64 off,.int .i64 imm,.int .i64 size] 55 [.bool true,.slice (some ⟨x.gr,0,none⟩) 11 x.cr,.slice (some ⟨x.gb,0,none⟩) 512 x.cb,.int .i64 x.p.least] 87 [.int .u8 0,W64 0#64,W64 0#64] 124;go_enter Tryz.func175,Tryz.ntmps175;go_upto_region 1 with fail;generalize w.heap.size=X at *;refine wp_hid BK0 (fun w1 BK0=>?_);obtain⟨i0,i1,i2,i3,i4,i5,i6,i7⟩:=BK0.o.q8 2 rfl;obtain⟨p0,p1,p2,p3⟩:=BK0.o.q4 1 rfl;obtain⟨r0,r1,r2,fr0,fr1,fr2⟩:=BK0.o.r3 0 rfl;cases u
 case false =>
  obtain⟨e0,e1,e2⟩:=HC.o _ BK0.o.since;have BK1:=Hd (((BK0.o.bs 0 0 (.int .u8 kn.k)).bs 0 1 (W64 kn.s.lo)).bs 0 2 (W64 kn.s.hi));go_wp2;clear r0 r1 r2;obtain⟨r0,r1,r2⟩:=BK1.o.q3 0 rfl;refine bodyPost_ret (v:=.agg #[.int .u8 kn.k,W64 kn.s.lo,W64 kn.s.hi]) ?_ rfl ⟨by rw[HV.o];rfl,BK1.o.since⟩;simp[results,Tryz.results175,go_sem,r0,r1,r2]
 case true =>
  go_wp2_with fail;refine(spOf_agg (T.wide imm) _).mono ?_;rintro e w2 ⟨rfl,hs⟩;have BK1:=Hd (BK0.o.call hs);clear i0 i1 i2 i3 i4 i5 i6 i7 r0 r1 r2 fr0 fr1 fr2 hs BK0;obtain⟨r0,r1,r2,fr0,fr1,fr2⟩:=BK1.o.r3 0 rfl;have BK2:=Hd (((BK1.o.bs 0 0 (.int .u8 1)).bs 0 1 (W64 (T.wide imm))).bs 0 2 (W64 (T.wide imm)));go_wp2;clear r0 r1 r2;obtain⟨r0,r1,r2⟩:=BK2.o.q3 0 rfl;refine bodyPost_ret (v:=.agg #[.int .u8 1,W64 (T.wide imm),W64 (T.wide imm)]) ?_ rfl ⟨by rw[HV.o];rfl,BK2.o.since⟩;simp[results,Tryz.results175,go_sem,r0,r1,r2]
set_option maxRecDepth 100000
set_option maxHeartbeats 4000000
theorem boRd_of{w:World}{g:Nat}{bs:List Bool}(h:RdC w g (bs.map Value.bool)):BoRd w g 0 bs:=fun j u hj=>by
 rw[Nat.zero_add];exact h j (.bool u) (by rw[List.getElem?_map,hj];rfl)
theorem tyWithin_ok(x y:PV)(w:World)(hx:x.p.Wf)(hy:y.p.Wf)(rx:PRd w x)(ry:PRd w y)(hin:x.p.In y.p):Calls Tryz.prog 41 #[PlV x,PlV y] w (Ret w (.bool true)):=by
 have HX:=Hd (fun w' h=>tyRight_live x w' hx h);have HY:=Hd (fun w' h=>tyRight_live y w' hy h);have HR:=Hd (⟨rx,ry⟩:PRd w x/\PRd w y);have HW:=Hd (fun(j:Nat) (hj:j<11)=>(by have:=hin.regs j hj;unfold T.Pl.reg;simpa using this:(x.p.reg (j:Int)).within (y.p.reg (j:Int))=true));have HS:=Hd (fun w' hra hrb=>stkWithin_ok x.gb 0 x.cb y.gb 0 y.cb x.p.bytes y.p.bytes w' hx.bl hy.bl rx.2.2 ry.2.2 hra hrb hin.bytes);have HL:=Hd (⟨hx.rl,hy.rl⟩:x.p.regs.length=11/\y.p.regs.length=11);have hll:=hin.least;clear hx hy rx ry hin;unfold PlV at HX HY ⊢;have BK0:=bk2 w [.bool true,.slice (some ⟨x.gr,0,none⟩) 11 x.cr,.slice (some ⟨x.gb,0,none⟩) 512 x.cb,.int .i64 x.p.least] 87 [.bool true,.slice (some ⟨y.gr,0,none⟩) 11 y.cr,.slice (some ⟨y.gb,0,none⟩) 512 y.cb,.int .i64 y.p.least] 87;go_enter Tryz.func41,Tryz.ntmps41;go_upto_region 1 with fail;generalize w.heap.size=X at *;refine wp_hid BK0 (fun w1 BK0=>?_);obtain⟨p0,p1,p2,p3⟩:=BK0.o.q4 1 rfl;obtain⟨q0,q1,q2,q3⟩:=BK0.o.q4 0 rfl;go_wp2_with fail;refine(HX.o _ (HR.o.1.since BK0.o.since)).mono ?_;rintro e w2 ⟨rfl,hs⟩;have BK1:=Hd (BK0.o.call hs);clear hs BK0 p0 p1 p2 p3 q0 q1 q2 q3;obtain⟨p0,p1,p2,p3⟩:=BK1.o.q4 1 rfl;obtain⟨q0,q1,q2,q3⟩:=BK1.o.q4 0 rfl;go_wp2_with fail;refine(HY.o _ (HR.o.2.since BK1.o.since)).mono ?_;rintro e w3 ⟨rfl,hs⟩;have BK2:=Hd (BK1.o.call hs);clear hs BK1 p0 p1 p2 p3 q0 q1 q2 q3;obtain⟨p0,p1,p2,p3⟩:=BK2.o.q4 1 rfl;obtain⟨q0,q1,q2,q3⟩:=BK2.o.q4 0 rfl;go_wp2_with fail;go_loopw [5,6,29] (fun v u i wr=>∃j:Nat,j<=11/\i=.int .i64 (j:Int)/\Bank w wr [boxAcc (X+1) 87 [.bool true,.slice (some ⟨y.gr,0,none⟩) 11 y.cr,.slice (some ⟨y.gb,0,none⟩) 512 y.cb,.int .i64 y.p.least],boxAcc X 87 [.bool true,.slice (some ⟨x.gr,0,none⟩) 11 x.cr,.slice (some ⟨x.gb,0,none⟩) 512 x.cb,.int .i64 x.p.least]]) (fun _ _ i _=>11-(intOf i).toNat)
 case atStart=>exact⟨0,by omega,rfl,BK2.o⟩
 case round =>
  clear p0 p1 p2 p3 q0 q1 q2 q3 BK2;obtain⟨j,hj,rfl,hB⟩:=hrel;have HB:=Hd hB;clear hB;have j0:(0:Int)<=(j:Int):=by omega
  obtain⟨p0,p1,p2,p3⟩:=HB.o.q4 1 rfl;obtain⟨q0,q1,q2,q3⟩:=HB.o.q4 0 rfl;by_cases hlt:j<11
  ·have i1:(j:Int)<(11:Int):=by omega
   obtain⟨c0,c1,c2⟩:=knsReg (HR.o.1.since HB.o.since).1 HL.o.1 j hlt;obtain⟨e0,e1,e2⟩:=knsReg (HR.o.2.since HB.o.since).1 HL.o.2 j hlt;have HWJ:=Hd (HW.o j hlt);generalize x.p.reg (j:Int)=u at *;generalize y.p.reg (j:Int)=v at *;go_upto_region 6 with fail;have BK:=Hd (HB.o.bx [.int .u8 u.k,W64 u.s.lo,W64 u.s.hi] 124);have SB:=Hd (show Since wr (wr.alloc (.cells #[.int .u8 u.k,W64 u.s.lo,W64 u.s.hi] 124)).drew from((Below.refl _ _).alloc (Nat.le_refl _) _).drew);have g0:=SB.o.keep e0;have g1:=SB.o.keep e1;have g2:=SB.o.keep e2;have HC:=Hd (⟨(BK.o.drew.q2 1 rfl).1,(BK.o.drew.q2 1 rfl).2,(BK.o.drew.q3 0 rfl).1,(BK.o.drew.q3 0 rfl).2.1,(BK.o.drew.q3 0 rfl).2.2,g0,g1,g2⟩:_/\_/\_/\_/\_/\_/\_/\_);clear p0 p1 p2 p3 q0 q1 q2 q3 c0 c1 c2 e0 e1 e2 g0 g1 g2 SB;generalize wr.heap.size=D at *;refine WL.begin 10 (fun w'=>w'.cell? ⟨X+1,0,none⟩=some (.bool true)/\w'.cell? ⟨X+1,1,none⟩=some (.slice (some ⟨y.gr,0,none⟩) 11 y.cr)/\w'.cell? ⟨D,0,none⟩=some (.int .u8 u.k)/\w'.cell? ⟨D,1,none⟩=some (W64 u.s.lo)/\w'.cell? ⟨D,2,none⟩=some (W64 u.s.hi)/\w'.cell? ⟨y.gr,j*3,none⟩=some (.int .u8 v.k)/\w'.cell? ⟨y.gr,j*3+1,none⟩=some (W64 v.s.lo)/\w'.cell? ⟨y.gr,j*3+2,none⟩=some (W64 v.s.hi)) (fun _=>True) (by kernel_rfl) HC.o trivial (fun hs=>?_);refine WL.tk [(0,[]),(1,[3,2,1]),(2,[]),(3,[]),(4,[4]),(5,[]),(6,[9,8,6]),(7,[]),(8,[]),(9,[9])] hs ?_;clear hs
   iterate 10
    (first|refine WLp ?_ ?_ ?_|refine WLl ?_ ?_ ?_);rotate_left
    ·intro w hc;go_simp<;>rfl
    simp only[Act.put,sA,sZ,sS]
   refine TKs.mk ?_;intro hs;refine WLo 10 hs ?_;clear hs;intro K hK;go_simp;refine(kwithin_ok u v HWJ.o _).mono ?_;rintro e wq ⟨rfl,hs⟩;have BK5:=Hd (BK.o.drew.call hs);clear hs;refine hK.o _ _ SaF ?_;clear hK K;intro hs;try simp only[Act.put,sA,sZ,sS]
   refine WL.tk [(11,[]),(12,[])] hs ?_;clear hs
   iterate 2
    (first|refine WLp ?_ ?_ ?_|refine WLl ?_ ?_ ?_);rotate_left
    ·intro w hc;go_simp<;>rfl
    simp only[Act.put,sA,sZ,sS]
   refine TKs.mk ?_;intro hs;clear hs;refine WLd ?_ _;try simp only[Exit.then]
   clear HC BK;go_wp2;go_round
   case rel=>exact⟨j+1,by omega,by go_num,BK5.o.drop⟩
   case measure=>simp[intOf];omega
  ·have i1:¬(j:Int)<(11:Int):=by omega
   go_wp2_with fail;refine(HS.o _ (boRd_of (HR.o.1.since HB.o.since).2.1) (boRd_of (HR.o.2.since HB.o.since).2.1)).mono ?_;rintro e w5 ⟨rfl,hs⟩;have BK5:=Hd (HB.o.call hs);clear hs p0 p1 p2 p3 q0 q1 q2 q3;obtain⟨p0,p1,p2,p3⟩:=BK5.o.q4 1 rfl;obtain⟨q0,q1,q2,q3⟩:=BK5.o.q4 0 rfl;go_wp2;go_ret;exact⟨rfl,BK5.o.since⟩
set_option maxRecDepth 100000
set_option maxHeartbeats 8000000
theorem exBranch_ok{M:Nat}{m:T.Mc}{pk vd:Value}{w0 w:World}{L:List Acc}(i:T.Ins)(hB:Bank w0 w (boxAcc M 70 (mcL m pk vd)::L))(hok:Mok m)(hd:0<=i.dst/\i.dst<=10)(hsr:0<=i.src/\i.src<=10)(ho:17<=i.op/\i.op<=27)(hsec:T.secErr i m=0)(ha:(m.reg i.dst).1=1)(hb:(T.esecond i m).1=1)(hf:T.ais i.op i.narrow (m.reg i.dst).2 (T.esecond i m).2=true->0<=i.off/\(m.at':Int)+i.off<100000):Calls Tryz.prog 62 #[.pointer (some ⟨M,0,none⟩),insV i] w (ExP w0 M (if T.ais i.op i.narrow (m.reg i.dst).2 (T.esecond i m).2 then { m with at':=m.at'+i.off.toNat }else m) pk vd L):=by
 have hda:(m.reg i.dst).1≠0:=by rw[ha];decide
 obtain⟨s,hsd⟩:=Int.eq_ofNat_of_zero_le hd.1;have s1:s<11:=by have:=hd.2;omega
 have hda':s<11/\(m.reg (s:Int)).1≠0:=⟨s1,by rw[<-hsd];exact hda⟩
 have hSEC:=fun Y w1 hM hA=>exSecond_ok M m pk vd i (some ⟨Y,0,none⟩) 1 [s] w1 hok hM rfl (by decide) (fun h=>by cases h) hA (fun r hr=>by rw[List.mem_singleton]at hr;subst hr;exact hda') hsr hsec
 have hrd:=hsd▸hd;obtain⟨qk,hqk⟩:∃q,(T.esecond i m).1=q:=⟨_,rfl⟩
 obtain⟨qn,hqn⟩:∃q,(T.esecond i m).2=q:=⟨_,rfl⟩
 obtain⟨z,hz⟩:∃z,m.reg i.dst=z:=⟨_,rfl⟩
 obtain⟨zk,zn⟩:=z;rw[hqk,hqn]at hSEC;have HSEC:=Hd hSEC;clear hSEC;simp only[hqk,hqn,hz]at ha hb hf ⊢;obtain⟨op,nr,dst,src,u,off,imm,size⟩:=i;simp only at hsd hz ha hb ho hf ⊢;subst hsd;have j0:(0:Int)<=(s:Int):=by omega
 have j1:(s:Int)<(11:Int):=by omega
 have HE:=mcL_reg hok pk vd s s1;rw[hz]at HE;have HE:=Hd HE;have HZK:=Hd hz;clear hd hrd hda hda' hsr hsec hqk hqn hz;subst hb;subst ha;obtain⟨t,ht⟩:∃t,T.ais op nr zn qn=t:=⟨_,rfl⟩
 have HIS:=Hd (fun w=>aluIs_any w op nr zn qn ho);rw[ht]at HIS hf ⊢;obtain⟨mm,hmm⟩:∃mm,(if t=true then { m with at':=m.at'+off.toNat }else m)=mm:=⟨_,rfl⟩
 rw[hmm];have HMM:=Hd hmm;have HF:=Hd hf;clear ht hf hmm;unfold insV insL;have BK0:=Hd (hB.bx [.int .u8 op,.bool nr,.int .i64 (s:Int),.int .i64 src,.bool u,.int .i64 off,.int .i64 imm,.int .i64 size] 55);clear hB;go_enter Tryz.func62,Tryz.ntmps62;go_upto_region 1 with fail;generalize w.heap.size=X at *;refine wp_hid BK0 (fun w1 BK0=>?_);obtain⟨i0,i1,i2,i3,i4,i5,i6,i7⟩:=BK0.o.q8 0 rfl;go_wp2_with fail;have BK1:=Hd (BK0.o.bx [.int .i64 (s:Int)] 3);have n0:=(BK1.o.cl 0 0)
 have hM:=fun j v (hj:(mcL m pk vd)[j]?=some v)=>BK1.o.cell 2 rfl j hj
 generalize w1.heap.size=Y at *;generalize w1.alloc (.cells #[.int .i64 (s:Int)] 3)=w2 at *;refine(HSEC.o Y w2 hM (fun j r hr=>⟨Y,0,rfl,by cases j with|zero=>cases hr;exact n0|succ j=>cases hr⟩)).mono ?_;rintro e w3 ⟨rfl,hs⟩;have BK2:=Hd (BK1.o.call hs);clear hs n0 hM BK0 BK1 HSEC i0 i1 i2 i3 i4 i5 i6 i7;go_upto_region 2 with fail;have BK3:=Hd (BK2.o.bx [.int .u8 1,W64 qn] 64);generalize w3.heap.size=Z at *;refine wp_hid BK3 (fun w4 BK3=>?_);clear BK2;have BKa:=Hd BK3.o.drew;refine WL.begin 8 (fun w'=>w'.cell? ⟨X,2,none⟩=some (.int .i64 (s:Int))/\w'.cell? ⟨M,s*2,none⟩=some (.int .u8 1)/\w'.cell? ⟨M,s*2+1,none⟩=some (W64 zn)) (fun _=>True) (by kernel_rfl) ⟨BKa.o.cl 2 2,BKa.o.cell 3 rfl (s*2) HE.o.1,BKa.o.cell 3 rfl (s*2+1) HE.o.2⟩ trivial (fun hs=>?_);generalize w4.drew=wa at *;refine WL.tk [(0,[]),(1,[]),(2,[2]),(3,[]),(4,[]),(5,[]),(6,[6])] hs ?_;clear hs
 iterate 7
  (first|refine WLp ?_ ?_ ?_|refine WLl ?_ ?_ ?_);rotate_left
  ·intro w hc;go_simp<;>rfl
  simp only[Act.put,sA,sZ,sS]
 refine TKs.mk ?_;intro hs;refine WLo 7 hs ?_;clear hs;intro K hK;go_simp;have BKb:=Hd (BKa.o.bx [.int .u8 0,W64 0#64] 64);refine hK.o _ _ (SApp.intro (fun _=>⟨BKb.o.cl 3 2,BKb.o.cell 4 rfl (s*2) HE.o.1,BKb.o.cell 4 rfl (s*2+1) HE.o.2⟩) trivial) ?_;generalize wa.heap.size=V at *;generalize(wa.alloc (.cells #[.int .u8 0,W64 0#64] 64))=wb at *;clear hK K;intro hs;try simp only[Act.put,sA,sZ,sS]
 refine WLo 8 hs ?_;clear hs;intro K hK;obtain⟨r0,r1,fr0,fr1⟩:=BKb.o.r2 0 rfl;go_simp;have BKv:=Hd ((BKb.o.bs 0 0 (.int .u8 1)).bs 0 1 (W64 zn));clear r0 r1 fr0 fr1;refine hK.o _ _ SaF ?_;clear hK K;intro hs;try simp only[Act.put]
 clear hs;refine WLd ?_ _;try simp only[Exit.then]
 generalize((wb.setCell ⟨V,0,none⟩ (.int .u8 1)).setCell ⟨V,1,none⟩ (W64 zn))=wv at *;obtain⟨v0,v1⟩:=BKv.o.q2 0 rfl;obtain⟨q0,q1⟩:=BKv.o.q2 1 rfl;obtain⟨i0,i1⟩:=BKv.o.q2 3 rfl;go_wp2_with fail;refine(HIS.o _).mono ?_;rintro e w7 ⟨rfl,rfl⟩;cases t
 case false =>
  go_wp2;go_ret;refine⟨rfl,?_⟩;rw[<-HMM.o];exact BKv.o.drop.drop.drop.drop
 case true =>
  obtain⟨f0,f1⟩:=HF.o rfl;obtain⟨t,rfl⟩:=Int.eq_ofNat_of_zero_le f0;have kw:IntKind.i64.wrap ((m.at':Int)+(t:Int))=((m.at'+t:Nat):Int):=by rw[IntWalk.i64_in _ (by omega)];omega
  clear f0 f1;go_upto_region 9 with fail;have m1:=BKv.o.cell 4 rfl 1047 (mcL_end hok pk vd 1);have f1:=BKv.o.free 4 rfl 1047;have i5:=BKv.o.cl 3 5;refine WL.begin 9 (fun w'=>w'.cell? ⟨M,1047,none⟩=some (.int .i64 (m.at':Int))/\w'.cell? ⟨X,5,none⟩=some (.int .i64 (t:Int))) (fun _=>True) (by kernel_rfl) ⟨m1,i5⟩ trivial (fun hs=>?_);refine WL.tk [(0,[]),(1,[]),(2,[]),(3,[3]),(4,[]),(5,[5]),(6,[]),(7,[]),(8,[])] hs ?_;clear hs
  iterate 9
   (first|refine WLp ?_ ?_ ?_|refine WLl ?_ ?_ ?_);rotate_left
   ·intro w hc;go_simp<;>rfl
   simp only[Act.put,sA,sZ,sS]
  refine TKs.mk ?_;intro hs;refine WLo 9 hs ?_;clear hs;intro K hK;go_simp;refine hK.o _ _ SaF ?_;clear hK K;intro hs;try simp only[Act.put]
  clear hs;refine WLd ?_ _;try simp only[Exit.then]
  have BK1:=Hd (BKv.o.bs 4 1047 (.int .i64 ((m.at'+t:Nat):Int))).drew;go_wp2;go_ret;refine⟨rfl,?_⟩;have h:=BK1.o.drop.drop.drop.drop;rw[mcL_at hok]at h;rw[<-HMM.o];exact h
structure CpS(b o n cl:Nat)(l:List T.Ins)(Wk P c k:Nat)(x:PV)(xs:List PV)(i:T.Ins)(w0 w:World)(Y:Nat)(y:PV)(R:List Acc):Prop where
 bank:Bank w0 w (boxAcc Y 87 (PlL y)::y.regA::y.byA::boxAcc Wk 89 (wkL (.slice (some ⟨b,o,none⟩) n cl) P n c k x)::plsA P n c xs::(pvA xs++(x.regA::x.byA::R)))
 ck:CkS b o n cl l Wk P c k x xs i w0 w R
 rl:y.p.regs.length=11
section
variable{b o n cl:Nat}{l:List T.Ins}{Wk P c k:Nat}{x:PV}{xs:List PV}{i:T.Ins}{w0 w w':World}{R:List Acc}{Y:Nat}{y:PV}
theorem CkS.withBank(h:CkS b o n cl l Wk P c k x xs i w0 w R)(hb:Bank w0 w' (boxAcc Wk 89 (wkL (.slice (some ⟨b,o,none⟩) n cl) P n c k x)::plsA P n c xs::(pvA xs++(x.regA::x.byA::R)))):CkS b o n cl l Wk P c k x xs i w0 w' R:={ h with bank:=hb }
theorem CkS.copied(h:CkS b o n cl l Wk P c k x xs i w0 w R)(hy:y.p=x.p)(hb:Bank w w' [y.regA,y.byA]):CpS b o n cl l Wk P c k x xs i w0 (w'.alloc (.cells (PlL y).toArray 87)) w'.heap.size y R:=by
 have h1:=(bank_join h.bank hb).boxL (PlL y) 87 (by simp[PlL]);exact⟨h1,h.withBank (h1.drop.drop.drop),by rw[hy];exact h.wf.rl⟩
theorem with_bytes(p:T.Pl)(r:Int)(s:T.Sp):(p.with r s).bytes=p.bytes:=by unfold T.Pl.with;split<;>rfl
theorem with_len(p:T.Pl)(r:Int)(s:T.Sp)(h:p.regs.length=11):(p.with r s).regs.length=11:=by
 unfold T.Pl.with
 split
 ·simp[T.Pl.put,h]
 ·exact h
theorem CpS.with(h:CpS b o n cl l Wk P c k x xs i w0 w Y y R)(r:Nat)(hr:r<11)(s:T.Sp):Calls Tryz.prog 125 #[.pointer (some ⟨Y,0,none⟩),.int .i64 (r:Int),spv s] w fun e w'=>e=.returned (.tuple #[])/\∃y',y'.p=y.p.with (r:Int) s/\CpS b o n cl l Wk P c k x xs i w0 w' Y y' R:=by
 refine(with_any Y r s y 0 1 h.bank rfl rfl (by decide) hr h.rl).mono ?_;rintro e w' ⟨he,y',hp,hg,hc,hgb,hcb,htb,hb⟩;have e1:y'.byA=y.byA:=by unfold PV.byA;rw[hp,with_bytes,hgb,hcb,htb]
 refine⟨he,y',hp,?_,h.ck.withBank hb.drop.drop.drop,by rw[hp];exact with_len _ _ _ h.rl⟩;rw[e1];exact hb
theorem wp_cp{P':Program}{cd:Code}{Q:Exit->Act->World->Prop}{a:Act}(h:CpS b o n cl l Wk P c k x xs i w0 w Y y R)(hk:∀w',CpS b o n cl l Wk P c k x xs i w0 w' Y y R->cd.wp P' Q a w'):cd.wp P' Q a w:=hk w h
theorem CpS.cell(h:CpS b o n cl l Wk P c k x xs i w0 w Y y R)(j:Nat){v:Value}(hv:(PlL y)[j]?=some v):w.cell? ⟨Y,j,none⟩=some v:=h.bank.cell 0 rfl j hv
theorem CpS.call(h:CpS b o n cl l Wk P c k x xs i w0 w Y y R)(hs:Since w w'):CpS b o n cl l Wk P c k x xs i w0 w' Y y R:=⟨h.bank.call hs,h.ck.call hs,h.rl⟩
theorem CpS.inner(h:CpS b o n cl l Wk P c k x xs i w0 w Y y R):Bank w0 w (boxAcc Wk 89 (wkL (.slice (some ⟨b,o,none⟩) n cl) P n c k x)::plsA P n c xs::(pvA xs++(y.regA::y.byA::x.regA::x.byA::R))):=by
 refine h.bank.drop.permB ?_;have:=(List.perm_append_comm_assoc [y.regA,y.byA] (boxAcc Wk 89 (wkL (.slice (some ⟨b,o,none⟩) n cl) P n c k x)::plsA P n c xs::pvA xs) (x.regA::x.byA::R))
 simpa using this
theorem wfs_of{xs xs':List PV}(h:∀y∈xs,y.p.live=true->y.p.Wf){t:Nat}{q:T.Pl}(hq:q.Wf)(e:xs'.map PV.p=T.told (xs.map PV.p) t (some q)):∀y∈xs',y.p.live=true->y.p.Wf:=by
 have h1:T.AllWf (xs.map PV.p):=fun j hj=>by
  unfold T.plAt at hj ⊢;rw[List.getD_eq_getElem?_getD,List.getElem?_map]at hj ⊢;cases hx:xs[j]? with
  | none=>rw[hx]at hj;cases hj
  | some z=>rw[hx]at hj;exact h z (List.mem_of_getElem? hx) hj
 have h2:=T.told_wf h1 t (some q) (fun _ e=>by cases e;exact hq);rw[<-e]at h2;intro z hz hl;obtain⟨j,hj⟩:=List.mem_iff_getElem?.1 hz;have h3:=h2 j;unfold T.plAt at h3;rw[List.getD_eq_getElem?_getD,List.getElem?_map,hj]at h3;exact h3 hl
theorem told_len{xs xs':List PV}{t:Nat}{o:Option T.Pl}(e:xs'.map PV.p=T.told (xs.map PV.p) t o):xs'.length=xs.length:=by
 have:=congrArg List.length e;rw[T.told_length,List.length_map,List.length_map]at this;exact this
def CpP(b o n cl:Nat)(l:List T.Ins)(Wk P c k:Nat)(x:PV)(xs:List PV)(i:T.Ins)(w0:World)(R:List Acc)(t:Nat)(q:T.Pl)(e:Ending)(w':World):Prop:=e=.returned (.tuple #[])/\∃xs',xs'.map PV.p=T.told (xs.map PV.p) t (some q)/\CkS b o n cl l Wk P c k x xs' i w0 w' R
theorem CpS.told{t:Nat}(h:CkS b o n cl l Wk P c k x xs i w0 w R)(hy:y.p.Wf){xs':List PV}(hx:xs'.map PV.p=T.told (xs.map PV.p) t (some y.p))(hb:Bank w0 w' (boxAcc Wk 89 (wkL (.slice (some ⟨b,o,none⟩) n cl) P n c k x)::plsA P n c xs'::(pvA xs'++(y.regA::y.byA::x.regA::x.byA::R)))):CkS b o n cl l Wk P c k x xs' i w0 w' R :=
 ⟨hb.noZ.noZ,h.rd,h.hi,h.right,by rw[told_len hx];exact h.xl,h.ll,h.n4,wfs_of h.wfs hy hx,h.wf,h.fwd,h.next⟩
theorem CpS.ahead(h:CpS b o n cl l Wk P c k x xs i w0 w Y y R)(hy:y.p.Wf)(hk:k+1<n):Calls Tryz.prog 119 #[.pointer (some ⟨Wk,0,none⟩),PlV y] w (CpP b o n cl l Wk P c k x xs i w0 R (k+1) y.p):=by
 refine(ahead_any Wk P n c k _ y xs h.inner rfl rfl (by simp) (by simp) h.ck.xl h.ck.n4 h.ck.wfs hy hk).mono ?_;rintro e w' ⟨he,xs',hx,hb⟩;exact⟨he,xs',hx,CpS.told h.ck hy hx hb⟩
theorem CpS.afar(h:CpS b o n cl l Wk P c k x xs i w0 w Y y R)(hy:y.p.Wf)(h0:0<=i.off)(hk:(k:Int)+1+i.off<n):Calls Tryz.prog 122 #[.pointer (some ⟨Wk,0,none⟩),PlV y] w (CpP b o n cl l Wk P c k x xs i w0 R (k+1+i.off.toNat) y.p):=by
 obtain⟨t,ht⟩:=Int.eq_ofNat_of_zero_le h0;refine(afar_any b o cl l i t Wk P n c k _ y xs h.inner rfl rfl (by simp) (by simp) h.ck.xl h.ck.n4 h.ck.wfs hy rfl h.ck.rd h.ck.hi h.ck.ll ht (by omega)).mono ?_;rintro e w' ⟨he,xs',hx,hb⟩;have e2:k+1+i.off.toNat=k+1+t:=by rw[ht,Int.toNat_natCast]
 rw[<-e2]at hx;exact⟨he,xs',hx,CpS.told h.ck hy hx hb⟩
end
end Go.Proofs.YtfeipbgnjainlaaGreatDoor.K
