/- TCkH -/
import Derived.Test.YtfeipbgnjainlaaGreatDoorTp2
import Derived.Test.YtfeipbgnjainlaaGreatDoorTp32
set_option linter.unusedVariables false
set_option linter.unusedSimpArgs false
set_option maxRecDepth 100000
set_option maxHeartbeats 8000000
namespace Go.Proofs.YtfeipbgnjainlaaGreatDoor.K
open Go Go.RowKit Go.Maps Go.Sort
theorem CkS.ycap{b o n cl:Nat}{l:List T.Ins}{Wk P c k:Nat}{x:PV}{xs:List PV}{i:T.Ins}{w0 w:World}{R:List Acc}(h:CkS b o n cl l Wk P c k x xs i w0 w R):512<=x.cb:=by
 obtain⟨q,hq⟩:=List.mem_iff_getElem?.1 h.memB;exact h.bank.rcap q hq
theorem frameAt_range(u:T.Kn)(i:T.Ins): -9223372036854775808<=T.frameAt u i/\T.frameAt u i<9223372036854775808:=⟨(u.s.lo+T.wide i.off).le_toInt,(u.s.lo+T.wide i.off).toInt_lt⟩
theorem load_any{b o n cl:Nat}{l:List T.Ins}{Wk P c k:Nat}{x:PV}{xs:List PV}{i:T.Ins}{w0 w:World}{R:List Acc}(h:CkS b o n cl l Wk P c k x xs i w0 w R)(ho:i.op=14):Calls Tryz.prog 76 #[.pointer (some ⟨Wk,0,none⟩),insV i] w (StepP w0 (.slice (some ⟨b,o,none⟩) n cl) Wk P n c k (xs.map PV.p) R (T.cstep i x.p) i.off):=by
 obtain⟨⟨d0,d1⟩,⟨s0,s1⟩,⟨f0,f1⟩,_,hsz,_,_⟩:=T.right_facts h.right;have HSZ:=Hd (T.sized_cases (hsz (.inl ho)))
 have HV:=Hd (show T.cstep i x.p=if T.loadErr i x.p≠0 then(T.loadErr i x.p,none,none)else(0,some (x.p.put i.dst (T.loaded i)),none)by
  unfold T.cstep
  rw[if_pos ho])
 have HNX:=Hd (h.next ⟨by omega,by omega⟩);have HS:=Hd (h.box [.int .u8 i.op,.bool i.narrow,.int .i64 i.dst,.int .i64 i.src,.bool i.useImm,.int .i64 i.off,.int .i64 i.imm,.int .i64 i.size] 55 (by simp));have hl:x.p.regs.length=11:=h.wf.rl;clear h ho hsz;unfold insV insL;go_enter Tryz.func76,Tryz.ntmps76;go_upto_region 1 with fail;generalize w.heap.size=X at *;change Code.wp _ _ _ _ (w.alloc (.cells #[.int .u8 i.op,.bool i.narrow,.int .i64 i.dst,.int .i64 i.src,.bool i.useImm,.int .i64 i.off,.int .i64 i.imm,.int .i64 i.size] 55));generalize(w.alloc (.cells #[.int .u8 i.op,.bool i.narrow,.int .i64 i.dst,.int .i64 i.src,.bool i.useImm,.int .i64 i.off,.int .i64 i.imm,.int .i64 i.size] 55))=w1 at *;obtain⟨s,hss⟩:=Int.eq_ofNat_of_zero_le s0;have s11:s<11:=by omega
 have c4:=HS.o.at 4 rfl;have i3:=HS.o.cellR (.head _) 3 rfl;obtain⟨e0,e1,e2⟩:=knsL_reg HS.o.regs hl s s11;rw[hss]at i3;obtain⟨u,hu⟩:∃u,x.p.reg (s:Int)=u:=⟨_,rfl⟩
 have HU:=Hd (show u.right=true by rw[<-hu];exact HS.o.wf.reg _);rw[hu]at e0 e1 e2
 have HE:=Hd (show T.loadErr i x.p=if u.k=3 then T.readErr x.p.bytes (T.frameAt u i) i.size
   else if u.k=2 then(if(65535#64).ult u.s.hi then 112 else if u.s.lo.toInt+i.off<0\/x.p.least<u.s.hi.toInt+i.off+i.size then 112 else 0)
   else if(T.asN x.p u).1≠0 then(T.asN x.p u).1 else 111 by unfold T.loadErr;rw[hss,hu])
 clear hu hss;have z0:(0:Int)<=(s:Int):=by omega
 have z1:(s:Int)<(11:Int):=by omega
 have KEEP:=Hd (fun w' (S:Since w1 w')=>(show w'.cell? ⟨Wk,4,none⟩=some (.slice (some ⟨x.gr,0,none⟩) 11 x.cr)/\w'.cell? ⟨X,3,none⟩=some (.int .i64 (s:Int))/\w'.cell? ⟨x.gr,s*3,none⟩=some (.int .u8 u.k)/\w'.cell? ⟨x.gr,s*3+1,none⟩=some (W64 u.s.lo)/\w'.cell? ⟨x.gr,s*3+2,none⟩=some (W64 u.s.hi)from⟨S.keep c4,S.keep i3,S.keep e0,S.keep e1,S.keep e2⟩));have ST:=Hd (show Since w1 w1.drew from(Below.refl _ _).drew);have HS:=Hd HS.o.drew;go_upto_region 1 with fail;refine WL.begin 10 (fun w'=>w'.cell? ⟨Wk,4,none⟩=some (.slice (some ⟨x.gr,0,none⟩) 11 x.cr)/\w'.cell? ⟨X,3,none⟩=some (.int .i64 (s:Int))/\w'.cell? ⟨x.gr,s*3,none⟩=some (.int .u8 u.k)/\w'.cell? ⟨x.gr,s*3+1,none⟩=some (W64 u.s.lo)/\w'.cell? ⟨x.gr,s*3+2,none⟩=some (W64 u.s.hi)) (fun _=>True) (by kernel_rfl) (KEEP.o _ ST.o) trivial (fun hs=>?_);generalize w1.drew=w5 at *;refine WL.tk [(0,[]),(1,[]),(2,[]),(3,[]),(4,[4]),(5,[]),(6,[6]),(7,[]),(8,[8])] hs ?_;clear hs
 iterate 9
  (first|refine WLp ?_ ?_ ?_|refine WLl ?_ ?_ ?_);rotate_left
  ·intro w hc;go_simp<;>rfl
  simp only[Act.put,sA,sZ,sS]
 refine TKs.mk ?_;intro hs;refine WLo 9 hs ?_;clear hs;intro K hK;go_simp;have HS:=Hd (HS.o.box [.int .u8 0,W64 0#64,W64 0#64] 124 (by simp));have ST:=Hd (ST.o.alloc (.cells #[.int .u8 0,W64 0#64,W64 0#64] 124));refine hK.o _ _ (SApp.intro (fun _=>KEEP.o _ ST.o) trivial) ?_
 first|(generalize hgw:(w5.alloc (.cells #[.int .u8 0,W64 0#64,W64 0#64] 124))=w6 at *;generalize w5.heap.size=A at *;clear hgw)
 clear hK K;intro hs;try simp only[Act.put,sA,sZ,sS]
 refine WLo 10 hs ?_;clear hs;intro K hK;have b0:=HS.o.cellR (.head _) 0 rfl;have b1:=HS.o.cellR (.head _) 1 rfl;have b2:=HS.o.cellR (.head _) 2 rfl;have fb0:=HS.o.freeR (.head _) 0;have fb1:=HS.o.freeR (.head _) 1;have fb2:=HS.o.freeR (.head _) 2;go_simp;have HS:=Hd (((HS.o.set1 0 (.int .u8 u.k)).set1 1 (W64 u.s.lo)).set1 2 (W64 u.s.hi));clear b0 b1 b2 fb0 fb1 fb2;refine hK.o _ _ SaF ?_;clear hK K;intro hs;try simp only[Act.put]
 clear hs;refine WLd ?_ _;try simp only[Exit.then]
 go_upto_region 2 with fail;refine wp_ck (R:=boxAcc A 124 [.int .u8 u.k,W64 u.s.lo,W64 u.s.hi]::boxAcc X 55 [.int .u8 i.op,.bool i.narrow,.int .i64 i.dst,.int .i64 i.src,.bool i.useImm,.int .i64 i.off,.int .i64 i.imm,.int .i64 i.size]::R) HS.o (fun w2 h2=>?_);have HS:=Hd h2;have a0:=h2.cellR (.head _) 0 rfl;clear c4 i3 e0 e1 e2 h2 KEEP ST z0 z1;by_cases h3:u.k=3
 case' pos =>
  have HE2:=Hd (HE.o.trans (if_pos h3));have ek:(u.k==3)=true:=by simpa using h3
  clear HE h3;have HFA:=Hd (frameAt_range u i);have c5:=HS.o.at 5 rfl;have a1:=HS.o.cellR (.head _) 1 rfl;have a2:=HS.o.cellR (.head _) 2 rfl;have i0:=HS.o.cellR (.tail _ (.head _)) 0 rfl;have i1:=HS.o.cellR (.tail _ (.head _)) 1 rfl;have i2:=HS.o.cellR (.tail _ (.head _)) 2 rfl;have i3:=HS.o.cellR (.tail _ (.head _)) 3 rfl;have i4:=HS.o.cellR (.tail _ (.head _)) 4 rfl;have i5:=HS.o.cellR (.tail _ (.head _)) 5 rfl;have i6:=HS.o.cellR (.tail _ (.head _)) 6 rfl;have i7:=HS.o.cellR (.tail _ (.head _)) 7 rfl;have KEEP:=Hd (fun w' (S:Since w2 w')=>(show w'.cell? ⟨Wk,5,none⟩=some (.slice (some ⟨x.gb,0,none⟩) 512 x.cb)/\w'.cell? ⟨A,0,none⟩=some (.int .u8 u.k)/\w'.cell? ⟨A,1,none⟩=some (W64 u.s.lo)/\w'.cell? ⟨A,2,none⟩=some (W64 u.s.hi)/\w'.cell? ⟨X,0,none⟩=some (.int .u8 i.op)/\w'.cell? ⟨X,1,none⟩=some (.bool i.narrow)/\w'.cell? ⟨X,2,none⟩=some (.int .i64 i.dst)/\w'.cell? ⟨X,3,none⟩=some (.int .i64 i.src)/\w'.cell? ⟨X,4,none⟩=some (.bool i.useImm)/\w'.cell? ⟨X,5,none⟩=some (.int .i64 i.off)/\w'.cell? ⟨X,6,none⟩=some (.int .i64 i.imm)/\w'.cell? ⟨X,7,none⟩=some (.int .i64 i.size)from⟨S.keep c5,S.keep a0,S.keep a1,S.keep a2,S.keep i0,S.keep i1,S.keep i2,S.keep i3,S.keep i4,S.keep i5,S.keep i6,S.keep i7⟩));have ST:=Hd (show Since w2 w2.drew from(Below.refl _ _).drew);by_cases hre:T.readErr x.p.bytes (T.frameAt u i) i.size=0
  case' pos =>
   have HRE:=Hd hre;clear hre;go_upto_region 6 with fail;have HS:=Hd HS.o.drew;refine WL.begin 11 (fun w'=>w'.cell? ⟨Wk,5,none⟩=some (.slice (some ⟨x.gb,0,none⟩) 512 x.cb)/\w'.cell? ⟨A,0,none⟩=some (.int .u8 u.k)/\w'.cell? ⟨A,1,none⟩=some (W64 u.s.lo)/\w'.cell? ⟨A,2,none⟩=some (W64 u.s.hi)/\w'.cell? ⟨X,0,none⟩=some (.int .u8 i.op)/\w'.cell? ⟨X,1,none⟩=some (.bool i.narrow)/\w'.cell? ⟨X,2,none⟩=some (.int .i64 i.dst)/\w'.cell? ⟨X,3,none⟩=some (.int .i64 i.src)/\w'.cell? ⟨X,4,none⟩=some (.bool i.useImm)/\w'.cell? ⟨X,5,none⟩=some (.int .i64 i.off)/\w'.cell? ⟨X,6,none⟩=some (.int .i64 i.imm)/\w'.cell? ⟨X,7,none⟩=some (.int .i64 i.size)) (fun _=>True) (by kernel_rfl) (KEEP.o _ ST.o) trivial (fun hs=>?_);refine WL.tk [(0,[]),(1,[]),(2,[]),(3,[]),(4,[10,4]),(5,[10,7,5]),(6,[10,7,6]),(8,[]),(9,[10,9])] hs ?_;clear hs
   iterate 9
    (first|refine WLp ?_ ?_ ?_|refine WLl ?_ ?_ ?_);rotate_left
    ·intro w hc;go_simp<;>rfl
    simp only[Act.put,sA,sZ,sS]
   refine TKs.mk ?_;intro hs;refine WLo 7 hs ?_;clear hs;intro K hK;go_simp;refine(frameC_any u i _).mono ?_;rintro e wk ⟨rfl,hs⟩;have HS:=Hd (HS.o.call hs);have ST:=Hd (ST.o.add hs);clear hs;refine hK.o _ _ (SApp.intro (fun _=>KEEP.o _ ST.o) trivial) ?_;clear hK K;intro hs;try simp only[Act.put,sA,sZ,sS]
   refine WLo 10 hs ?_;clear hs;intro K hK;go_simp;refine(stkRead_any x.gb 0 x.cb (T.frameAt u i) i.size x.p.bytes _ HFA.o.1 HFA.o.2 HS.o.wf.bl HS.o.ycap HS.o.bytes.bo).mono ?_;rintro e wk ⟨rfl,hs⟩;have HS:=Hd (HS.o.call hs);have ST:=Hd (ST.o.add hs);clear hs;refine hK.o _ _ (SApp.intro (fun _=>KEEP.o _ ST.o) trivial) ?_;clear hK K;intro hs;try simp only[Act.put,sA,sZ,sS]
   refine WLo 11 hs ?_;clear hs;intro K hK;go_simp;refine(mustC_any _ _).mono ?_;rintro e wm (⟨_,rfl,rfl⟩|⟨hn,_⟩)
   case inr=>exact absurd HRE.o hn
   refine hK.o _ _ SaF ?_;clear hK K;intro hs;try simp only[Act.put,sA,sZ,sS]
   clear hs;refine WLd ?_ _;try simp only[Exit.then]
   have HLE:=Hd (HE2.o.trans HRE.o);go_upto_region 10 with fail;refine wp_ck (R:=boxAcc A 124 [.int .u8 u.k,W64 u.s.lo,W64 u.s.hi]::boxAcc X 55 [.int .u8 i.op,.bool i.narrow,.int .i64 i.dst,.int .i64 i.src,.bool i.useImm,.int .i64 i.off,.int .i64 i.imm,.int .i64 i.size]::R) HS.o (fun w8 h8=>?_)
  case' neg =>
   have HRE:=Hd hre;have HV2:=Hd (show(T.cstep i x.p).1=T.readErr x.p.bytes (T.frameAt u i) i.size by rw[HV.o,HE2.o,if_pos hre]);clear hre;go_upto_region 6 with fail;have HS:=Hd HS.o.drew;refine WL.begin 11 (fun w'=>w'.cell? ⟨Wk,5,none⟩=some (.slice (some ⟨x.gb,0,none⟩) 512 x.cb)/\w'.cell? ⟨A,0,none⟩=some (.int .u8 u.k)/\w'.cell? ⟨A,1,none⟩=some (W64 u.s.lo)/\w'.cell? ⟨A,2,none⟩=some (W64 u.s.hi)/\w'.cell? ⟨X,0,none⟩=some (.int .u8 i.op)/\w'.cell? ⟨X,1,none⟩=some (.bool i.narrow)/\w'.cell? ⟨X,2,none⟩=some (.int .i64 i.dst)/\w'.cell? ⟨X,3,none⟩=some (.int .i64 i.src)/\w'.cell? ⟨X,4,none⟩=some (.bool i.useImm)/\w'.cell? ⟨X,5,none⟩=some (.int .i64 i.off)/\w'.cell? ⟨X,6,none⟩=some (.int .i64 i.imm)/\w'.cell? ⟨X,7,none⟩=some (.int .i64 i.size)) (fun _=>True) (by kernel_rfl) (KEEP.o _ ST.o) trivial (fun hs=>?_);refine WL.tk [(0,[]),(1,[]),(2,[]),(3,[]),(4,[10,4]),(5,[10,7,5]),(6,[10,7,6]),(8,[]),(9,[10,9])] hs ?_;clear hs
   iterate 9
    (first|refine WLp ?_ ?_ ?_|refine WLl ?_ ?_ ?_);rotate_left
    ·intro w hc;go_simp<;>rfl
    simp only[Act.put,sA,sZ,sS]
   refine TKs.mk ?_;intro hs;refine WLo 7 hs ?_;clear hs;intro K hK;go_simp;refine(frameC_any u i _).mono ?_;rintro e wk ⟨rfl,hs⟩;have HS:=Hd (HS.o.call hs);have ST:=Hd (ST.o.add hs);clear hs;refine hK.o _ _ (SApp.intro (fun _=>KEEP.o _ ST.o) trivial) ?_;clear hK K;intro hs;try simp only[Act.put,sA,sZ,sS]
   refine WLo 10 hs ?_;clear hs;intro K hK;go_simp;refine(stkRead_any x.gb 0 x.cb (T.frameAt u i) i.size x.p.bytes _ HFA.o.1 HFA.o.2 HS.o.wf.bl HS.o.ycap HS.o.bytes.bo).mono ?_;rintro e wk ⟨rfl,hs⟩;have HS:=Hd (HS.o.call hs);have ST:=Hd (ST.o.add hs);clear hs;refine hK.o _ _ (SApp.intro (fun _=>KEEP.o _ ST.o) trivial) ?_;clear hK K;intro hs;try simp only[Act.put,sA,sZ,sS]
   refine WLo 11 hs ?_;clear hs;intro K hK;go_simp;refine(mustC_any _ _).mono ?_;rintro e wm (⟨hn,_⟩|⟨_,rfl,rfl⟩)
   case inl=>exact absurd hn HRE.o
   exact⟨rfl,HS.o.noBox.noBox.bad rfl HV2.o HRE.o⟩
 case' neg =>
  have HE2:=Hd (HE.o.trans (if_neg h3));have e3:(u.k==3)=false:=by simpa using h3
  clear HE h3;by_cases h2:u.k=2
  case' pos =>
   have HE3:=Hd (HE2.o.trans (if_pos h2));have e2:(u.k==2)=true:=by simpa using h2
   have hur:u.s.right=true:=by rw[<-T.Kn.right_12 (.inr h2)];exact HU.o
   rw[T.Sp.right_iff]at hur;clear HE2 h2;have a1:=HS.o.cellR (.head _) 1 rfl;have a2:=HS.o.cellR (.head _) 2 rfl;by_cases hb:(65535#64).ult u.s.hi=true
   case' pos =>
    have HV2:=Hd (show(T.cstep i x.p).1=112 by rw[HV.o,HE3.o,if_pos hb];rfl);have hd:decide (65535#64<u.s.hi)=true:=hb;clear hb;go_wp2_with fail;refine(fail_yes 112 _).mono ?_;rintro e wm ⟨rfl,rfl⟩;exact⟨rfl,HS.o.noBox.noBox.bad rfl HV2.o (by decide)⟩
   case' neg =>
    have HE4:=Hd (HE3.o.trans (if_neg hb));have hb2:(65535#64).ult u.s.hi=false:=by simpa using hb
    have hin:u.s.hi.toNat<=65535:=by
     have:¬(65535:Nat)<u.s.hi.toNat:=by simpa [BitVec.ult]using hb2
     omega
    have ehi:u.s.hi.toInt=(u.s.hi.toNat:Int):=BitVec.toInt_eq_toNat_of_lt (by omega);have elo:u.s.lo.toInt=(u.s.lo.toNat:Int):=BitVec.toInt_eq_toNat_of_lt (by omega);obtain⟨LO,hLO⟩:∃z,u.s.lo.toInt=z:=⟨_,rfl⟩
    obtain⟨HI,hHI⟩:∃z,u.s.hi.toInt=z:=⟨_,rfl⟩
    have r1:0<=LO/\LO<=65535:=by omega
    have r2:0<=HI/\HI<=65535:=by omega
    have r3:=HSZ.o;have kw1:IntKind.i64.wrap (LO+i.off)=LO+i.off:=IntWalk.i64_in _ (by omega);have kw2:IntKind.i64.wrap (HI+i.off)=HI+i.off:=IntWalk.i64_in _ (by omega);have kw3:IntKind.i64.wrap (HI+i.off+i.size)=HI+i.off+i.size:=IntWalk.i64_in _ (by omega);have hal:∀t,binOp .add t (S64 u.s.lo) (.int .i64 i.off)=pure (.int .i64 (LO+i.off)):=fun t=>by simp only[S64,hLO,binOp_add,Op.intArith,kw1]
    have hah:∀t,binOp .add t (S64 u.s.hi) (.int .i64 i.off)=pure (.int .i64 (HI+i.off)):=fun t=>by simp only[S64,hHI,binOp_add,Op.intArith,kw2]
    rw[hLO,hHI]at HE4;have hd:decide (65535#64<u.s.hi)=false:=hb2;clear hb hb2 HE3 hin ehi elo hLO hHI r1 r2 r3 hur;go_wp2_with fail;refine(fail_no 112 _).mono ?_;rintro e wm ⟨rfl,rfl⟩;go_upto_region 9 with fail;clear hd;have i5:=HS.o.cellR (.tail _ (.head _)) 5 rfl;have i7:=HS.o.cellR (.tail _ (.head _)) 7 rfl;have c6:=HS.o.at 6 rfl;have HS:=Hd HS.o.drew;by_cases hc1:LO+i.off<0
    case' pos =>
     have HV2:=Hd (show(T.cstep i x.p).1=112 by rw[HV.o,HE4.o,if_pos (show LO+i.off<0\/x.p.least<HI+i.off+i.size from .inl hc1)];rfl);refine WL.begin 26 (fun w'=>w'.cell? ⟨A,1,none⟩=some (W64 u.s.lo)/\w'.cell? ⟨A,2,none⟩=some (W64 u.s.hi)/\w'.cell? ⟨X,5,none⟩=some (.int .i64 i.off)/\w'.cell? ⟨X,7,none⟩=some (.int .i64 i.size)/\w'.cell? ⟨Wk,6,none⟩=some (.int .i64 x.p.least)) (fun _=>True) (by kernel_rfl) ⟨a1,a2,i5,i7,c6⟩ trivial (fun hs=>?_);refine WL.tk [(0,[]),(1,[]),(2,[8,7,6,3,2]),(3,[]),(4,[]),(5,[8,7,6,5]),(6,[]),(7,[]),(8,[])] hs ?_;clear hs
     iterate 9
      (first|refine WLp ?_ ?_ ?_|refine WLl ?_ ?_ ?_);rotate_left
      ·intro w hc;go_simp<;>rfl
      simp only[Act.put,sA,sZ,sS]
     refine TKs.mk ?_;intro hs;refine WL.tp (i:=9) (v:=undef) rfl (by kernel_rfl) (fun _ _ _ h=>h) hs (Or.inr ⟨by kernel_rfl,rfl⟩) ?_;clear hs;intro hs;simp only[Act.put,sA,sZ,sS];refine WL.tp (i:=10) (v:=undef) rfl (by kernel_rfl) (fun _ _ _ h=>h) hs (Or.inr ⟨by kernel_rfl,rfl⟩) ?_;clear hs;intro hs;simp only[Act.put,sA,sZ,sS];refine WL.tp (i:=11) (v:=undef) rfl (by kernel_rfl) (fun _ _ _ h=>h) hs (Or.inr ⟨by kernel_rfl,rfl⟩) ?_;clear hs;intro hs;simp only[Act.put,sA,sZ,sS];refine WL.tp (i:=12) (v:=undef) rfl (by kernel_rfl) (fun _ _ _ h=>h) hs (Or.inr ⟨by kernel_rfl,rfl⟩) ?_;clear hs;intro hs;simp only[Act.put,sA,sZ,sS];refine WL.tp (i:=13) (v:=undef) rfl (by kernel_rfl) (fun _ _ _ h=>h) hs (Or.inr ⟨by kernel_rfl,rfl⟩) ?_;clear hs;intro hs;simp only[Act.put,sA,sZ,sS];refine WL.tp (i:=14) (v:=undef) rfl (by kernel_rfl) (fun _ _ _ h=>h) hs (Or.inr ⟨by kernel_rfl,rfl⟩) ?_;clear hs;intro hs;simp only[Act.put,sA,sZ,sS];refine WL.tp (i:=15) (v:=undef) rfl (by kernel_rfl) (fun _ _ _ h=>h) hs (Or.inr ⟨by kernel_rfl,rfl⟩) ?_;clear hs;intro hs;simp only[Act.put,sA,sZ,sS];refine WL.tp (i:=16) (v:=undef) rfl (by kernel_rfl) (fun _ _ _ h=>h) hs (Or.inr ⟨by kernel_rfl,rfl⟩) ?_;clear hs;intro hs;simp only[Act.put,sA,sZ,sS];refine WL.tp (i:=17) (v:=undef) rfl (by kernel_rfl) (fun _ _ _ h=>h) hs (Or.inr ⟨by kernel_rfl,rfl⟩) ?_;clear hs;intro hs;simp only[Act.put,sA,sZ,sS];refine WL.tp (i:=18) (v:=undef) rfl (by kernel_rfl) (fun _ _ _ h=>h) hs (Or.inr ⟨by kernel_rfl,rfl⟩) ?_;clear hs;intro hs;simp only[Act.put,sA,sZ,sS];refine WL.tp (i:=19) (v:=undef) rfl (by kernel_rfl) (fun _ _ _ h=>h) hs (Or.inr ⟨by kernel_rfl,rfl⟩) ?_;clear hs;intro hs;simp only[Act.put,sA,sZ,sS];refine WL.tp (i:=20) (v:=undef) rfl (by kernel_rfl) (fun _ _ _ h=>h) hs (Or.inr ⟨by kernel_rfl,rfl⟩) ?_;clear hs;intro hs;simp only[Act.put,sA,sZ,sS];refine WL.tp (i:=21) (v:=undef) rfl (by kernel_rfl) (fun _ _ _ h=>h) hs (Or.inr ⟨by kernel_rfl,rfl⟩) ?_;clear hs;intro hs;simp only[Act.put,sA,sZ,sS];refine WL.tp (i:=22) (v:=undef) rfl (by kernel_rfl) (fun _ _ _ h=>h) hs (Or.inr ⟨by kernel_rfl,rfl⟩) ?_;clear hs;intro hs;simp only[Act.put,sA,sZ,sS];refine WL.tp (i:=23) (v:=undef) rfl (by kernel_rfl) (fun _ _ _ h=>h) hs (Or.inr ⟨by kernel_rfl,rfl⟩) ?_;clear hs;intro hs;simp only[Act.put,sA,sZ,sS];refine WL.tp (i:=24) (v:=undef) rfl (by kernel_rfl) (fun _ _ _ h=>h) hs (Or.inr ⟨by kernel_rfl,rfl⟩) ?_;clear hs;intro hs;simp only[Act.put,sA,sZ,sS];refine WL.tk [(25,[])] hs ?_;clear hs
     iterate 1
      (first|refine WLp ?_ ?_ ?_|refine WLl ?_ ?_ ?_);rotate_left
      ·intro w hc;go_simp<;>rfl
      simp only[Act.put,sA,sZ,sS]
     refine TKs.mk ?_;intro hs;refine WLo 26 hs ?_;clear hs;intro K hK;go_simp;refine(fail_yes 112 _).mono ?_;rintro e wm ⟨rfl,rfl⟩;exact⟨rfl,HS.o.noBox.noBox.bad rfl HV2.o (by decide)⟩
    case' neg =>
     have hk1:0<=LO+i.off:=by omega
     by_cases hc2:x.p.least<HI+i.off+i.size
     case' pos =>
      have HV2:=Hd (show(T.cstep i x.p).1=112 by rw[HV.o,HE4.o,if_pos (show LO+i.off<0\/x.p.least<HI+i.off+i.size from .inr hc2)];rfl);refine WL.begin 26 (fun w'=>w'.cell? ⟨A,1,none⟩=some (W64 u.s.lo)/\w'.cell? ⟨A,2,none⟩=some (W64 u.s.hi)/\w'.cell? ⟨X,5,none⟩=some (.int .i64 i.off)/\w'.cell? ⟨X,7,none⟩=some (.int .i64 i.size)/\w'.cell? ⟨Wk,6,none⟩=some (.int .i64 x.p.least)) (fun _=>True) (by kernel_rfl) ⟨a1,a2,i5,i7,c6⟩ trivial (fun hs=>?_);refine WL.tk [(0,[]),(1,[]),(2,[8,7,6,3,2]),(3,[]),(4,[]),(5,[8,7,6,5]),(6,[]),(7,[]),(8,[]),(9,[]),(10,[]),(11,[25,24,18,15,12,11]),(12,[]),(13,[]),(14,[25,24,18,15,14]),(15,[]),(16,[]),(17,[25,24,18,17]),(18,[]),(19,[]),(20,[]),(21,[]),(22,[]),(23,[25,24,23]),(24,[]),(25,[])] hs ?_;clear hs
      iterate 26
       (first|refine WLp ?_ ?_ ?_|refine WLl ?_ ?_ ?_);rotate_left
       ·intro w hc;go_simp<;>rfl
       simp only[Act.put,sA,sZ,sS]
      refine TKs.mk ?_;intro hs;refine WLo 26 hs ?_;clear hs;intro K hK;go_simp;refine(fail_yes 112 _).mono ?_;rintro e wm ⟨rfl,rfl⟩;exact⟨rfl,HS.o.noBox.noBox.bad rfl HV2.o (by decide)⟩
     case' neg =>
      have HLE:=Hd (HE4.o.trans (if_neg (show ¬(LO+i.off<0\/x.p.least<HI+i.off+i.size)by omega)));have hk2:HI+i.off+i.size<=x.p.least:=by omega
      refine WL.begin 26 (fun w'=>w'.cell? ⟨A,1,none⟩=some (W64 u.s.lo)/\w'.cell? ⟨A,2,none⟩=some (W64 u.s.hi)/\w'.cell? ⟨X,5,none⟩=some (.int .i64 i.off)/\w'.cell? ⟨X,7,none⟩=some (.int .i64 i.size)/\w'.cell? ⟨Wk,6,none⟩=some (.int .i64 x.p.least)) (fun _=>True) (by kernel_rfl) ⟨a1,a2,i5,i7,c6⟩ trivial (fun hs=>?_);refine WL.tk [(0,[]),(1,[]),(2,[8,7,6,3,2]),(3,[]),(4,[]),(5,[8,7,6,5]),(6,[]),(7,[]),(8,[]),(9,[]),(10,[]),(11,[25,24,18,15,12,11]),(12,[]),(13,[]),(14,[25,24,18,15,14]),(15,[]),(16,[]),(17,[25,24,18,17]),(18,[]),(19,[]),(20,[]),(21,[]),(22,[]),(23,[25,24,23]),(24,[]),(25,[])] hs ?_;clear hs
      iterate 26
       (first|refine WLp ?_ ?_ ?_|refine WLl ?_ ?_ ?_);rotate_left
       ·intro w hc;go_simp<;>rfl
       simp only[Act.put,sA,sZ,sS]
      refine TKs.mk ?_;intro hs;refine WLo 26 hs ?_;clear hs;intro K hK;go_simp;refine(fail_no 112 _).mono ?_;rintro e wm ⟨rfl,rfl⟩;refine hK.o _ _ SaF ?_;clear hK K;intro hs;try simp only[Act.put,sA,sZ,sS]
      clear hs;refine WLd ?_ _;try simp only[Exit.then]
      clear hc1 hk1 hc2 hk2 kw1 kw2 kw3 hal hah a0 a1 a2 i5 i7 c6;go_upto_region 10 with fail;refine wp_ck (R:=boxAcc A 124 [.int .u8 u.k,W64 u.s.lo,W64 u.s.hi]::boxAcc X 55 [.int .u8 i.op,.bool i.narrow,.int .i64 i.dst,.int .i64 i.src,.bool i.useImm,.int .i64 i.off,.int .i64 i.imm,.int .i64 i.size]::R) HS.o (fun w8 h8=>?_)
  case' neg =>
   have HE3:=Hd (HE2.o.trans (if_neg h2));have e2:(u.k==2)=false:=by simpa using h2
   clear HE2 h2;have a1:=HS.o.cellR (.head _) 1 rfl;have a2:=HS.o.cellR (.head _) 2 rfl;go_wp2_with fail;refine(numberC_any Wk x.p.least u _ (HS.o.at 6 rfl) HS.o.wf.l0 HS.o.wf.ll).mono ?_;rintro e wm (⟨hz,rfl,hs⟩|⟨hz,rfl,hs⟩)
   case inr=>exact⟨rfl,(HS.o.call hs).noBox.noBox.bad rfl (by rw[HV.o,HE3.o,T.asN,<-T.asN,asN_numR,if_pos hz,if_pos hz]) hz⟩
   have HV2:=Hd (show(T.cstep i x.p).1=111 by rw[HV.o,HE3.o,asN_numR,hz];simp);have HS:=Hd (HS.o.call hs);clear hz hs a0 a1 a2;go_wp2;exact⟨rfl,HS.o.noBox.noBox.bad rfl HV2.o (by decide)⟩
 all_goals
  have HS:=Hd h8;have HV2:=Hd (show T.cstep i x.p=(0,some (x.p.put i.dst (T.loaded i)),none)by rw[HV.o,HLE.o];simp);have r3:=HSZ.o;obtain⟨m,hm⟩:∃m:Nat,64-8*i.size=(m:Int):=⟨(64-8*i.size).toNat,by omega⟩
  have HKL:=Hd (show T.loaded i=⟨1,⟨0#64,T.ones >>> m⟩⟩by unfold T.loaded;rw[hm,Int.toNat_natCast];rfl);have HKR:=Hd (show(T.loaded i).right=true by rw[HKL.o,T.Kn.right_12 (.inl rfl),T.Sp.right_iff];simp);have kw1:IntKind.i64.wrap (8*i.size)=8*i.size:=IntWalk.i64_in _ (by omega);have kw2:IntKind.i64.wrap (64-8*i.size)=(m:Int):=by rw[IntWalk.i64_in _ (by omega),hm]
  have hsh:∀t,binOp .shr t (.int .u64 18446744073709551615) (.int .i64 (m:Int))=pure (W64 (T.ones >>> m)):=fun t=>W64_shr' t T.ones .i64 m
  obtain⟨d,hdd⟩:=Int.eq_ofNat_of_zero_le d0;have d11:d<11:=by omega
  have c4:=HS.o.at 4 rfl;have i2:=HS.o.cellR (.tail _ (.head _)) 2 rfl;have i7:=HS.o.cellR (.tail _ (.head _)) 7 rfl;rw[hdd]at i2;have HDD:=Hd hdd;have z0:(0:Int)<=(d:Int):=by omega
  have z1:(d:Int)<(11:Int):=by omega
  obtain⟨e0,e1,e2⟩:=knsL_reg HS.o.regs hl d d11;have f0:=HS.o.regFree (d*3);have f1:=HS.o.regFree (d*3+1);have f2:=HS.o.regFree (d*3+2);have HS2:=Hd (HS.o.putReg d d11 (T.loaded i) HKR.o).drew;rw[HKL.o]at HS2;clear r3 hm hdd;refine WL.begin 15 (fun w'=>w'.cell? ⟨Wk,4,none⟩=some (.slice (some ⟨x.gr,0,none⟩) 11 x.cr)/\w'.cell? ⟨X,2,none⟩=some (.int .i64 (d:Int))/\w'.cell? ⟨X,7,none⟩=some (.int .i64 i.size)) (fun _=>True) (by kernel_rfl) ⟨c4,i2,i7⟩ trivial (fun hs=>?_);refine WL.tk [(0,[]),(1,[]),(2,[]),(3,[]),(4,[4]),(5,[]),(6,[6]),(7,[]),(8,[8]),(9,[]),(10,[]),(11,[]),(12,[]),(13,[]),(14,[])] hs ?_;clear hs
  iterate 15
   (first|refine WLp ?_ ?_ ?_|refine WLl ?_ ?_ ?_);rotate_left
   ·intro w hc;go_simp<;>rfl
   simp only[Act.put,sA,sZ,sS]
  refine TKs.mk ?_;intro hs;refine WLo 15 hs ?_;clear hs;intro K hK;go_simp;refine hK.o _ _ SaF ?_;clear hK K;intro hs;try simp only[Act.put]
  clear hs;refine WLd ?_ _;try simp only[Exit.then]
  clear c4 i2 i7 e0 e1 e2 f0 f1 f2 kw1 kw2 hsh;go_upto_region 11 with fail;refine wp_ck (R:=boxAcc A 124 [.int .u8 u.k,W64 u.s.lo,W64 u.s.hi]::boxAcc X 55 [.int .u8 i.op,.bool i.narrow,.int .i64 i.dst,.int .i64 i.src,.bool i.useImm,.int .i64 i.off,.int .i64 i.imm,.int .i64 i.size]::R) HS2.o (fun w9 h9=>?_);have c3:=h9.at 3 rfl;have c4:=h9.at 4 rfl;have c5:=h9.at 5 rfl;have c6:=h9.at 6 rfl;have HS9:=Hd h9;clear h9;go_wp2_with fail;refine(HS9.o.ahead HNX.o).mono ?_;rintro e wz hst;obtain⟨va,vb,vd,ve,⟨_,rfl,xs',hx,hb⟩|⟨hn,_⟩⟩:=hst.noZ.noZ
  case inr=>exact absurd rfl hn
  have HX:=Hd hx;have HB:=Hd hb;clear hst hx hb c3 c4 c5 c6;go_wp2;go_end0;exact⟨va,vb,vd,ve,.inl ⟨by rw[HV2.o],rfl,xs',by rw[HV2.o,HDD.o,HKL.o];exact HX.o,HB.o⟩⟩
end Go.Proofs.YtfeipbgnjainlaaGreatDoor.K
