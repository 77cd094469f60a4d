/- TYo -/
import Derived.Test.YtfeipbgnjainlaaGreatDoorTp10
import Derived.Test.YtfeipbgnjainlaaGreatDoorTp4
import Derived.Test.YtfeipbgnjainlaaGreatDoorTp2
import Derived.Test.YtfeipbgnjainlaaGreatDoorTp26
import Derived.Test.YtfeipbgnjainlaaGreatDoorTp27
import Derived.Test.YtfeipbgnjainlaaGreatDoorTp25
set_option linter.unusedVariables false
set_option linter.unusedSimpArgs false
set_option maxRecDepth 100000
set_option maxHeartbeats 4000000
namespace Go.Proofs.YtfeipbgnjainlaaGreatDoor.K
open Go Go.RowKit Go.Maps Go.Sort
theorem tyNar_any(Q r:Nat)(s:T.Sp)(y:PV){w0 w:World}{L:List Acc}(iY ir:Nat)(hB:Bank w0 w L)(hiY:L[iY]?=some (boxAcc Q 87 (PlL y)))(hir:L[ir]?=some y.regA)(hne:iY≠ir)(hr:r<11)(hl:y.p.regs.length=11)(hkk:(y.p.reg (r:Int)).k=1\/(y.p.reg (r:Int)).k=4):Calls Tryz.prog 238 #[.int .i64 (r:Int),spv s,.pointer (some ⟨Q,0,none⟩)] w (WithP w0 L iY ir Q y (y.p.with (r:Int) s)):=by
 obtain⟨lo,hi⟩:=s;have hrl:r<y.p.regs.length:=by omega
 have B1:=Hd (hB.bx [W64 lo,W64 hi] 122);have HIY:=Hd (show(boxAcc w.heap.size 122 [W64 lo,W64 hi]::L)[iY+1]?=some (boxAcc Q 87 (PlL y))from hiY);have HIR:=Hd (show(boxAcc w.heap.size 122 [W64 lo,W64 hi]::L)[ir+1]?=some y.regA from hir);have HLY:=Hd (show L.set iY (boxAcc Q 87 (PlL y))=L from set_same' hiY);have HLR:=Hd (show ∀z,(L.set iY z).set ir y.regA=L.set iY z from fun z=>set_same' (by rw[List.getElem?_set_ne hne];exact hir));have y1:=B1.o.cell (iY+1) HIY.o 1 rfl;have y3:=B1.o.cell (iY+1) HIY.o 3 rfl;have fy3:=B1.o.free (iY+1) HIY.o 3;have s0:=B1.o.cl 0 0;have s1:=B1.o.cl 0 1;obtain⟨e0,e1,e2⟩:=knsL_reg (RdC.of B1.o (ir+1) HIR.o) hl r hr;have f1:=B1.o.rfree (ir+1) HIR.o (r*3+1);have f2:=B1.o.rfree (ir+1) HIR.o (r*3+2);have HRA:=Hd (reg_at y.p r hrl);have j0:(0:Int)<=(r:Int):=by omega
 have j1:(r:Int)<(11:Int):=by omega
 obtain⟨kn,hk⟩:∃kn,y.p.reg (r:Int)=kn:=⟨_,rfl⟩
 rw[hk]at e0 e1 e2 HRA hkk;have HW:=Hd (show y.p.with (r:Int) ⟨lo,hi⟩=if kn.k=1 then y.p.put (r:Int) ⟨1,⟨lo,hi⟩⟩else { y.p with least:=max y.p.least lo.toInt }by unfold T.Pl.with;rw[hk]);clear hB hiY hir hk;have hcv:∀w (z:BitVec 64),(convert 39 3 (W64 z)).run Tryz.prog w=.ok (.int .i64 z.toInt) w:=fun w z=>conv_W64_S64 (P:=Tryz.prog) (src:=39) (dst:=3) (w:=w) z Tryz.underlying39 Tryz.underlying3
 unfold spv;go_enter Tryz.func238,Tryz.ntmps238;go_upto_region 1 with fail;generalize w.heap.size=X at *;change Code.wp _ _ _ _ (w.alloc (.cells #[W64 lo,W64 hi] 122));generalize(w.alloc (.cells #[W64 lo,W64 hi] 122))=w1 at *;by_cases hk1:kn.k=1
 ·have HV:=Hd (HW.o.trans (if_pos hk1))
  have HK1:=Hd hk1;rw[hk1]at e0;clear hk1 hkk;go_wp2;go_end0;refine⟨rfl,⟨y.p.put (r:Int) ⟨1,⟨lo,hi⟩⟩,y.gr,y.cr,y.gb,y.cb,y.tb⟩,HV.o.symm,rfl,rfl,rfl,rfl,rfl,?_⟩;have h2:=(B1.o.rset (ir+1) HIR.o (r*3+1) (W64 lo)).rset (ir+1) (List.getElem?_set_self (List.getElem?_eq_some_iff.1 HIR.o).1) (r*3+1+1) (W64 hi);rw[List.set_set,show r*3+1+1=r*3+2 from rfl,knsL_set2 y.p.regs r hrl ⟨lo,hi⟩ 1 (by rw[<-HRA.o];exact HK1.o)]at h2;show Bank w0 _ ((L.set iY (boxAcc Q 87 (PlL y))).set ir _)
  rw[HLY.o];exact h2.drop
 ·have HV:=Hd (HW.o.trans (if_neg hk1))
  rw[hkk.resolve_left hk1]at e0;clear hk1 HW e1 e2 f1 f2 hkk;have hmx:∀w,(Builtin.max_ #[3,3] 3 #[.int .i64 y.p.least,S64 lo]).run Tryz.prog w=.ok (.int .i64 (max y.p.least lo.toInt)) w:=fun w=>by unfold S64;go_simp
  go_wp2;go_end0;refine⟨rfl,⟨{ y.p with least:=max y.p.least lo.toInt },y.gr,y.cr,y.gb,y.cb,y.tb⟩,HV.o.symm,rfl,rfl,rfl,rfl,rfl,?_⟩;show Bank w0 _ ((L.set iY _).set ir y.regA)
  rw[HLR.o];exact(B1.o.boxSet (iY+1) HIY.o 3 (.int .i64 (max y.p.least lo.toInt))).drop
theorem with_bytesT(p:T.Pl)(r:Int)(s:T.Sp):(p.with r s).bytes=p.bytes:=by unfold T.Pl.with;split<;>rfl
theorem with_lenT(p:T.Pl)(r:Int)(s:T.Sp)(h:p.regs.length=11):(p.with r s).regs.length=11:=by
 unfold T.Pl.with
 split
 ·simp[T.Pl.put,h]
 ·exact h
theorem WithP.own{w0 w':World}{Z:Nat}{z:PV}{r:Int}{s:T.Sp}{R:List Acc}{e:Ending}(h:WithP w0 (boxAcc Z 87 (PlL z)::z.regA::z.byA::R) 0 1 Z z (z.p.with r s) e w'):e=.returned (.tuple #[])/\∃z':PV,z'.p=z.p.with r s/\Bank w0 w' (boxAcc Z 87 (PlL z')::z'.regA::z'.byA::R):=by
 obtain⟨he,y',hp,hg,hc,hgb,hcb,htb,hb⟩:=h;have e1:y'.byA=z.byA:=by unfold PV.byA;rw[hp,with_bytesT,hgb,hcb,htb]
 refine⟨he,y',hp,?_⟩;rw[e1];exact hb
def EndP(w:World)(o:Option T.Pl)(e:Ending)(w':World):Prop:=∃(lv:Bool) (A:Option Addr) (n c:Nat) (B:Option Addr) (m d:Nat) (l:Int) (M:List Acc),e=.returned (.agg #[.bool lv,.slice A n c,.slice B m d,.int .i64 l])/\Bank w w' M/\OptA M o (.agg #[.bool lv,.slice A n c,.slice B m d,.int .i64 l])
theorem tyEnd_ok(y:PV)(i:T.Ins)(yes:Bool)(M N:T.Sp)(w:World)(hw:y.p.Wf)(hr:PRd w y)(hi:i.right=true)(ho:17<=i.op/\i.op<=27)(hM:T.asN y.p (y.p.reg i.dst)=(0,M))(hN:T.asN y.p (T.second i y.p)=(0,N)):Calls Tryz.prog 181 #[insV i,PlV y,.bool yes,spv M,spv N] w (EndP w (T.ended i y.p yes M N)):=by
 have hmf:=hmfT;have hf:=T.right_facts hi;obtain⟨m1,m2⟩:=T.asN_sp hw (hw.reg _) hM;obtain⟨n1,n2⟩:=T.asN_sp hw (T.second_right hw i) hN;obtain⟨op,nr,dst,src,u,off,imm,size⟩:=i;obtain⟨⟨d0,d1⟩,⟨s0,s1⟩,_⟩:=hf;simp only at d0 d1 s0 s1 ho hM hN m2 n2;obtain⟨d,rfl⟩:=Int.eq_ofNat_of_zero_le d0;obtain⟨s,rfl⟩:=Int.eq_ofNat_of_zero_le s0;have d11:d<11:=by omega
 have s11:s<11:=by omega
 have HKD:=Hd (show(y.p.reg (d:Int)).k=1\/(y.p.reg (d:Int)).k=4 from m2.imp And.left And.left)
 have HKS:=Hd (show ¬u=true->(y.p.reg (s:Int)).k=1\/(y.p.reg (s:Int)).k=4 from fun h=>by
  have h2:=n2.imp And.left And.left;rw[show T.second ⟨op,nr,(d:Int),(s:Int),u,off,imm,size⟩ y.p=y.p.reg (s:Int)by unfold T.second;exact if_neg h]at h2
  exact h2)
 have HO:=Hd ho;have HMR:=Hd m1;have HNR:=Hd n1;have HC:=Hd (fun w' (h:PRd w' y)=>tyOwn_any y w' hw.rl hw.bl h.1 h.2.1);have HR:=Hd hr;have HL:=Hd hw.rl;clear hw hr hi ho hM hN m1 m2 n1 n2 d0 d1 s0 s1;obtain⟨ma,mb⟩:=M;obtain⟨na,nb⟩:=N;have h0:=(bk4 w [.int .u8 op,.bool nr,.int .i64 (d:Int),.int .i64 (s:Int),.bool u,.int .i64 off,.int .i64 imm,.int .i64 size] 55 [.bool true,.slice (some ⟨y.gr,0,none⟩) 11 y.cr,.slice (some ⟨y.gb,0,none⟩) 512 y.cb,.int .i64 y.p.least] 87 [W64 ma,W64 mb] 122 [W64 na,W64 nb] 122).o.bx [.bool false,.slice none 0 0,.slice none 0 0,.int .i64 0] 87;simp only[World.size_alloc]at h0;have BK0:=Hd h0;clear h0;unfold PlV at HC ⊢;unfold insV insL spv;go_enter Tryz.func181,Tryz.ntmps181;go_upto_region 1 with fail;generalize w.heap.size=X at *;refine wp_hid BK0 (fun w1 BK0=>?_);have i0:=BK0.o.cl 4 0;have i1:=BK0.o.cl 4 1;obtain⟨m0,m1⟩:=BK0.o.q2 2 rfl;obtain⟨n0,n1⟩:=BK0.o.q2 1 rfl;go_wp2_with fail;refine(spIf_right op nr yes ⟨ma,mb⟩ ⟨na,nb⟩ _ HO.o HMR.o HNR.o).mono ?_;rintro e w3 ⟨rfl,hs⟩;have BK1:=Hd (BK0.o.call hs);clear hs i0 i1 m0 m1 n0 n1 BK0 HMR HNR;rcases hsif:T.sif op nr yes ⟨ma,mb⟩ ⟨na,nb⟩with _|⟨sa,sb⟩
 ·have hV:ifVal (ifV op nr yes ⟨ma,mb⟩ ⟨na,nb⟩)=.tuple #[.agg #[W64 0#64,W64 0#64],.agg #[W64 0#64,W64 0#64],.bool false]:=by unfold ifVal ifV;rw[hsif];rfl
  rw[hV];have HEN:=Hd (show T.ended ⟨op,nr,(d:Int),(s:Int),u,off,imm,size⟩ y.p yes ⟨ma,mb⟩ ⟨na,nb⟩=none by unfold T.ended;rw[hsif];rfl);clear hsif hV;go_upto_region 2 with fail;have h4:=(BK1.o.bx [W64 0#64,W64 0#64] 122).bx [W64 0#64,W64 0#64] 122;simp only[World.size_alloc]at h4;refine wp_hid (Hd h4) (fun w4 BK2=>?_);clear h4;obtain⟨a0,a1,a2,a3,fa0,fa1,fa2,fa3⟩:=BK2.o.r4 2 rfl;have BK3:=Hd ((((BK2.o.bs 2 0 (.bool false)).bs 2 1 (.slice none 0 0)).bs 2 2 (.slice none 0 0)).bs 2 3 (.int .i64 0));go_wp2;clear a0 a1 a2 a3 fa0 fa1 fa2 fa3;obtain⟨a0,a1,a2,a3⟩:=BK3.o.q4 2 rfl;refine bodyPost_ret (v:=.agg #[.bool false,.slice none 0 0,.slice none 0 0,.int .i64 0]) ?_ rfl ⟨_,_,_,_,_,_,_,_,[],rfl,BK3.o.sub (List.nil_sublist _),.inl ⟨HEN.o,rfl,rfl⟩⟩;simp[results,Tryz.results181,go_sem,a0,a1,a2,a3]
 ·have hV:ifVal (ifV op nr yes ⟨ma,mb⟩ ⟨na,nb⟩)=.tuple #[.agg #[W64 sa.lo,W64 sa.hi],.agg #[W64 sb.lo,W64 sb.hi],.bool true]:=by unfold ifVal ifV;rw[hsif];rfl
  rw[hV];have HES:=Hd (show T.ended ⟨op,nr,(d:Int),(s:Int),u,off,imm,size⟩ y.p yes ⟨ma,mb⟩ ⟨na,nb⟩=some (if u then y.p.with (d:Int) sa else if(s:Int)≠(d:Int)then(y.p.with (d:Int) sa).with (s:Int) sb else y.p)by unfold T.ended;rw[hsif];rfl);clear hsif hV;go_upto_region 4 with fail;have h4:=(BK1.o.bx [W64 sa.lo,W64 sa.hi] 122).bx [W64 sb.lo,W64 sb.hi] 122;simp only[World.size_alloc]at h4;generalize w3.heap.size=E at *;refine wp_hid (Hd h4) (fun w4 BK2=>?_);clear h4 BK1;obtain⟨p0,p1,p2,p3⟩:=BK2.o.q4 5 rfl;go_wp2_with fail;refine(HC.o _ (HR.o.since BK2.o.since)).mono ?_;rintro e w5 ⟨z,hz,rfl,hb⟩;have BK3:=Hd (bank_join BK2.o hb);have HZ:=Hd hz;have HZL:=Hd (show z.p.regs.length=11 by rw[hz];exact HL.o);clear hb hz BK2 p0 p1 p2 p3;unfold PlV;go_upto_region 6 with fail;refine wp_hid (Hd (BK3.o.bx [.bool true,.slice (some ⟨z.gr,0,none⟩) 11 z.cr,.slice (some ⟨z.gb,0,none⟩) 512 z.cb,.int .i64 z.p.least] 87)) (fun w6 BK4=>?_);generalize w5.heap.size=Z at *;clear BK3;have i2:=BK4.o.cl 9 2;have i3:=BK4.o.cl 9 3;have i4:=BK4.o.cl 9 4;obtain⟨x0,x1⟩:=BK4.o.q2 4 rfl;obtain⟨v0,v1⟩:=BK4.o.q2 3 rfl;by_cases hui:u=true
  case' pos =>
   rw[hui]at i4;have HEN:=Hd (show T.ended ⟨op,nr,(d:Int),(s:Int),u,off,imm,size⟩ y.p yes ⟨ma,mb⟩ ⟨na,nb⟩=some (z.p.with (d:Int) sa)by rw[HES.o,if_pos hui,HZ.o]);have HUI:=Hd hui;clear hui HES HKS;go_wp2_with fail;refine(tyNar_any Z d sa z 0 1 BK4.o rfl rfl (by decide) d11 HZL.o (by rw[HZ.o];exact HKD.o)).mono ?_;rintro e w7 hP;obtain⟨rfl,z2,hz2,hb⟩:=hP.own;have BK5:=Hd hb;have HEN:=Hd (HEN.o.trans (show some (z.p.with (d:Int) sa)=some z2.p by rw[<-hz2]));clear hP hb hz2 BK4 x0 x1 v0 v1 i2 i3;have i4:=BK5.o.cl 9 4;rw[HUI.o]at i4;go_upto_region 10 with fail
  case' neg =>
   rw[show u=false by simpa using hui]at i4;by_cases hsd:(s:Int)=(d:Int)
   case' pos =>
    have HEN:=Hd (show T.ended ⟨op,nr,(d:Int),(s:Int),u,off,imm,size⟩ y.p yes ⟨ma,mb⟩ ⟨na,nb⟩=some z.p by rw[HES.o,if_neg hui,if_neg (by simpa using hsd),HZ.o]);have esd:((s:Int) != (d:Int))=false:=by simpa using hsd
    clear hui hsd HES HKS;go_upto_region 10 with fail;generalize z=z2 at *;have BK5:=BK4
   case' neg =>
    have HEN:=Hd (show T.ended ⟨op,nr,(d:Int),(s:Int),u,off,imm,size⟩ y.p yes ⟨ma,mb⟩ ⟨na,nb⟩=some ((z.p.with (d:Int) sa).with (s:Int) sb)by rw[HES.o,if_neg hui,if_pos hsd,HZ.o]);have esd:((s:Int) != (d:Int))=true:=by simpa using hsd
    have HK2:=Hd (show((z.p.with (d:Int) sa).reg (s:Int)).k=1\/((z.p.with (d:Int) sa).reg (s:Int)).k=4 by
     rcases T.with_k z.p (d:Int) (s:Int) sa with h|⟨_,_,h⟩
     ·rw[h,HZ.o];exact HKS.o hui
     ·exact .inl h)
    have HUI:=Hd hui;clear hui hsd HES HKS;go_wp2_with fail;refine(tyNar_any Z d sa z 0 1 BK4.o rfl rfl (by decide) d11 HZL.o (by rw[HZ.o];exact HKD.o)).mono ?_;rintro e w7 hP;obtain⟨rfl,z1,hz1,hb⟩:=hP.own;have HZ1:=Hd hz1;have BK5:=Hd hb;clear hP hb hz1 BK4 x0 x1 v0 v1 i2 i3 i4;have i2:=BK5.o.cl 9 2;have i3:=BK5.o.cl 9 3;have i4:=BK5.o.cl 9 4;rw[show u=false by simpa using HUI.o]at i4;obtain⟨v0,v1⟩:=BK5.o.q2 3 rfl;go_wp2_with fail;refine(tyNar_any Z s sb z1 0 1 BK5.o rfl rfl (by decide) s11 (by rw[HZ1.o];exact with_lenT _ _ _ HZL.o) (by rw[HZ1.o];exact HK2.o)).mono ?_;rintro e w8 hP;obtain⟨rfl,z2,hz2,hb⟩:=hP.own;have HEN:=Hd (HEN.o.trans (show some ((z.p.with (d:Int) sa).with (s:Int) sb)=some z2.p by rw[hz2,HZ1.o]));have BK6:=Hd hb;clear hP hb hz2 BK5 v0 v1 i2 i3 i4;have BK5:=BK6;clear BK6;go_upto_region 10 with fail
  all_goals
   obtain⟨q0,q1,q2,q3⟩:=BK5.o.q4 0 rfl;obtain⟨a0,a1,a2,a3,fa0,fa1,fa2,fa3⟩:=BK5.o.r4 5 rfl;have BK6:=Hd ((((BK5.o.bs 5 0 (.bool true)).bs 5 1 (.slice (some ⟨z2.gr,0,none⟩) 11 z2.cr)).bs 5 2 (.slice (some ⟨z2.gb,0,none⟩) 512 z2.cb)).bs 5 3 (.int .i64 z2.p.least));go_wp2;clear q0 q1 q2 q3 a0 a1 a2 a3 fa0 fa1 fa2 fa3;obtain⟨a0,a1,a2,a3⟩:=BK6.o.q4 5 rfl;refine bodyPost_ret (v:=.agg #[.bool true,.slice (some ⟨z2.gr,0,none⟩) 11 z2.cr,.slice (some ⟨z2.gb,0,none⟩) 512 z2.cb,.int .i64 z2.p.least]) ?_ rfl ⟨_,_,_,_,_,_,_,_,[z2.regA,z2.byA],rfl,BK6.o.sub (.cons _ (.cons_cons _ (.cons_cons _ (List.nil_sublist _)))),.inr ⟨z2,HEN.o,rfl,rfl⟩⟩;simp[results,Tryz.results181,go_sem,a0,a1,a2,a3]
end Go.Proofs.YtfeipbgnjainlaaGreatDoor.K
