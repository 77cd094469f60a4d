/- TExE -/
import Derived.Test.YtfeipbgnjainlaaGreatDoorTp10
import Derived.Test.YtfeipbgnjainlaaGreatDoorTp2
import Derived.Test.YtfeipbgnjainlaaGreatDoorTp4
import Derived.Test.YtfeipbgnjainlaaGreatDoorTp27
set_option linter.unusedVariables false
set_option linter.unusedSimpArgs false
set_option maxRecDepth 100000
set_option maxHeartbeats 8000000
namespace Go.Proofs.YtfeipbgnjainlaaGreatDoor.K
open Go Go.RowKit Go.Maps Go.Sort
theorem exMove_ok{M:Nat}{m:T.Mc}{pk vd:Value}{w0 w:World}{L:List Acc}(i:T.Ins)(hB:Bank w0 w (boxAcc M 70 (mcL m pk vd)::L))(hok:Mok m)(hd:0<=i.dst/\i.dst<=10)(hsr:0<=i.src/\i.src<=10)(hsec:T.secErr i m=0)(hnr:i.narrow=true->(T.esecond i m).1=1):Calls Tryz.prog 55 #[.pointer (some ⟨M,0,none⟩),insV i] w (ExP w0 M (m.put i.dst ((T.esecond i m).1,if i.narrow then(T.low (T.esecond i m).2).setWidth 64 else(T.esecond i m).2)) pk vd L):=by
 have hSEC:=fun w1 hM=>exSecond_ok M m pk vd i none 0 [] w1 hok hM rfl (by decide) (fun _=>rfl) (fun j r hj=>by cases hj) (fun r hr=>by cases hr) hsr hsec
 obtain⟨q,hq⟩:∃q,T.esecond i m=q:=⟨_,rfl⟩
 obtain⟨qk,qn⟩:=q;rw[hq]at hSEC hnr ⊢;have HSEC:=Hd hSEC;clear hSEC;obtain⟨op,nr,dst,src,u,off,imm,size⟩:=i;obtain⟨s,rfl⟩:=Int.eq_ofNat_of_zero_le hd.1;have s1:s<11:=by have:=hd.2;simp only at this;omega
 have j0:(0:Int)<=(s:Int):=by omega
 have j1:(s:Int)<(11:Int):=by omega
 clear hd;clear hsr hsec hq;simp only at hnr ⊢;have HNR:=Hd hnr;clear hnr;obtain⟨val,hval⟩:∃v,(if nr=true then(T.low qn).setWidth 64 else qn)=v:=⟨_,rfl⟩
 rw[hval];have HV:=Hd hval;clear hval;unfold insV insL;have BK0:=Hd (hB.bx [.int .u8 op,.bool nr,.int .i64 (s:Int),.int .i64 src,.bool u,.int .i64 off,.int .i64 imm,.int .i64 size] 55);clear hB;go_enter Tryz.func55,Tryz.ntmps55;go_upto_region 1 with fail;generalize w.heap.size=X at *;refine wp_hid BK0 (fun w1 BK0=>?_);obtain⟨i0,i1,i2,i3,i4,i5,i6,i7⟩:=BK0.o.q8 0 rfl;go_wp2_with fail;refine(HSEC.o w1 (fun j v hj=>BK0.o.cell 1 rfl j hj)).mono ?_;rintro e w2 ⟨rfl,hs⟩;have BK1:=Hd (BK0.o.call hs);clear hs BK0 i0 i1 i2 i3 i4 i5 i6 i7;go_upto_region 2 with fail;have BK2:=Hd (BK1.o.bx [.int .u8 qk,W64 qn] 64);generalize w2.heap.size=Y at *;refine wp_hid BK2 (fun w3 BK2=>?_);clear BK1;obtain⟨v0,v1⟩:=BK2.o.q2 0 rfl;have fv1:=BK2.o.free 0 rfl 1;have i1:=BK2.o.cl 1 1;cases nr
 case false =>
  go_wp2_with fail;have i2:=BK2.o.cl 1 2;refine WL.begin 7 (fun w'=>w'.cell? ⟨X,2,none⟩=some (.int .i64 (s:Int))/\w'.cell? ⟨Y,0,none⟩=some (.int .u8 qk)/\w'.cell? ⟨Y,1,none⟩=some (W64 qn)) (fun _=>True) (by kernel_rfl) ⟨i2,v0,v1⟩ trivial (fun hs=>?_);have BK3:=Hd BK2.o.drew;generalize w3.drew=w5 at *;refine WL.tk [(0,[]),(1,[]),(2,[2]),(3,[3]),(4,[]),(5,[]),(6,[])] hs ?_;clear hs
  iterate 7
   (first|refine WLp ?_ ?_ ?_|refine WLl ?_ ?_ ?_);rotate_left
   ·intro w hc;go_simp<;>rfl
   simp only[Act.put,sA,sZ,sS]
  refine TKs.mk ?_;intro hs;refine WLo 7 hs ?_;clear hs;intro K hK;have m0:=BK3.o.cell 2 rfl (s*2) (mcL_reg hok pk vd s s1).1;have m1:=BK3.o.cell 2 rfl (s*2+1) (mcL_reg hok pk vd s s1).2;have fm0:=BK3.o.free 2 rfl (s*2);have fm1:=BK3.o.free 2 rfl (s*2+1);go_simp;have BK4:=Hd ((BK3.o.boxSet 2 rfl (s*2) (.int .u8 qk)).boxSet 2 rfl (s*2+1) (W64 qn));refine hK.o _ _ SaF ?_;clear hK K;intro hs;try simp only[Act.put]
  clear hs;refine WLd ?_ _;try simp only[Exit.then]
  go_wp2;go_ret;refine⟨rfl,?_⟩;have h:=BK4.o.drop.drop;rw[mcL_put hok pk vd s s1 (qk,qn)]at h;rw[<-HV.o];exact h
 case true =>
  obtain rfl:qk=1:=HNR.o rfl;go_upto_region 8 with fail;have BK2b:=Hd (BK2.o.bs 0 1 (W64 ((T.low qn).setWidth 64)));refine wp_hid BK2b (fun w4 BK2b=>?_);clear v0 v1 fv1 i1;obtain⟨v0,v1⟩:=BK2b.o.q2 0 rfl;have i2:=BK2b.o.cl 1 2;refine WL.begin 7 (fun w'=>w'.cell? ⟨X,2,none⟩=some (.int .i64 (s:Int))/\w'.cell? ⟨Y,0,none⟩=some (.int .u8 1)/\w'.cell? ⟨Y,1,none⟩=some (W64 ((T.low qn).setWidth 64))) (fun _=>True) (by kernel_rfl) ⟨i2,v0,v1⟩ trivial (fun hs=>?_);have BK3:=Hd BK2b.o.drew;generalize w4.drew=w5 at *;refine WL.tk [(0,[]),(1,[]),(2,[2]),(3,[3]),(4,[]),(5,[]),(6,[])] hs ?_;clear hs
  iterate 7
   (first|refine WLp ?_ ?_ ?_|refine WLl ?_ ?_ ?_);rotate_left
   ·intro w hc;go_simp<;>rfl
   simp only[Act.put,sA,sZ,sS]
  refine TKs.mk ?_;intro hs;refine WLo 7 hs ?_;clear hs;intro K hK;have m0:=BK3.o.cell 2 rfl (s*2) (mcL_reg hok pk vd s s1).1;have m1:=BK3.o.cell 2 rfl (s*2+1) (mcL_reg hok pk vd s s1).2;have fm0:=BK3.o.free 2 rfl (s*2);have fm1:=BK3.o.free 2 rfl (s*2+1);go_simp;have BK4:=Hd ((BK3.o.boxSet 2 rfl (s*2) (.int .u8 1)).boxSet 2 rfl (s*2+1) (W64 ((T.low qn).setWidth 64)));refine hK.o _ _ SaF ?_;clear hK K;intro hs;try simp only[Act.put]
  clear hs;refine WLd ?_ _;try simp only[Exit.then]
  go_wp2;go_ret;refine⟨rfl,?_⟩;have h:=BK4.o.drop.drop;rw[mcL_put hok pk vd s s1 (1,(T.low qn).setWidth 64)]at h;rw[<-HV.o];exact h
theorem exReckon_ok{M:Nat}{m:T.Mc}{pk vd:Value}{w0 w:World}{L:List Acc}(i:T.Ins)(hB:Bank w0 w (boxAcc M 70 (mcL m pk vd)::L))(hok:Mok m)(hd:0<=i.dst/\i.dst<=10)(hsr:0<=i.src/\i.src<=10)(ho:1<=i.op/\i.op<12)(hsec:T.secErr i m=0)(hda:(m.reg i.dst).1≠0)(hb:(T.esecond i m).1=1)(ha:(m.reg i.dst).1=1\/((i.op=1\/i.op=2)/\i.narrow=false))(hae:T.aerr i.op i.narrow (T.esecond i m).2=0):Calls Tryz.prog 61 #[.pointer (some ⟨M,0,none⟩),insV i] w (ExP w0 M (m.put i.dst ((m.reg i.dst).1,T.ado i.op i.narrow (m.reg i.dst).2 (T.esecond i m).2)) pk vd L):=by
 obtain⟨s,hsd⟩:=Int.eq_ofNat_of_zero_le hd.1;have s1:s<11:=by have:=hd.2;omega
 have hda':s<11/\(m.reg (s:Int)).1≠0:=⟨s1,by rw[<-hsd];exact hda⟩
 have hSEC:=fun Y w1 hM hA=>exSecond_ok M m pk vd i (some ⟨Y,0,none⟩) 1 [s] w1 hok hM rfl (by decide) (fun h=>by cases h) hA (fun r hr=>by rw[List.mem_singleton]at hr;subst hr;exact hda') hsr hsec
 have hrd:=hsd▸hd;obtain⟨qk,hqk⟩:∃q,(T.esecond i m).1=q:=⟨_,rfl⟩
 obtain⟨qn,hqn⟩:∃q,(T.esecond i m).2=q:=⟨_,rfl⟩
 obtain⟨z,hz⟩:∃z,m.reg i.dst=z:=⟨_,rfl⟩
 obtain⟨zk,zn⟩:=z;rw[hqk,hqn]at hSEC;have HSEC:=Hd hSEC;clear hSEC;simp only[hqk,hqn,hz]at ha hb hae ⊢;obtain⟨op,nr,dst,src,u,off,imm,size⟩:=i;simp only at hsd hz ha hb hae ho ⊢;subst hsd;have j0:(0:Int)<=(s:Int):=by omega
 have j1:(s:Int)<(11:Int):=by omega
 have HE:=mcL_reg hok pk vd s s1;rw[hz]at HE;have HE:=Hd HE;have HZK:=Hd hz;clear hd hrd hda hda' hsr hsec hqk hqn hz;subst hb;have HDO:=Hd (fun w=>aluDo_ret w op nr zn qn (by omega) hae);clear hae;unfold insV insL;have BK0:=Hd (hB.bx [.int .u8 op,.bool nr,.int .i64 (s:Int),.int .i64 src,.bool u,.int .i64 off,.int .i64 imm,.int .i64 size] 55);clear hB;go_enter Tryz.func61,Tryz.ntmps61;go_upto_region 1 with fail;generalize w.heap.size=X at *;refine wp_hid BK0 (fun w1 BK0=>?_);obtain⟨i0,i1,i2,i3,i4,i5,i6,i7⟩:=BK0.o.q8 0 rfl;go_wp2_with fail;have BK1:=Hd (BK0.o.bx [.int .i64 (s:Int)] 3);have n0:=(BK1.o.cl 0 0)
 have hM:=fun j v (hj:(mcL m pk vd)[j]?=some v)=>BK1.o.cell 2 rfl j hj
 generalize w1.heap.size=Y at *;generalize w1.alloc (.cells #[.int .i64 (s:Int)] 3)=w2 at *;refine(HSEC.o Y w2 hM (fun j r hr=>⟨Y,0,rfl,by cases j with|zero=>cases hr;exact n0|succ j=>cases hr⟩)).mono ?_;rintro e w3 ⟨rfl,hs⟩;have BK2:=Hd (BK1.o.call hs);clear hs n0 hM BK0 BK1 HSEC i0 i1 i2 i3 i4 i5 i6 i7;go_upto_region 2 with fail;have BK3:=Hd (BK2.o.bx [.int .u8 1,W64 qn] 64);generalize w3.heap.size=Z at *;refine wp_hid BK3 (fun w4 BK3=>?_);clear BK2;go_wp2_with fail;have i2:=BK3.o.cl 2 2;refine WL.begin 99 (fun _=>True) (fun w'=>w'.cell? ⟨X,2,none⟩=some (.int .i64 (s:Int))) (by kernel_rfl) trivial i2 (fun hs=>?_);have BK4:=Hd BK3.o.drew;have i2:w4.drew.cell? ⟨X,2,none⟩=some (.int .i64 (s:Int)):=BK4.o.cl 2 2;generalize w4.drew=w5 at *;refine WL.tk [(0,[]),(1,[]),(2,[]),(3,[]),(4,[]),(5,[])] hs ?_;clear hs
 iterate 6
  (first|refine WLp ?_ ?_ ?_|refine WLl ?_ ?_ ?_);rotate_left
  ·intro w hc;go_simp<;>rfl
  simp only[Act.put,sA,sZ,sS]
 refine TKs.mk ?_;intro hs;refine WLo 6 hs ?_;clear hs;intro K hK;go_simp;refine hK.o _ _ (SaT i2) ?_;clear hK K;intro hs;try simp only[Act.put,sA,sZ,sS]
 clear hs;refine WLd ?_ _;try simp only[Exit.then]
 clear i2;obtain⟨v0,v1⟩:=BK4.o.q2 0 rfl;obtain⟨i0,i1⟩:=BK4.o.q2 2 rfl;have m0:=BK4.o.cell 3 rfl (s*2) HE.o.1;have m1:=BK4.o.cell 3 rfl (s*2+1) HE.o.2;have fm1:=BK4.o.free 3 rfl (s*2+1)
 have key:((op==1)=true/\(zk != 1)=false)\/((op==1)=false/\(op==2)=true/\(zk != 1)=false)\/((op==1)=false/\(op==2)=false/\(zk != 1)=false)\/((op==1)=true/\(zk != 1)=true/\(!nr)=true)\/((op==1)=false/\(op==2)=true/\(zk != 1)=true/\(!nr)=true):=by
  by_cases e1:op=1<;>by_cases e2:op=2<;>by_cases e3:zk=1<;>simp_all
 clear ha;have HO:=Hd ho;clear ho;rcases key with⟨k1,k3⟩|⟨k1,k2,k3⟩|⟨k1,k2,k3⟩|⟨k1,k3,k4⟩|⟨k1,k2,k3,k4⟩
 all_goals
  go_wp2_with fail;refine WL.begin 10 (fun w'=>w'.cell? ⟨X,0,none⟩=some (.int .u8 op)/\w'.cell? ⟨X,1,none⟩=some (.bool nr)/\w'.cell? ⟨M,s*2+1,none⟩=some (W64 zn)/\w'.cell? ⟨Z,1,none⟩=some (W64 qn)) (fun _=>True) (by kernel_rfl) ⟨i0,i1,m1,v1⟩ trivial (fun hs=>?_);have BK5:=Hd BK4.o.drew;generalize w5.drew=w6 at *;refine WL.tk [(0,[]),(1,[1]),(2,[]),(3,[3]),(4,[]),(5,[]),(6,[]),(7,[7]),(8,[]),(9,[9])] hs ?_;clear hs
  iterate 10
   (first|refine WLp ?_ ?_ ?_|refine WLl ?_ ?_ ?_);rotate_left
   ·intro w hc;go_simp<;>rfl
   simp only[Act.put,sA,sZ,sS]
  refine TKs.mk ?_;intro hs;refine WLo 10 hs ?_;clear hs;intro K hK;go_simp;refine(HDO.o _).mono ?_;rintro e w7 ⟨rfl,hs⟩;have BK6:=Hd (BK5.o.call hs);clear hs;refine hK.o _ _ SaF ?_;clear hK K;intro hs;try simp only[Act.put,sA,sZ,sS]
  refine WL.tk [(11,[]),(12,[]),(13,[])] hs ?_;clear hs
  iterate 3
   (first|refine WLp ?_ ?_ ?_|refine WLl ?_ ?_ ?_);rotate_left
   ·intro w hc;go_simp<;>rfl
   simp only[Act.put,sA,sZ,sS]
  refine TKs.mk ?_;intro hs;refine WLo 14 hs ?_;clear hs;intro K hK;go_simp;refine hK.o _ _ SaF ?_;clear hK K;intro hs;try simp only[Act.put,sA,sZ,sS]
  refine WLo 15 hs ?_;clear hs;intro K hK;go_simp;refine hK.o _ _ SaF ?_;clear hK K;intro hs;try simp only[Act.put,sA,sZ,sS]
  clear hs;refine WLd ?_ _;try simp only[Exit.then]
  clear m0 m1 fm1 i0 i1 v0 v1;have m1:=BK6.o.cell 3 rfl (s*2+1) HE.o.2;have f1:=BK6.o.free 3 rfl (s*2+1);have BK7:=Hd (BK6.o.boxSet 3 rfl (s*2+1) (W64 (T.ado op nr zn qn)));go_wp2;rw[run_storeCells_W64];go_simp;go_wp2;go_ret;refine⟨rfl,?_⟩;have h:=BK7.o.drop.drop.drop;rw[mcL_put1 hok pk vd s s1 (zk,T.ado op nr zn qn) (by rw[HZK.o])]at h;exact h
end Go.Proofs.YtfeipbgnjainlaaGreatDoor.K
