/- TCkD, TCkX -/
import Derived.Test.YtfeipbgnjainlaaGreatDoorTp10
import Derived.Test.YtfeipbgnjainlaaGreatDoorTp2
import Derived.Test.YtfeipbgnjainlaaGreatDoorTp4
import Derived.Test.YtfeipbgnjainlaaGreatDoorTp22
import Derived.Test.YtfeipbgnjainlaaGreatDoorTp14
import Derived.Test.YtfeipbgnjainlaaGreatDoorTp6
set_option linter.unusedVariables false
set_option linter.unusedSimpArgs false
set_option maxRecDepth 100000
set_option maxHeartbeats 8000000
namespace Go.Proofs.YtfeipbgnjainlaaGreatDoor.K
open Go Go.RowKit Go.Maps Go.Sort
def joinK(a b:List T.Kn)(j:Nat):List T.Kn:=a.mapIdx fun i x=>if i<j then x.join (b.getD i T.Kn.none)else x
theorem joinK_len(a b:List T.Kn)(j:Nat):(joinK a b j).length=a.length:=by simp[joinK]
theorem joinK_zero(a b:List T.Kn):joinK a b 0=a:=by
 apply List.ext_getElem?;intro i;rw[joinK,List.getElem?_mapIdx];cases a[i]? <;> simp
theorem joinK_get(a b:List T.Kn)(j:Nat)(h:j<a.length):(joinK a b j)[j]'(by rw[joinK_len];exact h)=a[j]:=by
 simp[joinK]
theorem joinK_succ(a b:List T.Kn)(j:Nat)(h:j<a.length)(h2:j<b.length):(joinK a b j).set j (a[j].join b[j])=joinK a b (j+1):=by
 apply List.ext_getElem?;intro i;rw[List.getElem?_set,joinK,joinK,List.getElem?_mapIdx,List.getElem?_mapIdx,List.length_mapIdx];by_cases e:j=i
 ·subst e
  rw[if_pos rfl,if_pos h,List.getElem?_eq_getElem h];simp[List.getD_eq_getElem?_getD,List.getElem?_eq_getElem h2]
 ·rw[if_neg e]
  cases a[i]? with
  | none=>rfl
  | some x =>
    simp only[Option.map];by_cases h1:i<j
    ·rw[if_pos h1,if_pos (by omega)]
    ·rw[if_neg h1,if_neg (by omega)]
theorem joinK_all(a b:List T.Kn)(h:a.length=b.length):joinK a b a.length=List.zipWith T.Kn.join a b:=by
 apply List.ext_getElem?;intro i;rw[joinK,List.getElem?_mapIdx,List.getElem?_zipWith];by_cases hi:i<a.length
 ·rw[List.getElem?_eq_getElem hi,List.getElem?_eq_getElem (by omega)]
  simp[hi,List.getD_eq_getElem?_getD,List.getElem?_eq_getElem (show i<b.length by omega)]
 ·rw[List.getElem?_eq_none (by omega)]
  rfl
theorem byA_rd{w0 w:World}{L:List Acc}(h:Bank w0 w L){y:PV}(hm:y.byA∈L):RdC w y.gb (y.p.bytes.map Value.bool):=by
 obtain⟨i,hi⟩:=List.mem_iff_getElem?.1 hm;exact RdC.of h i hi
theorem regA_rd{w0 w:World}{L:List Acc}(h:Bank w0 w L){y:PV}(hm:y.regA∈L):RdC w y.gr (knsL y.p.regs):=by
 obtain⟨i,hi⟩:=List.mem_iff_getElem?.1 hm;exact RdC.of h i hi
theorem knsL_at{w:World}{g:Nat}{ks:List T.Kn}(h:RdC w g (knsL ks))(k:Nat)(hk:k<ks.length):w.cell? ⟨g,k*3,none⟩=some (.int .u8 ks[k].k)/\w.cell? ⟨g,k*3+1,none⟩=some (W64 ks[k].s.lo)/\w.cell? ⟨g,k*3+2,none⟩=some (W64 ks[k].s.hi) :=
 have h2:=knsL_get ks k hk
 ⟨h _ _ h2.1,h _ _ h2.2.1,h _ _ h2.2.2⟩
theorem pvsL_at{w:World}{g:Nat}{xs:List PV}(h:RdC w g (pvsL xs))(k:Nat)(hk:k<xs.length):w.cell? ⟨g,k*4,none⟩=some (.bool xs[k].p.live)/\w.cell? ⟨g,k*4+1,none⟩=some xs[k].rv/\w.cell? ⟨g,k*4+2,none⟩=some xs[k].yv/\w.cell? ⟨g,k*4+3,none⟩=some (.int .i64 xs[k].p.least) :=
 have h2:=pvsL_get xs k hk
 ⟨h _ _ h2.1,h _ _ h2.2.1,h _ _ h2.2.2.1,h _ _ h2.2.2.2⟩
theorem Bank.putKn{w0 w:World}{L:List Acc}(h:Bank w0 w L)(i:Nat){g n c:Nat}{ks:List T.Kn}(hi:L[i]?=some (rwA g n c 124 3 (knsL ks)))(k:Nat)(hk:k<ks.length)(x:T.Kn):
  Bank w0 (((w.setCell ⟨g,k*3,Option.none⟩ (.int .u8 x.k)).setCell ⟨g,k*3+1,Option.none⟩ (W64 x.s.lo)).setCell ⟨g,k*3+2,Option.none⟩ (W64 x.s.hi)) (L.set i (rwA g n c 124 3 (knsL (ks.set k x)))):=by
 have hlt:=(List.getElem?_eq_some_iff.1 hi).1;have h1:=h.rset i hi (k*3) (.int .u8 x.k);have h2:=h1.rset i (List.getElem?_set_self hlt) (k*3+1) (W64 x.s.lo);rw[List.set_set]at h2;have h3:=h2.rset i (List.getElem?_set_self hlt) (k*3+2) (W64 x.s.hi);rw[List.set_set,knsL_set ks k hk x]at h3;exact h3
theorem Bank.putPl{w0 w:World}{L:List Acc}(h:Bank w0 w L)(i:Nat){P n c:Nat}{xs:List PV}(hi:L[i]?=some (plsA P n c xs))(k:Nat)(hk:k<xs.length)(x:PV):
  Bank w0 ((((w.setCell ⟨P,k*4,Option.none⟩ (.bool x.p.live)).setCell ⟨P,k*4+1,Option.none⟩ x.rv).setCell ⟨P,k*4+2,Option.none⟩ x.yv).setCell ⟨P,k*4+3,Option.none⟩ (.int .i64 x.p.least)) (L.set i (plsA P n c (xs.set k x))):=by
 have hlt:=(List.getElem?_eq_some_iff.1 hi).1;have h1:=h.rset i hi (k*4) (.bool x.p.live);have h2:=h1.rset i (List.getElem?_set_self hlt) (k*4+1) x.rv;rw[List.set_set]at h2;have h3:=h2.rset i (List.getElem?_set_self hlt) (k*4+2) x.yv;rw[List.set_set]at h3;have h4:=h3.rset i (List.getElem?_set_self hlt) (k*4+3) (.int .i64 x.p.least);rw[List.set_set,pvsL_set xs k hk x]at h4;exact h4
theorem Bank.putPl2{w0 w:World}{L:List Acc}(h:Bank w0 w L)(i:Nat){P n c:Nat}{xs:List PV}(hi:L[i]?=some (plsA P n c xs))(k:Nat)(hk:k<xs.length)(x:PV)(hlv:x.p.live=xs[k].p.live)(hrv:x.rv=xs[k].rv):
  Bank w0 ((w.setCell ⟨P,k*4+2,Option.none⟩ x.yv).setCell ⟨P,k*4+3,Option.none⟩ (.int .i64 x.p.least)) (L.set i (plsA P n c (xs.set k x))):=by
 have hlt:=(List.getElem?_eq_some_iff.1 hi).1;have h3:=h.rset i hi (k*4+2) x.yv;have h4:=h3.rset i (List.getElem?_set_self hlt) (k*4+3) (.int .i64 x.p.least);rw[List.set_set,pvsL_set2 xs k hk x hlv hrv]at h4;exact h4
theorem PV.live_rv{x:PV}(h:x.p.live=true):x.rv=.slice (some ⟨x.gr,0,none⟩) 11 x.cr:=by simp[PV.rv,h]
theorem PV.live_yv{x:PV}(h:x.p.live=true):x.yv=.slice (some ⟨x.gb,0,none⟩) 512 x.cb:=by simp[PV.yv,h]
theorem perm4{a b u v:Acc}{A B R:List Acc}(h:(a::b::A).Perm B):(a::b::u::v::(A++R)).Perm (u::v::(B++R)):=by
 have h1:(a::b::u::v::(A++R)).Perm (u::v::a::b::(A++R)):=(List.perm_append_comm (l₁:=[a,b]) (l₂:=[u,v])).append_right (A++R);exact h1.trans (((h.append_right R).cons v).cons u)
theorem Bank.rcap{w0 w:World}{L:List Acc}(h:Bank w0 w L)(i:Nat){g n c:Nat}{e:TypeId}{size:Nat}{xs:List Value}(hi:L[i]?=some (rwA g n c e size xs)):n<=c:=by
 have h2:w.ownsRow w0.heap.size e size (.slice (some ⟨g,0,Option.none⟩) n c) n xs:=h.at i hi;rcases h2.2 with⟨h0,h1⟩|⟨g,cap,cur,hv,_,_,hc,_⟩
 ·cases h0
 ·simp only[Value.slice.injEq,true_and]at hv
  omega
theorem boxAcc_rw{g m:Nat}{t:TypeId}{vs:List Value}(h:vs.length=m):boxAcc g t vs=rwA g m m t 1 vs:=by subst h;rfl
theorem RdC.bo{w:World}{g:Nat}{bs:List Bool}(h:RdC w g (bs.map Value.bool)):BoRd w g 0 bs:=fun j u hj=>by
 rw[Nat.zero_add];exact h j _ (by rw[List.getElem?_map,hj];rfl)
theorem tell_dead(Wk P n c:Nat)(vs:List Value)(k:Nat)(y:PV)(xs:List PV){w0 w:World}{R:List Acc}(hB:Bank w0 w (boxAcc Wk 89 vs::plsA P n c xs::(pvA xs++R)))(hv1:vs[1]?=some (.slice (some ⟨P,0,none⟩) n c))(hyr:y.regA∈R)(hyb:y.byA∈R)(hxl:xs.length=n)(hk:k<n)(hd:(xs[k]'(by omega)).p.live=false)(hy:y.p.Wf):
  Calls Tryz.prog 164 #[.pointer (some ⟨Wk,0,none⟩),.int .i64 (k:Int),PlV y] w fun e w'=>e=.returned (.tuple #[])/\∃y',y'.p=y.p/\Bank w0 w' (boxAcc Wk 89 vs::plsA P n c (xs.set k y')::(pvA (xs.set k y')++R)):=by
 have hkx:k<xs.length:=by omega
 have HP:=Hd (show ∀y':PV,y'.p.live=true->(y'.regA::y'.byA::pvA xs).Perm (pvA (xs.set k y'))from fun y' hl=>by
  have h1:=pvA_pick xs k _ (List.getElem?_eq_getElem hkx);rw[PV.dead_accs hd]at h1;have h2:=pvA_set xs k y' hkx;rw[PV.live_accs hl]at h2
  exact((h1.cons _).cons _).trans h2)
 have HKX:=Hd hkx;have b5:=Hd (hB.bx [.bool true,.slice (some ⟨y.gr,0,none⟩) 11 y.cr,.slice (some ⟨y.gb,0,none⟩) 512 y.cb,.int .i64 y.p.least] 87);have h1:=b5.o.cell 1 rfl 1 hv1;obtain⟨c0,c1,c2,c3⟩:=pvsL_at (RdC.of b5.o 2 rfl) k hkx;rw[hd]at c0;obtain⟨p0,p1,p2,p3⟩:=b5.o.q4 0 rfl;have k0:(0:Int)<=(k:Int):=by omega
 have k1:(k:Int)<(n:Int):=by omega
 have HYR:=Hd (show y.regA∈boxAcc w.heap.size 87 [.bool true,.slice (some ⟨y.gr,0,none⟩) 11 y.cr,.slice (some ⟨y.gb,0,none⟩) 512 y.cb,.int .i64 y.p.least]::boxAcc Wk 89 vs::plsA P n c xs::(pvA xs++R)from by simp[hyr]);have HYB:=Hd (show y.byA∈boxAcc w.heap.size 87 [.bool true,.slice (some ⟨y.gr,0,none⟩) 11 y.cr,.slice (some ⟨y.gb,0,none⟩) 512 y.cb,.int .i64 y.p.least]::boxAcc Wk 89 vs::plsA P n c xs::(pvA xs++R)from by simp[hyb]);clear hB hd hyr hyb hv1;unfold PlV;go_enter Tryz.func164,Tryz.ntmps164;go_upto_region 1 with fail;generalize hX:w.heap.size=X at *;change Code.wp _ _ _ _ (w.alloc (.cells #[.bool true,.slice (some ⟨y.gr,0,none⟩) 11 y.cr,.slice (some ⟨y.gb,0,none⟩) 512 y.cb,.int .i64 y.p.least] 87));generalize(w.alloc (.cells #[.bool true,.slice (some ⟨y.gr,0,none⟩) 11 y.cr,.slice (some ⟨y.gb,0,none⟩) 512 y.cb,.int .i64 y.p.least] 87))=w1 at *;clear hX;go_wp2_with fail;refine(copied_any y w1 hy.rl hy.bl (regA_rd b5.o HYR.o) (byA_rd b5.o HYB.o)).mono ?_;rintro e w2 ⟨y',hp,rfl,hb⟩;have hl:y'.p.live=true:=by rw[hp];exact hy.live
 have B2:=Hd (bank_join b5.o hb);obtain⟨d0,d1,d2,d3⟩:=pvsL_at (RdC.of B2.o 4 rfl) k HKX.o;have f0:=B2.o.rfree 4 rfl (k*4);have f1:=B2.o.rfree 4 rfl (k*4+1);have f2:=B2.o.rfree 4 rfl (k*4+2);have f3:=B2.o.rfree 4 rfl (k*4+3);have B3:=B2.o.putPl 4 rfl k HKX.o y';rw[hl,PV.live_rv hl,PV.live_yv hl]at B3;have B4:=Hd B3;have HL:=Hd hl;have HPP:=Hd hp;clear h1 c0 c1 c2 c3 p0 p1 p2 p3 hb b5 B2 B3 hl hp;unfold PlV;go_wp2;refine bodyPost_ret (v:=.tuple #[]) ?_ rfl ⟨rfl,y',HPP.o,(B4.o.sub (.cons_cons _ (.cons_cons _ (.cons _ (.refl _))))).permB (perm4 (HP.o y' HL.o))⟩;simp[results,Tryz.results164,go_sem]
theorem tell_live(Wk P n c:Nat)(vs:List Value)(k:Nat)(y q:PV)(xs:List PV){w0 w:World}{S:List Acc}(hB:Bank w0 w (q.regA::q.byA::boxAcc Wk 89 vs::plsA P n c xs::S))(hv1:vs[1]?=some (.slice (some ⟨P,0,none⟩) n c))(hyr:y.regA∈S)(hyb:y.byA∈S)(hxl:xs.length=n)(hq:xs[k]?=some q)(hl:q.p.live=true)(hw:q.p.Wf)(hy:y.p.Wf):
  Calls Tryz.prog 164 #[.pointer (some ⟨Wk,0,none⟩),.int .i64 (k:Int),PlV y] w fun e w'=>e=.returned (.tuple #[])/\∃q',q'.p=q.p.tell y.p/\Bank w0 w' (q'.regA::q'.byA::boxAcc Wk 89 vs::plsA P n c (xs.set k q')::S):=by
 have hk:k<xs.length:=(List.getElem?_eq_some_iff.1 hq).1;have eq:xs[k]=q:=(List.getElem?_eq_some_iff.1 hq).2;have HKX:=Hd hk;have HEQ:=Hd eq;have B0:=Hd (Bank.permB (hB.bx [.bool true,.slice (some ⟨y.gr,0,none⟩) 11 y.cr,.slice (some ⟨y.gb,0,none⟩) 512 y.cb,.int .i64 y.p.least] 87) (List.Perm.swap _ _ _));have hqr:q.p.regs.length=11:=hw.rl;have hyl:y.p.regs.length=11:=hy.rl;have h1:=B0.o.cell 3 rfl 1 hv1;obtain⟨c0,c1,c2,c3⟩:=pvsL_at (RdC.of B0.o 4 rfl) k hk;rw[eq]at c0 c1 c2 c3;rw[hl]at c0;rw[PV.live_rv hl]at c1;rw[PV.live_yv hl]at c2;have k0:(0:Int)<=(k:Int):=by omega
 have k1:(k:Int)<(n:Int):=by omega
 have HM:=Hd (fun A B=>(show y.regA∈(A::boxAcc w.heap.size 87 [.bool true,.slice (some ⟨y.gr,0,none⟩) 11 y.cr,.slice (some ⟨y.gb,0,none⟩) 512 y.cb,.int .i64 y.p.least]::B::boxAcc Wk 89 vs::plsA P n c xs::S)/\y.byA∈(A::boxAcc w.heap.size 87 [.bool true,.slice (some ⟨y.gr,0,none⟩) 11 y.cr,.slice (some ⟨y.gb,0,none⟩) 512 y.cb,.int .i64 y.p.least]::B::boxAcc Wk 89 vs::plsA P n c xs::S)from⟨by simp[hyr],by simp[hyb]⟩));have HF:=Hd (show y.byA∈S from hyb);have HV1:=Hd hv1;have HQL:=Hd hl;have HW:=Hd hw;have HY:=Hd hy;clear hB hl hyr hyb hv1 eq hq hw hy;unfold PlV;go_enter Tryz.func164,Tryz.ntmps164;go_upto_region 1 with fail;generalize hX:w.heap.size=X at *;change Code.wp _ _ _ _ (w.alloc (.cells #[.bool true,.slice (some ⟨y.gr,0,none⟩) 11 y.cr,.slice (some ⟨y.gb,0,none⟩) 512 y.cb,.int .i64 y.p.least] 87));generalize(w.alloc (.cells #[.bool true,.slice (some ⟨y.gr,0,none⟩) 11 y.cr,.slice (some ⟨y.gb,0,none⟩) 512 y.cb,.int .i64 y.p.least] 87))=w1 at *;clear hX;go_wp2;clear h1 c0 c1 c2 c3;go_loopw [28] (fun i wr=>∃j:Nat,j<=11/\i=.int .i64 (j:Int)/\Bank w0 wr (rwA q.gr 11 q.cr 124 3 (knsL (joinK q.p.regs y.p.regs j))::boxAcc X 87 [.bool true,.slice (some ⟨y.gr,0,none⟩) 11 y.cr,.slice (some ⟨y.gb,0,none⟩) 512 y.cb,.int .i64 y.p.least]::q.byA::boxAcc Wk 89 vs::plsA P n c xs::S)) (fun i _=>11-(intOf i).toNat)
 case atStart=>exact⟨0,by omega,rfl,by rw[joinK_zero];exact B0.o⟩
 case round =>
  obtain⟨j,hj,rfl,hB⟩:=hrel;have HB:=Hd hB;clear hB;have j0:(0:Int)<=(j:Int):=by omega
  obtain⟨c0,c1,c2,c3⟩:=pvsL_at (RdC.of HB.o 4 rfl) k HKX.o;rw[HEQ.o]at c0 c1 c2 c3;rw[HQL.o]at c0;rw[PV.live_rv HQL.o]at c1;rw[PV.live_yv HQL.o]at c2;have p1:=HB.o.cl 1 1;have p2:=HB.o.cl 1 2;have p3:=HB.o.cl 1 3;by_cases hlt:j<11
  ·have i1:(j:Int)<(11:Int):=by omega
   have hjq:j<q.p.regs.length:=by omega
   have hjy:j<y.p.regs.length:=by omega
   have hjl:j<(joinK q.p.regs y.p.regs j).length:=by rw[joinK_len];exact hjq
   obtain⟨d0,d1,d2⟩:=knsL_at (RdC.of HB.o 0 rfl) j hjl;rw[joinK_get q.p.regs y.p.regs j hjq]at d0 d1 d2;have hm:=HM.o (rwA q.gr 11 q.cr 124 3 (knsL (joinK q.p.regs y.p.regs j))) q.byA;obtain⟨e0,e1,e2⟩:=knsL_at (regA_rd HB.o hm.1) j hjy;have HSU:=Hd (joinK_succ q.p.regs y.p.regs j hjq hjy);have hx:q.p.regs[j].right=true:=HW.o.right _ (List.getElem_mem hjq);have hy':y.p.regs[j].right=true:=HY.o.right _ (List.getElem_mem hjy);obtain⟨u,hu⟩:∃u,q.p.regs[j]=u:=⟨_,rfl⟩
   obtain⟨v,hv⟩:∃v,y.p.regs[j]=v:=⟨_,rfl⟩
   rw[hu]at d0 d1 d2 hx HSU;rw[hv]at e0 e1 e2 hy' HSU;have f0:=HB.o.rfree 0 rfl (j*3);have f1:=HB.o.rfree 0 rfl (j*3+1);have f2:=HB.o.rfree 0 rfl (j*3+2);have HU:=Hd hu;have d0':=d0;have d1':=d1;have d2':=d2;clear hu hv hm d0 d1 d2 f0 f1 f2;go_upto_region 7 with fail;refine WL.begin 19 (fun w'=>w'.cell? ⟨P,k*4+1,none⟩=some (.slice (some ⟨q.gr,0,none⟩) 11 q.cr)/\w'.cell? ⟨X,1,none⟩=some (.slice (some ⟨y.gr,0,none⟩) 11 y.cr)/\w'.cell? ⟨q.gr,j*3,none⟩=some (.int .u8 u.k)/\w'.cell? ⟨q.gr,j*3+1,none⟩=some (W64 u.s.lo)/\w'.cell? ⟨q.gr,j*3+2,none⟩=some (W64 u.s.hi)/\w'.cell? ⟨y.gr,j*3,none⟩=some (.int .u8 v.k)/\w'.cell? ⟨y.gr,j*3+1,none⟩=some (W64 v.s.lo)/\w'.cell? ⟨y.gr,j*3+2,none⟩=some (W64 v.s.hi)) (fun _=>True) (by kernel_rfl) ⟨c1,p1,d0',d1',d2',e0,e1,e2⟩ trivial (fun hs=>?_);refine WL.tk [(0,[]),(1,[]),(2,[]),(3,[3]),(4,[]),(5,[]),(6,[]),(7,[]),(8,[8]),(9,[]),(10,[]),(11,[11]),(12,[]),(13,[13]),(14,[]),(15,[]),(16,[16])] hs ?_;clear hs
   iterate 17
    (first|refine WLp ?_ ?_ ?_|refine WLl ?_ ?_ ?_);rotate_left
    ·intro w hc;go_simp<;>rfl
    simp only[Act.put,sA,sZ,sS]
   refine TKs.mk ?_;intro hs;refine WLo 17 hs ?_;clear hs;intro K hK;go_simp;refine(kjoin_right u v hx hy' _).mono ?_;rintro e w2 ⟨rfl,hs2⟩;have B2:=Hd (HB.o.drew.call hs2);obtain⟨d0,d1,d2⟩:=knsL_at (RdC.of B2.o 0 rfl) j hjl;rw[joinK_get q.p.regs y.p.regs j hjq,HU.o]at d0 d1 d2;have f0:=B2.o.rfree 0 rfl (j*3);have f1:=B2.o.rfree 0 rfl (j*3+1);have f2:=B2.o.rfree 0 rfl (j*3+2);unfold knv;refine hK.o _ _ (SApp.intro (fun _=>⟨hs2.keep c1,hs2.keep p1,hs2.keep d0',hs2.keep d1',hs2.keep d2',hs2.keep e0,hs2.keep e1,hs2.keep e2⟩) trivial) ?_;clear hK K;intro hs;try simp only[Act.put,sA,sZ,sS]
   refine WL.tk [(18,[])] hs ?_;clear hs
   iterate 1
    (first|refine WLp ?_ ?_ ?_|refine WLl ?_ ?_ ?_);rotate_left
    ·intro w hc;go_simp<;>rfl
    simp only[Act.put,sA,sZ,sS]
   refine TKs.mk ?_;intro hs;refine WLo 19 hs ?_;clear hs;intro K hK;go_simp;refine hK.o _ _ SaF ?_;clear hK K;intro hs;try simp only[Act.put]
   clear hs;refine WLd ?_ _;try simp only[Exit.then]
   have B3:=Hd (B2.o.putKn 0 rfl j hjl (u.join v));clear d0 d1 d2 f0 f1 f2 d0' d1' d2' e0 e1 e2 B2;go_wp2;go_round
   case rel=>exact⟨j+1,by omega,by go_num,by rw[<-HSU.o];exact B3.o⟩
   case measure=>simp[intOf];omega
  ·have i1:¬(j:Int)<(11:Int):=by omega
   obtain rfl:j=11:=by omega
   have HA:=Hd (show joinK q.p.regs y.p.regs 11=List.zipWith T.Kn.join q.p.regs y.p.regs by rw[<-hqr];exact joinK_all _ _ (by omega));go_upto_region 9 with fail;refine WL.begin 18 (fun w'=>w'.cell? ⟨P,k*4+2,none⟩=some (.slice (some ⟨q.gb,0,none⟩) 512 q.cb)/\w'.cell? ⟨P,k*4+3,none⟩=some (.int .i64 q.p.least)/\w'.cell? ⟨X,2,none⟩=some (.slice (some ⟨y.gb,0,none⟩) 512 y.cb)) (fun w'=>w'.cell? ⟨X,3,none⟩=some (.int .i64 y.p.least)) (by kernel_rfl) ⟨c2,c3,p2⟩ p3 (fun hs=>?_);refine WL.tk [(0,[]),(1,[]),(2,[]),(3,[]),(4,[]),(5,[5]),(6,[]),(7,[7]),(9,[]),(10,[]),(11,[]),(12,[12]),(13,[]),(14,[]),(15,[])] hs ?_;clear hs
   iterate 15
    (first|refine WLp ?_ ?_ ?_|refine WLl ?_ ?_ ?_);rotate_left
    ·intro w hc;go_simp<;>rfl
    simp only[Act.put,sA,sZ,sS]
   refine TKs.mk ?_;intro hs;refine WLo 8 hs ?_;clear hs;intro K hK;go_simp;have hm:=HM.o (rwA q.gr 11 q.cr 124 3 (knsL (joinK q.p.regs y.p.regs 11))) q.byA;obtain⟨iy,hiy⟩:=List.mem_iff_getElem?.1 hm.2;refine(stkJoin_any q.gb 0 q.cb y.gb 0 y.cb q.p.bytes y.p.bytes _ HW.o.bl HY.o.bl (HB.o.rcap 2 rfl) (HB.o.rcap iy hiy) (RdC.of HB.o.drew 2 rfl).bo (byA_rd HB.o.drew hm.2).bo).mono ?_;rintro e w2 ⟨v,rfl,g,t,rfl,hb⟩;rw[boxAcc_rw (m:=512) (by rw[List.length_map,List.length_zipWith,HW.o.bl,HY.o.bl];rfl)]at hb;have B2:=Hd (bank_join HB.o.drew hb);clear hb hm hiy;obtain⟨d0,d1,d2,d3⟩:=pvsL_at (RdC.of B2.o 5 rfl) k HKX.o;rw[HEQ.o]at d2 d3;rw[PV.live_yv HQL.o]at d2;have f2:=B2.o.rfree 5 rfl (k*4+2);refine hK.o _ _ (SApp.intro (fun _=>⟨d2,d3,B2.o.cl 2 2⟩) (B2.o.cl 2 3)) ?_;clear hK K;intro hs;try simp only[Act.put,sA,sZ,sS]
   refine WL.tk [(16,[]),(17,[])] hs ?_;clear hs
   iterate 2
    (first|refine WLp ?_ ?_ ?_|refine WLl ?_ ?_ ?_);rotate_left
    ·intro w hc;go_simp<;>rfl
    simp only[Act.put,sA,sZ,sS]
   refine TKs.mk ?_;intro hs;refine WLo 18 hs ?_;clear hs;intro K hK;go_simp;have B3:=Hd (B2.o.rset 5 rfl (k*4+2) (.slice (some ⟨g,0,none⟩) 512 512));clear d0 d1 d2 d3 f2;have e3:=B3.o.rcell 5 rfl (k*4+3) (v:=.int .i64 q.p.least) (by rw[List.getElem?_set_ne (by omega),(pvsL_get xs k HKX.o).2.2.2,HEQ.o]);have f3:=B3.o.rfree 5 rfl (k*4+3);refine hK.o _ _ (SApp.intro (fun h=>(by cases h)) (B3.o.cl 2 3)) ?_;clear hK K;intro hs;try simp only[Act.put]
   refine WL.tk [(19,[]),(20,[])] hs ?_;clear hs
   iterate 2
    (first|refine WLp ?_ ?_ ?_|refine WLl ?_ ?_ ?_);rotate_left
    ·intro w hc;go_simp<;>rfl
    simp only[Act.put,sA,sZ,sS]
   refine TKs.mk ?_;intro hs;refine WLo 21 hs ?_;clear hs;intro K hK;go_simp;have B4:=B2.o.putPl2 5 rfl k HKX.o ⟨⟨true,List.zipWith T.Kn.join q.p.regs y.p.regs,List.zipWith (· && ·) q.p.bytes y.p.bytes,min q.p.least y.p.least⟩,q.gr,q.cr,g,512,t⟩ (by rw[HEQ.o];exact HQL.o.symm) (by rw[HEQ.o,PV.live_rv HQL.o];exact PV.live_rv rfl);rw[PV.live_yv rfl]at B4;have B5:=Hd B4;clear B4 e3 f3;refine hK.o _ _ (SApp.intro (fun h=>(by cases h)) (B5.o.cl 2 3)) ?_;clear hK K;intro hs;try simp only[Act.put]
   clear hs;refine WLd ?_ _;try simp only[Exit.then]
   clear B2 B3;go_wp2;go_end0;refine⟨rfl,⟨⟨true,List.zipWith T.Kn.join q.p.regs y.p.regs,List.zipWith (· && ·) q.p.bytes y.p.bytes,min q.p.least y.p.least⟩,q.gr,q.cr,g,512,t⟩,by unfold T.Pl.tell;rw[if_pos HQL.o],?_⟩;have h:=B5.o;rw[HA.o]at h;exact(h.sub (.cons_cons _ (.cons_cons _ (.cons _ (.cons _ (.cons_cons _ (.cons_cons _ (.refl _)))))))).swap
theorem tell_any(Wk P n c:Nat)(vs:List Value)(k:Nat)(y:PV)(xs:List PV){w0 w:World}{R:List Acc}(hB:Bank w0 w (boxAcc Wk 89 vs::plsA P n c xs::(pvA xs++R)))(hv1:vs[1]?=some (.slice (some ⟨P,0,none⟩) n c))(hyr:y.regA∈R)(hyb:y.byA∈R)(hxl:xs.length=n)(hk:k<n)(hw:∀x∈xs,x.p.live=true->x.p.Wf)(hy:y.p.Wf):
  Calls Tryz.prog 164 #[.pointer (some ⟨Wk,0,none⟩),.int .i64 (k:Int),PlV y] w fun e w'=>e=.returned (.tuple #[])/\∃xs',xs'.map PV.p=T.told (xs.map PV.p) k (some y.p)/\Bank w0 w' (boxAcc Wk 89 vs::plsA P n c xs'::(pvA xs'++R)):=by
 have hkx:k<xs.length:=by omega
 have hg:(xs.map PV.p).getD k T.Pl.dead=xs[k].p:=by rw[List.getD_eq_getElem?_getD,List.getElem?_map,List.getElem?_eq_getElem hkx];rfl
 have ht:∀y':PV,y'.p=xs[k].p.tell y.p->(xs.set k y').map PV.p=T.told (xs.map PV.p) k (some y.p):=fun y' h=>by
  show _=(xs.map PV.p).set k (((xs.map PV.p).getD k T.Pl.dead).tell y.p)
  rw[hg,List.map_set,h]
 by_cases hl:xs[k].p.live=true
 ·have h1:=pvA_pick xs k _ (List.getElem?_eq_getElem hkx)
  rw[PV.live_accs hl]at h1;refine(tell_live Wk P n c vs k y xs[k] xs (hB.permB (perm4 h1.symm).symm) hv1 (List.mem_append_right _ hyr) (List.mem_append_right _ hyb) hxl (List.getElem?_eq_getElem hkx) hl (hw _ (List.getElem_mem hkx) hl) hy).mono ?_;rintro e w' ⟨he,q',hq,hb⟩;have hql:q'.p.live=true:=by rw[hq];unfold T.Pl.tell;rw[if_pos hl]
  have h2:=pvA_set xs k q' hkx;rw[PV.live_accs hql]at h2;exact⟨he,_,ht q' hq,hb.permB (perm4 h2)⟩
 ·have hd:xs[k].p.live=false:=by simpa using hl
  refine(tell_dead Wk P n c vs k y xs hB hv1 hyr hyb hxl hk hd hy).mono ?_;rintro e w' ⟨he,y',hy',hb⟩;exact⟨he,_,ht y' (by rw[hy'];unfold T.Pl.tell;rw[if_neg hl]),hb⟩
set_option maxRecDepth 100000
set_option maxHeartbeats 4000000
theorem ckDoes_any(op:Int)(h:1<=op/\op<=28)(w:World):Calls Tryz.prog 28 #[.int .u8 op] w (Ret w (if op=14 then .func (.func 76) #[] #[]else if op=15 then .func (.func 77) #[] #[]else if op=16 then .func (.func 78) #[] #[]else if op=28 then .func (.func 79) #[] #[]else if op<=13 then .func (.func 80) #[] #[]else .func (.func 81) #[] #[])):=by
 have ht:=Tryz.underlying127;have hk:=Tryz.underlying53;obtain⟨v0,hv0⟩:∃v,v=Value.func (.func 76) #[] #[]:=⟨_,rfl⟩
 obtain⟨v1,hv1⟩:∃v,v=Value.func (.func 77) #[] #[]:=⟨_,rfl⟩
 obtain⟨v2,hv2⟩:∃v,v=Value.func (.func 78) #[] #[]:=⟨_,rfl⟩
 obtain⟨v3,hv3⟩:∃v,v=Value.func (.func 79) #[] #[]:=⟨_,rfl⟩
 have p0:=put_mes ht hk w [] 14 v0 (by decide) (by decide) (by simp);have p1:=put_mes ht hk w [(14,v0)] 15 v1 (by decide) (by decide) (by simp);have p2:=put_mes ht hk w [(14,v0),(15,v1)] 16 v2 (by decide) (by decide) (by simp);have p3:=put_mes ht hk w [(14,v0),(15,v1),(16,v2)] 28 v3 (by decide) (by decide) (by simp);simp only[List.cons_append,List.nil_append,List.length_cons,List.length_nil,Nat.reduceAdd]at p0 p1 p2 p3;have hb0:=heap_alloc_new w (.map (mes [(14,v0),(15,v1),(16,v2),(28,v3)]) 4);have l0:=look_mes1 ht hk hb0 14 v0 (by decide) (by decide) (by simp) (by simp);have l1:=look_mes1 ht hk hb0 15 v1 (by decide) (by decide) (by simp) (by simp);have l2:=look_mes1 ht hk hb0 16 v2 (by decide) (by decide) (by simp) (by simp);have l3:=look_mes1 ht hk hb0 28 v3 (by decide) (by decide) (by simp) (by simp);have hz:∀w,(zeroValue 92).run Tryz.prog w=.ok .nilFunc w:=fun w=>by kernel_rfl
 have ln:=fun(hf:∀p ∈ [(14,v0),(15,v1),(16,v2),(28,v3)],p.1≠op)=>look_none1 ht hk hb0 op .nilFunc (hz _) (by omega) (by omega) hf
 have e0:mes [] = #[]:=rfl;rw[e0]at p0;clear e0 hb0;generalize mes [(14,v0)]=E1 at p0 p1;generalize mes [(14,v0),(15,v1)]=E2 at p1 p2;generalize mes [(14,v0),(15,v1),(16,v2)]=E3 at p2 p3;generalize mes [(14,v0),(15,v1),(16,v2),(28,v3)]=E4 at p3 l0 l1 l2 l3 ln;have S1:=Hd (show Since w (w.alloc (.map E4 4))from(Below.refl _ _).alloc (Nat.le_refl _) _);have hn1:∀(g:FuncId) (W:World),(binOp .neq 92 (.func (.func g) #[] #[]) .nilFunc).run Tryz.prog W=.ok (.bool true) W:=fun _ _=>by kernel_rfl
 have hn0:∀(W:World),(binOp .neq 92 .nilFunc .nilFunc).run Tryz.prog W=.ok (.bool false) W:=fun _=>by kernel_rfl
 have hmm:=run_makeMap (P:=Tryz.prog) 127 w;subst hv0 hv1 hv2 hv3;have hcs:(op=14\/op=15\/op=16\/op=28)\/(op≠14/\op≠15/\op≠16/\op≠28):=by omega
 rcases hcs with(rfl|rfl|rfl|rfl)|⟨n14,n15,n16,n28⟩
 case' inr =>
  have ln:=ln (by intro p hp;simp only[List.mem_cons,List.mem_nil_iff,or_false]at hp;rcases hp with rfl|rfl|rfl|rfl<;>simp only<;>omega);rw[if_neg n14,if_neg n15,if_neg n16,if_neg n28];have H14:=Hd n14;clear n14 n15 n16 n28;by_cases h13:op<=13
  case' pos=>rw[if_pos h13]
  case' neg=>rw[if_neg h13]
 all_goals
  go_enter Tryz.func28,Tryz.ntmps28;go_wp2;go_ret;exact⟨rfl,S1.o⟩
theorem perms3{a b c d:Acc}:[b,a,c,d].Perm [a,b,c,d]/\[a,c,b,d].Perm [a,b,c,d]/\[c,a,b,d].Perm [a,b,c,d]/\[b,c,a,d].Perm [a,b,c,d]/\[c,b,a,d].Perm [a,b,c,d]:=by
 have s:∀x y z u:Acc,[x,y,z,u].Perm [y,x,z,u]:=fun x y z u=>.swap _ _ _
 have r:∀x y z u:Acc,[x,y,z,u].Perm [x,z,y,u]:=fun x y z u=>.cons _ (.swap _ _ _)
 exact⟨s _ _ _ _,r _ _ _ _,(s _ _ _ _).trans (r _ _ _ _),(r _ _ _ _).trans (s _ _ _ _),((s _ _ _ _).trans (r _ _ _ _)).trans (s _ _ _ _)⟩
theorem Bank.order3{w0 w:World}{a b c d:Acc}{L:List Acc}(h:Bank w0 w L)(hp:L=[a,b,c,d]\/L=[b,a,c,d]\/L=[a,c,b,d]\/L=[c,a,b,d]\/L=[b,c,a,d]\/L=[c,b,a,d]):Bank w0 w [a,b,c,d]:=by
 obtain⟨p1,p2,p3,p4,p5⟩:=perms3 (a:=a) (b:=b) (c:=c) (d:=d);rcases hp with rfl|rfl|rfl|rfl|rfl|rfl
 ·exact h
 ·exact h.permB p1
 ·exact h.permB p2
 ·exact h.permB p3
 ·exact h.permB p4
 ·exact h.permB p5
theorem make_kns(W:World):(Instr.makeSlice 84 (.int .i64 11) (.int .i64 11)).run Tryz.prog W=.ok (.slice (some ⟨W.heap.size,0,none⟩) 11 11) (W.alloc (.cells (knsL (List.replicate 11 T.Kn.none)).toArray 124)):=by kernel_rfl
theorem start_kns:(((knsL (List.replicate 11 T.Kn.none)).set 3 (.int .u8 2)).set 6 (.int .u8 4)).set 30 (.int .u8 3)=knsL T.Pl.start.regs:=by kernel_rfl
def StartP(w:World)(e:Ending)(w':World):Prop:=∃y:PV,y.p=T.Pl.start/\e=.returned (PlV y)/\Bank w w' [y.regA,y.byA]
theorem ckStart_any(w:World):Calls Tryz.prog 26 #[] w (StartP w):=by
 have hmk:=make_kns;have HST:=Hd start_kns;have h33:(knsL (List.replicate 11 T.Kn.none)).length=33:=rfl;obtain⟨KZ,hKZ⟩:∃l,knsL (List.replicate 11 T.Kn.none)=l:=⟨_,rfl⟩
 rw[hKZ]at hmk HST h33;have k1:KZ[3]?=some (.int .u8 0):=by rw[<-hKZ];kernel_rfl
 have k2:(KZ.set 3 (.int .u8 2))[6]?=some (.int .u8 0):=by rw[<-hKZ];kernel_rfl
 have k3:((KZ.set 3 (.int .u8 2)).set 6 (.int .u8 4))[30]?=some (.int .u8 0):=by rw[<-hKZ];kernel_rfl
 have HK1:=Hd k1;have HK2:=Hd k2;have HK3:=Hd k3;have H33:=Hd h33;clear hKZ k1 k2 k3 h33;have BK0:=bk1 w [.bool false,.slice none 0 0,.slice none 0 0,.int .i64 0] 87;go_enter Tryz.func26,Tryz.ntmps26;go_upto_region 1 with fail;generalize w.heap.size=X at *;refine wp_hid BK0 (fun w1 BK0=>?_);obtain⟨r0,r1,r2,r3,fr0,fr1,fr2,fr3⟩:=BK0.o.r4 0 rfl;clear r0 r1 r2 r3 fr0 fr1 fr2 fr3;go_cut [1] (fun s1 wx=>∃Y g g2 t,s1=.pointer (some ⟨Y,0,none⟩)/\Bank w wx [boxAcc Y 87 [.bool true,.slice (some ⟨g,0,none⟩) 11 11,.slice (some ⟨g2,0,none⟩) 512 512,.int .i64 0],rwA g 11 11 124 3 KZ,rwA g2 512 512 t 1 ((List.replicate 512 false).map Value.bool),boxAcc X 87 [.bool false,.slice none 0 0,.slice none 0 0,.int .i64 0]])
 case first =>
  have BK:=Hd BK0.o.drew;clear BK0;refine WL.begin 4 (fun _=>True) (fun _=>True) (by kernel_rfl) trivial trivial (fun hs=>?_);generalize w1.drew=wz at *
  repeat' first
   | (with_reducible refine StepL.at 0 ?_
      intro K hK;go_simp;have BK:=Hd (BK.o.made ((Below.refl _ _).alloc (Nat.le_refl _) _) (World.ownsRow_lit (base:=wz.heap.size) (size:=3) (e:=124) wz KZ.toArray 11 (Nat.le_refl _) (by decide) (by rw[List.size_toArray,H33.o])));refine hK.o _ _ (SaT trivial) ?_;generalize wz.heap.size=g at *;generalize(wz.alloc (.cells KZ.toArray 124))=wz at *
      clear hK K;intro hs;try simp only[Act.put,sA,sZ,sS])
   | (with_reducible refine StepL.at 1 ?_
      intro K hK;go_simp;refine(stkNew_any _).mono ?_;rintro e wz ⟨v,rfl,g2,t,rfl,hb⟩;rw[boxAcc_rw (m:=512) (by rw[List.length_map,List.length_replicate])]at hb;have BK:=Hd (bank_join BK.o hb);clear hb;refine hK.o _ _ (SaT trivial) ?_
      clear hK K;intro hs;try simp only[Act.put,sA,sZ,sS])
   | (with_reducible refine StepL.at 3 ?_
      intro K hK;go_simp;have BK:=Hd (BK.o.bx [.bool false,.slice none 0 0,.slice none 0 0,.int .i64 0] 87);refine hK.o _ _ (SaT trivial) ?_;generalize wz.heap.size=Y at *;generalize(wz.alloc (.cells #[.bool false,.slice none 0 0,.slice none 0 0,.int .i64 0] 87))=wz at *
      clear hK K;intro hs;try simp only[Act.put,sA,sZ,sS])
   | (with_reducible refine StepL.at 4 ?_
      intro K hK;have BK:RowKit.Hid (Bank w wz [boxAcc Y 87 [.bool false,.slice none 0 0,.slice none 0 0,.int .i64 0],rwA g 11 11 124 3 KZ,rwA g2 512 512 t 1 ((List.replicate 512 false).map Value.bool),boxAcc X 87 [.bool false,.slice none 0 0,.slice none 0 0,.int .i64 0]]):=Hd (Bank.order3 BK.o (by first|exact .inl rfl|exact .inr (.inl rfl)|exact .inr (.inr (.inl rfl))|exact .inr (.inr (.inr (.inl rfl)))|exact .inr (.inr (.inr (.inr (.inl rfl))))|exact .inr (.inr (.inr (.inr (.inr rfl))))));obtain⟨b0,fb0⟩:=BK.o.r1 0 rfl;have b1:=BK.o.cl 0 1;have fb1:=BK.o.free 0 rfl 1;have b2:=BK.o.cl 0 2;have fb2:=BK.o.free 0 rfl 2;have b3:=BK.o.cl 0 3;have fb3:=BK.o.free 0 rfl 3;go_simp;have BK:=Hd ((((BK.o.bs 0 0 (.bool true)).bs 0 1 (.slice (some ⟨g,0,none⟩) 11 11)).bs 0 2 (.slice (some ⟨g2,0,none⟩) 512 512)).bs 0 3 (.int .i64 0));clear b0 b1 b2 b3 fb0 fb1 fb2 fb3;refine hK.o _ _ SaF ?_
      clear hK K;intro hs;try simp only[Act.put])
   | (refine WL.tp (i:=2) (v:=?_) rfl (by decide +kernel) (fun _ _ _ h=>h) hs (Or.inl ⟨by kernel_rfl,?_⟩) ?_;rotate_left;· intro w hc;go_simp<;>rfl
      clear hs;intro hs;simp only[Act.put,sA,sZ,sS])
   | (refine WL.s1 (i:=0) (by decide +kernel) rfl hs ?_<;>clear hs)
   | (refine WL.o2 (i:=0) (j:=1) (by decide +kernel) rfl rfl hs ?_ ?_<;>clear hs)
   | (refine WL.o3 (i:=0) (j:=1) (k:=3) (by decide +kernel) rfl rfl rfl hs ?_ ?_ ?_<;>clear hs)
   | (refine WL.o2 (i:=0) (j:=3) (by decide +kernel) rfl rfl hs ?_ ?_<;>clear hs)
   | (refine WL.s1 (i:=1) (by decide +kernel) rfl hs ?_<;>clear hs)
   | (refine WL.o2 (i:=1) (j:=3) (by decide +kernel) rfl rfl hs ?_ ?_<;>clear hs)
   | (refine WL.s1 (i:=3) (by decide +kernel) rfl hs ?_<;>clear hs)
   | (refine WL.s1 (i:=4) (by decide +kernel) rfl hs ?_<;>clear hs)
   | (clear hs;refine WL.done (by decide +kernel) ?_ _;try simp only[Exit.then]
      go_wp2_with fail;go_meet
      exact⟨_,_,_,_,rfl,BK.o⟩)
 case rest =>
  obtain⟨Y,g,g2,t,rfl,hB⟩:=hcut;have BK:=Hd hB;have y1:=hB.cl 0 1;clear hB hmk;go_upto_region 2 with fail;refine WL.begin 8 (fun _=>True) (fun w'=>w'.cell? ⟨Y,1,none⟩=some (.slice (some ⟨g,0,none⟩) 11 11)) (by kernel_rfl) trivial y1 (fun hs=>?_);have BK:=Hd BK.o.drew;generalize wc.drew=wz at *;refine WL.tk [(0,[]),(1,[]),(2,[]),(3,[]),(4,[]),(5,[]),(6,[]),(7,[])] hs ?_;clear hs
  iterate 8
   (first|refine WLp ?_ ?_ ?_|refine WLl ?_ ?_ ?_);rotate_left
   ·intro w hc;go_simp<;>rfl
   simp only[Act.put,sA,sZ,sS]
  refine TKs.mk ?_;intro hs;refine WLo 8 hs ?_;clear hs;intro K hK;have e0:=BK.o.rcell 1 rfl 3 HK1.o;have f0:=BK.o.rfree 1 rfl 3;go_simp;have BK:=Hd (BK.o.rset 1 rfl 3 (.int .u8 2));clear e0 f0;refine hK.o _ _ (SApp.intro (fun h=>(by first|exact trivial|cases h)) (BK.o.cl 0 1)) ?_;generalize(wz.setCell ⟨g,3,none⟩ (.int .u8 2))=wz at *;clear hK K;intro hs;try simp only[Act.put]
  refine WL.tk [(9,[]),(10,[])] hs ?_;clear hs
  iterate 2
   (first|refine WLp ?_ ?_ ?_|refine WLl ?_ ?_ ?_);rotate_left
   ·intro w hc;go_simp<;>rfl
   simp only[Act.put,sA,sZ,sS]
  refine TKs.mk ?_;intro hs;refine WLo 11 hs ?_;clear hs;intro K hK;have e0:=BK.o.rcell 1 rfl 6 HK2.o;have f0:=BK.o.rfree 1 rfl 6;go_simp;have BK:=Hd (BK.o.rset 1 rfl 6 (.int .u8 4));clear e0 f0;refine hK.o _ _ (SApp.intro (fun h=>(by first|exact trivial|cases h)) (BK.o.cl 0 1)) ?_;generalize(wz.setCell ⟨g,6,none⟩ (.int .u8 4))=wz at *;clear hK K;intro hs;try simp only[Act.put]
  refine WL.tk [(12,[]),(13,[])] hs ?_;clear hs
  iterate 2
   (first|refine WLp ?_ ?_ ?_|refine WLl ?_ ?_ ?_);rotate_left
   ·intro w hc;go_simp<;>rfl
   simp only[Act.put,sA,sZ,sS]
  refine TKs.mk ?_;intro hs;refine WLo 14 hs ?_;clear hs;intro K hK;have e0:=BK.o.rcell 1 rfl 30 HK3.o;have f0:=BK.o.rfree 1 rfl 30;go_simp;have BK:=Hd (BK.o.rset 1 rfl 30 (.int .u8 3));clear e0 f0;refine hK.o _ _ (SApp.intro (fun h=>(by first|exact trivial|cases h)) (BK.o.cl 0 1)) ?_;generalize(wz.setCell ⟨g,30,none⟩ (.int .u8 3))=wz at *;clear hK K;intro hs;try simp only[Act.put]
  clear hs;refine WLd ?_ _;try simp only[Exit.then]
  clear y1;obtain⟨y0,y1,y2,y3⟩:=BK.o.q4 0 rfl;obtain⟨r0,fr0⟩:=BK.o.r1 3 rfl;have r1:=BK.o.cl 3 1;have fr1:=BK.o.free 3 rfl 1;have r2:=BK.o.cl 3 2;have fr2:=BK.o.free 3 rfl 2;have r3:=BK.o.cl 3 3;have fr3:=BK.o.free 3 rfl 3;go_wp2;refine bodyPost_ret (v:=.agg #[.bool true,.slice (some ⟨g,0,none⟩) 11 11,.slice (some ⟨g2,0,none⟩) 512 512,.int .i64 0]) ?_ rfl ⟨⟨T.Pl.start,g,11,g2,512,t⟩,rfl,rfl,?_⟩
  ·simp[results,Tryz.results26,go_sem,y0,y1,y2,y3,r0,r1,r2,r3]
  ·have h:=((((BK.o.bs 3 0 (.bool true)).bs 3 1 (.slice (some ⟨g,0,none⟩) 11 11)).bs 3 2 (.slice (some ⟨g2,0,none⟩) 512 512)).bs 3 3 (.int .i64 0))
   dsimp only[List.set]at h;rw[HST.o]at h;exact h.sub (.cons _ (.cons_cons _ (.cons_cons _ (List.nil_sublist _))))
end Go.Proofs.YtfeipbgnjainlaaGreatDoor.K
