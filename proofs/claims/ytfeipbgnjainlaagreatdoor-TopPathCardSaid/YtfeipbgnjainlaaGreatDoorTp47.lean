/- TCkZ -/
import Derived.Test.YtfeipbgnjainlaaGreatDoorTp10
import Derived.Test.YtfeipbgnjainlaaGreatDoorTp2
import Derived.Test.YtfeipbgnjainlaaGreatDoorTp4
import Derived.Test.YtfeipbgnjainlaaGreatDoorTp46
import Derived.Test.YtfeipbgnjainlaaGreatDoorTp21
set_option linter.unusedVariables false
set_option linter.unusedSimpArgs false
set_option maxRecDepth 100000
set_option maxHeartbeats 8000000
namespace Go.Proofs.YtfeipbgnjainlaaGreatDoor.K
open Go Go.RowKit Go.Maps Go.Sort
theorem infoPl:(Tryz.prog.info? 87).map (fun i=>(i.zero,i.size,i.bytes))=some (some (.agg #[.bool false,.slice none 0 0,.slice none 0 0,.int .i64 0]),4,64):=by kernel_rfl
theorem make_places(n:Nat)(hn:n<=4096)(W:World):(Instr.makeSlice 44 (.int .i64 (n:Int)) (.int .i64 (n:Int))).run Tryz.prog W=.ok (.slice (some ⟨W.heap.size,0,none⟩) n n) (W.alloc (.cells (pvsL (List.replicate n PV.dead)).toArray 87)):=by
 obtain⟨i0,hi,hz0,hz1,hz2⟩:=info_parts infoPl;have h:=run_makeSlice (P:=Tryz.prog) W 44 87 i0 (.agg #[.bool false,.slice none 0 0,.slice none 0 0,.int .i64 0]) Tryz.underlying44 hi hz0 .i64 .i64 (n:Int) (n:Int) (by omega) (by omega) (by rw[hz1];omega) (by rw[hz2];omega) (by omega);rw[h,hz1,Int.toNat_natCast]
 have e:madeCells (Value.agg #[.bool false,.slice none 0 0,.slice none 0 0,.int .i64 0]).cells (n*4)=(pvsL (List.replicate n PV.dead)).toArray:=by
  apply Array.toList_inj.1;apply List.ext_getElem?;intro q;have hz:(Value.agg #[.bool false,.slice none 0 0,.slice none 0 0,.int .i64 0]).cells = #[.bool false,.slice none 0 0,.slice none 0 0,.int .i64 0]:=rfl;rw[hz];by_cases hq:q<n*4
  ·have hk:q/4<(List.replicate n PV.dead).length:=by rw[List.length_replicate];omega
   have h1:=flat_get PV.cells 4 PV.cells_len (List.replicate n PV.dead) (q/4) hk (q % 4) (by omega);rw[show q/4*4+q % 4=q by omega]at h1;rw[show(pvsL (List.replicate n PV.dead)).toArray.toList[q]? = _ from h1,List.getElem_replicate];have h4:q % 4=0\/q % 4=1\/q % 4=2\/q % 4=3:=by omega
   simp only[madeCells,Array.toList_map,Array.toList_range,List.getElem?_map,List.getElem?_range hq,Option.map_some];rcases h4 with e|e|e|e<;>simp[e,PV.cells,PV.dead,PV.rv,PV.yv,T.Pl.dead]
  ·rw[List.getElem?_eq_none (by simp[madeCells];omega),List.getElem?_eq_none (by simp only[List.toList_toArray];rw[pvsL,flat_len PV.cells 4 PV.cells_len,List.length_replicate];omega)]
 rw[e]
theorem pvA_dead:∀ {xs:List PV},(∀x∈xs,x.p.live=false)->pvA xs=[]
 | [],_=>rfl
 | x::xs,h=>by
   show x.accs++pvA xs=[]
   rw[PV.dead_accs (h x (List.mem_cons_self ..)),pvA_dead (fun y hy=>h y (List.mem_cons_of_mem _ hy))];rfl
theorem psteps_at{l:List T.Ins}{n k:Nat}(hk:k<n)(ps:List T.Pl):T.psteps l (n-k) k ps=if(T.pstep l k ps).1≠0 then(((T.pstep l k ps).1,k),ps)else T.psteps l (n-(k+1)) (k+1) (T.pstep l k ps).2:=by
 rw[show n-k=(n-(k+1))+1 by omega];rfl
theorem pstep_dead{l:List T.Ins}{k:Nat}{xs:List PV}(hk:k<xs.length)(hd:xs[k].p.live=false):T.pstep l k (xs.map PV.p)=(0,xs.map PV.p):=by
 unfold T.pstep;cases l[k]? with
 | none=>rfl
 | some i =>
   have:((xs.map PV.p).getD k T.Pl.dead).live=false:=by rw[List.getD_eq_getElem?_getD,List.getElem?_map,List.getElem?_eq_getElem hk];exact hd
   simp only[this,Bool.false_eq_true,if_false]
theorem pstep_live{l:List T.Ins}{k:Nat}{xs:List PV}(hk:k<xs.length)(hd:xs[k].p.live=true){i:T.Ins}(hi:l[k]?=some i):T.pstep l k (xs.map PV.p)=if(T.cstep i xs[k].p).1≠0 then((T.cstep i xs[k].p).1,xs.map PV.p)else(0,T.told (T.told (xs.map PV.p) (k+1) (T.cstep i xs[k].p).2.1) (k+1+i.off.toNat) (T.cstep i xs[k].p).2.2):=by
 have e:(xs.map PV.p).getD k T.Pl.dead=xs[k].p:=by rw[List.getD_eq_getElem?_getD,List.getElem?_map,List.getElem?_eq_getElem hk];rfl
 unfold T.pstep;rw[hi];simp only[e,hd,if_true]
theorem wfs_two{xs xs':List PV}(h:∀y∈xs,y.p.live=true->y.p.Wf){s t:Nat}{a f:Option T.Pl}(ha:∀q,a=some q->q.Wf)(hf:∀q,f=some q->q.Wf)(e:xs'.map PV.p=T.told (T.told (xs.map PV.p) s a) t f):∀y∈xs',y.p.live=true->y.p.Wf:=by
 have h1:T.AllWf (xs.map PV.p):=fun j hj=>by
  unfold T.plAt at hj ⊢;rw[List.getD_eq_getElem?_getD,List.getElem?_map]at hj ⊢;cases hx:xs[j]? with
  | none=>rw[hx]at hj;cases hj
  | some z=>rw[hx]at hj;exact h z (List.mem_of_getElem? hx) hj
 have h2:=T.told_wf (T.told_wf h1 s a ha) t f hf;rw[<-e]at h2;intro z hz hl;obtain⟨j,hj⟩:=List.mem_iff_getElem?.1 hz;have h3:=h2 j;unfold T.plAt at h3;rw[List.getD_eq_getElem?_getD,List.getElem?_map,hj]at h3;exact h3 hl
def leftTo(Wk n:Nat)(w:World):Nat:=match w.cell? ⟨Wk,2,none⟩with
 | some (.int _ z)=>n-z.toNat
 | _=>0
theorem leftTo_at{Wk n k:Nat}{w:World}{t:IntKind}(h:w.cell? ⟨Wk,2,none⟩=some (.int t (k:Int))):leftTo Wk n w=n-k:=by unfold leftTo;rw[h];rfl
def PlacesP(w:World)(l:List T.Ins)(e:Ending)(w':World):Prop :=
 ((T.placesF l).1.1=0/\∃P c xs,e=.returned (.tuple #[.slice (some ⟨P,0,none⟩) l.length c,.agg #[.int .i64 0,.int .i64 0]])/\xs.map PV.p=(T.placesF l).2/\xs.length=l.length/\Bank w w' (plsA P l.length c xs::pvA xs))
 \/ ((T.placesF l).1.1≠0/\e=.returned (.tuple #[.slice none 0 0,.agg #[.int .i64 (T.placesF l).1.1,.int .i64 ((T.placesF l).1.2:Int)]])/\Since w w')
theorem places_any'(b o n c:Nat)(l:List T.Ins)(w:World)(hr:InsRd w b o l)(hl:l.length=n)(hn:n<=4096):
  Calls Tryz.prog 15 #[.slice (some ⟨b,o,none⟩) n c] w (PlacesP w l):=by
 have hmf:=hmfT;have HR:=Hd hr;have HL:=Hd hl;clear hr hl;have BK0:=bk2 w [.slice none 0 0] 44 [.int .i64 0,.int .i64 0] 27
 go_enter_defers Tryz.func15,Tryz.ntmps15
 go_upto_region 1 with fail;generalize w.heap.size=X at *;refine wp_hid BK0 (fun w1 BK0=>?_);obtain⟨p0,fp0⟩:=BK0.o.r1 1 rfl;obtain⟨f0,f1,ff0,ff1⟩:=BK0.o.r2 0 rfl;go_wp2_with fail;refine(shapeCheck_any b o c n l _ (HR.o.since BK0.o.since) HL.o hn).mono ?_;rintro e w2 ⟨rfl,hs⟩;have BK1:=Hd (BK0.o.call hs);clear hs BK0 p0 fp0 f0 f1 ff0 ff1;unfold shapeV;by_cases hsh:(T.shapeF l).1=0
 case' neg =>
  have HPF:=Hd (show T.placesF l=(T.shapeF l,[])by unfold T.placesF;rw[if_pos hsh]);have e0:((T.shapeF l).1 != 0)=true:=by simpa using hsh
  have HSH:=Hd hsh;clear hsh;go_upto_region 3 with fail;refine wp_bank [boxAcc w2.heap.size 27 [.int .i64 (T.shapeF l).1,.int .i64 ((T.shapeF l).2:Int)],boxAcc (X+1) 27 [.int .i64 0,.int .i64 0],boxAcc X 44 [.slice none 0 0]] (BK1.o.bx [.int .i64 (T.shapeF l).1,.int .i64 ((T.shapeF l).2:Int)] 27) (fun w3 h3=>?_);generalize w2.heap.size=F4 at *;have BK:=Hd h3.drew;obtain⟨q0,q1⟩:=h3.q2 0 rfl;clear h3;refine wp_region_noPanic ?_;refine WL.begin 2 (fun w'=>w'.cell? ⟨F4,0,none⟩=some (.int .i64 (T.shapeF l).1)/\w'.cell? ⟨F4,1,none⟩=some (.int .i64 ((T.shapeF l).2:Int))) (fun _=>True) (by kernel_rfl) ⟨q0,q1⟩ trivial (fun hs=>?_);generalize w3.drew=wz at *;refine WL.tk [(0,[0])] hs ?_;clear hs
  iterate 1
   (first|refine WLp ?_ ?_ ?_|refine WLl ?_ ?_ ?_);rotate_left
   ·intro w hc;go_simp<;>rfl
   simp only[Act.put,sA,sZ,sS]
  refine TKs.mk ?_;intro hs;refine WLo 1 hs ?_;clear hs;intro K hK;obtain⟨e0,g0⟩:=BK.o.r1 2 rfl;go_simp;have BK:=Hd (BK.o.bs 2 0 (.slice none 0 0));clear e0 g0;refine hK.o _ _ (SApp.intro (fun _=>⟨BK.o.cl 0 0,BK.o.cl 0 1⟩) trivial) ?_;generalize(wz.setCell ⟨X,0,none⟩ (.slice none 0 0))=wz at *;clear hK K;intro hs;try simp only[Act.put]
  refine WLo 2 hs ?_;clear hs;intro K hK;obtain⟨e0,e1,g0,g1⟩:=BK.o.r2 1 rfl;go_simp;have BK:=Hd ((BK.o.bs 1 0 (.int .i64 (T.shapeF l).1)).bs 1 1 (.int .i64 ((T.shapeF l).2:Int)));clear e0 e1 g0 g1;refine hK.o _ _ SaF ?_;generalize((wz.setCell ⟨X+1,0,none⟩ (.int .i64 (T.shapeF l).1)).setCell ⟨X+1,1,none⟩ (.int .i64 ((T.shapeF l).2:Int)))=wz at *;clear hK K;intro hs;try simp only[Act.put]
  clear hs;refine WLd ?_ _;try simp only[Exit.then]
  refine NoPanic.normal ?_;clear q0 q1;have r0:=BK.o.cl 2 0;obtain⟨r1,r2⟩:=BK.o.q2 1 rfl;go_wp2;exact⟨.tuple #[.slice none 0 0,.agg #[.int .i64 (T.shapeF l).1,.int .i64 ((T.shapeF l).2:Int)]],by simp[results,Tryz.results15,go_sem,r0,r1,r2],.inr ⟨by rw[HPF.o];exact HSH.o,by rw[HPF.o],BK.o.since⟩⟩
 have e0:((T.shapeF l).1 != 0)=false:=by simpa using hsh
 have HSP:=Hd (T.shaped_of hsh);have n0:0<n:=by have:=List.length_pos_iff.2 (T.shaped_of hsh).ne;have:=HL.o;omega
 have HSH:=Hd hsh;clear hsh;have hmk:=make_places n hn;go_upto_region 6 with fail
 refine wp_bank [boxAcc (w2.heap.size+1+1+1) 83 [.pointer (some ⟨w2.heap.size+1+1,0,none⟩)],boxAcc (w2.heap.size+1+1) 89 [.slice (some ⟨b,o,none⟩) n c,.slice (some ⟨w2.heap.size+1,0,none⟩) n n,.int .i64 0,.bool false,.slice none 0 0,.slice none 0 0,.int .i64 0],rwA (w2.heap.size+1) n n 87 4 (pvsL (List.replicate n PV.dead)),boxAcc w2.heap.size 27 [.int .i64 (T.shapeF l).1,.int .i64 ((T.shapeF l).2:Int)],boxAcc (X+1) 27 [.int .i64 0,.int .i64 0],boxAcc X 44 [.slice none 0 0]] (by
  have h1:=BK1.o.bx [.int .i64 (T.shapeF l).1,.int .i64 ((T.shapeF l).2:Int)] 27;have h2:=h1.made ((Below.refl _ _).alloc (Nat.le_refl _) _) (World.ownsRow_lit (e:=87) (size:=4) _ (pvsL (List.replicate n PV.dead)).toArray n (Nat.le_refl _) (by unfold maxLen;omega) (by rw[List.size_toArray,pvsL,flat_len PV.cells 4 PV.cells_len,List.length_replicate]));rw[World.size_alloc]at h2;have h3:=h2.bx [.slice (some ⟨b,o,none⟩) n c,.slice (some ⟨w2.heap.size+1,0,none⟩) n n,.int .i64 0,.bool false,.slice none 0 0,.slice none 0 0,.int .i64 0] 89;have h4:=h3.bx [.pointer (some ⟨w2.heap.size+1+1,0,none⟩)] 83;simp only[World.size_alloc]at h4
  exact h4) (fun w3 h3=>?_)
 generalize w2.heap.size=F4 at *;have BK:=Hd h3.drew;have t5:=h3.cl 0 0;have k1:=h3.cl 1 1;clear h3 hmk BK1 hmf;refine wp_region_noPanic ?_;refine WL.begin 6 (fun w'=>w'.cell? ⟨F4+1+1+1,0,none⟩=some (.pointer (some ⟨F4+1+1,0,none⟩))/\w'.cell? ⟨F4+1+1,1,none⟩=some (.slice (some ⟨F4+1,0,none⟩) n n)) (fun _=>True) (by kernel_rfl) ⟨t5,k1⟩ trivial (fun hs=>?_);generalize w3.drew=wz at *;refine WL.tk [(0,[0]),(1,[]),(2,[]),(3,[3])] hs ?_;clear hs
 iterate 4
  (first|refine WLp ?_ ?_ ?_|refine WLl ?_ ?_ ?_);rotate_left
  ·intro w hc;go_simp<;>rfl
  simp only[Act.put,sA,sZ,sS]
 refine TKs.mk ?_;intro hs;refine WLo 4 hs ?_;clear hs;intro K hK;go_simp;refine(ckStart_any _).mono ?_;rintro e wz ⟨y,hy,rfl,hb⟩;have BK:=Hd (bank_join BK.o hb);have HYP:=Hd hy;have HYL:=Hd (show y.p.live=true by rw[hy];rfl);clear hb hy;refine hK.o _ _ (SApp.intro (fun _=>⟨BK.o.cl 2 0,BK.o.cl 3 1⟩) trivial) ?_;unfold PlV;clear hK K;intro hs;try simp only[Act.put,sA,sZ,sS]
 refine WL.tk [(5,[])] hs ?_;clear hs
 iterate 1
  (first|refine WLp ?_ ?_ ?_|refine WLl ?_ ?_ ?_);rotate_left
  ·intro w hc;go_simp<;>rfl
  simp only[Act.put,sA,sZ,sS]
 refine TKs.mk ?_;intro hs;refine WLo 6 hs ?_;clear hs;intro K hK;have hd:(List.replicate n PV.dead)[0]'(by rw[List.length_replicate];exact n0)=PV.dead:=by simp
 have hat:=pvsL_at (RdC.of BK.o 4 rfl) 0 (by rw[List.length_replicate];exact n0);rw[hd]at hat;simp only[Nat.zero_mul,Nat.zero_add]at hat;have c0:=hat.1;have c1:=hat.2.1;have c2:=hat.2.2.1;have c3:=hat.2.2.2;have g0:=BK.o.rfree 4 rfl 0;have g1:=BK.o.rfree 4 rfl 1;have g2:=BK.o.rfree 4 rfl 2;have g3:=BK.o.rfree 4 rfl 3;go_simp;have BK2:=BK.o.putPl 4 rfl 0 (by rw[List.length_replicate];exact n0) y;simp only[Nat.zero_mul,Nat.zero_add]at BK2;rw[HYL.o,PV.live_rv HYL.o,PV.live_yv HYL.o]at BK2;have BK:=Hd BK2;clear BK2 hat hd c0 c1 c2 c3 g0 g1 g2 g3;refine hK.o _ _ SaF ?_;clear hK K;intro hs;try simp only[Act.put]
 clear hs;refine WLd ?_ _;try simp only[Exit.then]
 refine NoPanic.normal ?_;clear t5 k1
 have HXW:=Hd (show((List.replicate n PV.dead).set 0 y).map PV.p=T.places0 l by
  unfold T.places0;rw[List.map_set,List.map_replicate,HL.o,HYP.o]
  rfl)
 have HXL:=Hd (show((List.replicate n PV.dead).set 0 y).length=n by rw[List.length_set,List.length_replicate])
 have HXF:=Hd (show ∀z∈(List.replicate n PV.dead).set 0 y,z.p.live=true->z.p.Wf from fun z hz hl=>by
  rcases List.mem_or_eq_of_mem_set hz with hz|rfl
  ·rw[List.eq_of_mem_replicate hz]at hl;cases hl
  ·rw[HYP.o];exact T.Pl.start_wf)
 have HXA:=Hd (show(y.regA::y.byA::([]:List Acc)).Perm (pvA ((List.replicate n PV.dead).set 0 y))by
  have h1:=pvA_set (List.replicate n PV.dead) 0 y (by rw[List.length_replicate];exact n0);rw[PV.live_accs HYL.o,pvA_dead (fun z hz=>by rw[List.eq_of_mem_replicate (List.mem_of_mem_eraseIdx hz)];rfl)]at h1
  exact h1)
 generalize(List.replicate n PV.dead).set 0 y=xs0 at *;generalize F4+1+1+1=T5 at *;generalize F4+1+1=Wk at *;generalize F4+1=P at *;generalize X+1=X3 at *
 have BK:=Hd (show Bank w _ (boxAcc Wk 89 (wkN (.slice (some ⟨b,o,none⟩) n c) P n n 0 (.bool false) (.slice none 0 0) (.slice none 0 0) (.int .i64 0))::plsA P n n xs0::(pvA xs0 ++ [boxAcc T5 83 [.pointer (some ⟨Wk,0,none⟩)],boxAcc X3 27 [.int .i64 0,.int .i64 0],boxAcc X 44 [.slice none 0 0]]))from by
  have h1:=BK.o.sub (.cons_cons _ (.cons_cons _ (.cons_cons _ (.cons_cons _ (.cons_cons _ (.cons _ (.refl _)))))));have h2:=h1.permB (List.perm_append_comm_assoc [y.regA,y.byA,boxAcc T5 83 [.pointer (some ⟨Wk,0,none⟩)]] [boxAcc Wk 89 (wkN (.slice (some ⟨b,o,none⟩) n c) P n n 0 (.bool false) (.slice none 0 0) (.slice none 0 0) (.int .i64 0)),plsA P n n xs0] [boxAcc X3 27 [.int .i64 0,.int .i64 0],boxAcc X 44 [.slice none 0 0]])
  exact h2.permB (List.Perm.cons _ (List.Perm.cons _ (HXA.o.append_right [boxAcc T5 83 [.pointer (some ⟨Wk,0,none⟩)],boxAcc X3 27 [.int .i64 0,.int .i64 0],boxAcc X 44 [.slice none 0 0]]))))
 clear HXA HYL HYP;go_wp2;go_loopw [] (fun wr=>∃(k:Nat) (xs:List PV) (va vb vd ve:Value),k<=n/\Bank w wr (boxAcc Wk 89 (wkN (.slice (some ⟨b,o,none⟩) n c) P n n k va vb vd ve)::plsA P n n xs::(pvA xs ++ [boxAcc T5 83 [.pointer (some ⟨Wk,0,none⟩)],boxAcc X3 27 [.int .i64 0,.int .i64 0],boxAcc X 44 [.slice none 0 0]]))/\xs.length=n/\(∀z∈xs,z.p.live=true->z.p.Wf)/\T.psteps l (n-k) k (xs.map PV.p)=T.placesOf l) (fun wr=>leftTo Wk n wr)
 case atStart=>exact⟨0,xs0,_,_,_,_,Nat.zero_le _,BK.o,HXL.o,HXF.o,by rw[HXW.o];unfold T.placesOf;rw[HL.o];rfl⟩
 case round =>
  obtain⟨k,xs,va,vb,vd,ve,hk,hB,hxl,hwf,hps⟩:=hrel;have BF:=Hd (hB.permB (List.perm_append_comm (l₁:=boxAcc Wk 89 (wkN (.slice (some ⟨b,o,none⟩) n c) P n n k va vb vd ve)::plsA P n n xs::pvA xs) (l₂:=[boxAcc T5 83 [.pointer (some ⟨Wk,0,none⟩)],boxAcc X3 27 [.int .i64 0,.int .i64 0],boxAcc X 44 [.slice none 0 0]])));have HBK:=Hd hB;have HXL2:=Hd hxl;have HXF2:=Hd hwf;have HPS:=Hd hps;clear hB hxl hwf hps BK;have t5:=BF.o.cl 0 0;have k1:=BF.o.cl 3 1;have k2:=BF.o.cl 3 2;have HM:=Hd (leftTo_at (n:=n) k2);have k0:(0:Int)<=(k:Int):=by omega
  by_cases hlt:k<n
  case neg =>
   have i1:¬(k:Int)<(n:Int):=by omega
   obtain rfl:k=n:=by omega
   have HPL:=Hd (show T.placesOf l=((0,0),xs.map PV.p)by rw[<-HPS.o,Nat.sub_self];rfl);have HPF:=Hd (show T.placesF l=((0,0),xs.map PV.p)by unfold T.placesF;rw[if_neg (by rw[HSH.o];simp),HPL.o];simp);obtain⟨e0,g0⟩:=BF.o.r1 2 rfl;obtain⟨m0,m1,h0,h1⟩:=BF.o.r2 1 rfl;have hne:=BF.o.ne (i:=2) (j:=1) rfl rfl (by decide);have hne2:=hne.symm;have BF:=Hd (((BF.o.bs 2 0 (.slice (some ⟨P,0,none⟩) k k)).bs 1 0 (.int .i64 0)).bs 1 1 (.int .i64 0));go_wp2;clear e0 g0 m0 m1 h0 h1 t5 k1 k2;refine leaves_cons (f:=25) (args:=#[.pointer (some ⟨T5,0,none⟩),.pointer (some ⟨X,0,none⟩),.pointer (some ⟨X3,0,none⟩)]) (by simp) (by simp[go_sem]) ?_;refine(catchPl_idle _ _ _ _).mono ?_;rintro e u' w'' ⟨rfl,rfl,rfl⟩;have r0:=BF.o.cl 2 0;obtain⟨r1,r2⟩:=BF.o.q2 1 rfl;exact⟨.tuple #[.slice (some ⟨P,0,none⟩) k k,.agg #[.int .i64 0,.int .i64 0]],by simp[results,Tryz.results15,go_sem,r0,r1,r2],.inl ⟨by rw[HPF.o],P,k,xs,by rw[HL.o],by rw[HPF.o],by rw[HXL2.o,HL.o],by rw[HL.o];exact BF.o.sub (.cons _ (.cons _ (.cons _ (.cons _ (.refl _)))))⟩⟩
  case pos =>
   have i1:(k:Int)<(n:Int):=by omega
   have hkx:k<xs.length:=by have:=HXL2.o;omega
   have kw:IntKind.i64.wrap ((k:Int)+1)=((k+1:Nat):Int):=IntWalk.i64_in _ (by omega);obtain⟨p0,p1,p2,p3⟩:=pvsL_at (RdC.of BF.o 4 rfl) k hkx;go_upto_region 9 with fail;by_cases hlv:xs[k].p.live=true
   case neg =>
    have hlv2:xs[k].p.live=false:=by simpa using hlv
    rw[hlv2]at p0
    go_region_held3 (fun w' => w'.cell? ⟨T5, 0, none⟩ = some (.pointer (some ⟨Wk, 0, none⟩)) ∧ w'.cell? ⟨Wk, 1, none⟩ = some (.slice (some ⟨P, 0, none⟩) n n) ∧ w'.cell? ⟨Wk, 2, none⟩ = some (.int .i64 (k : Int)) ∧ w'.cell? ⟨P, k * 4, none⟩ = some (.bool false)) (exact ⟨t5, k1, k2, p0⟩) (fail "arm")
    have BF:=Hd BF.o.drew;clear p0 p1 p2 p3 hlv t5 k1 k2;have HDV:=Hd hlv2;clear hlv2;generalize wr.drew=wz at *;have t5:=BF.o.cl 0 0;have k2:=BF.o.cl 3 2;have f2:=BF.o.free 3 rfl 2;have BN:=Hd (show Bank w _ (boxAcc Wk 89 (wkN (.slice (some ⟨b,o,none⟩) n c) P n n (k+1) va vb vd ve)::plsA P n n xs::(pvA xs ++ [boxAcc T5 83 [.pointer (some ⟨Wk,0,none⟩)],boxAcc X3 27 [.int .i64 0,.int .i64 0],boxAcc X 44 [.slice none 0 0]]))from(BF.o.bs 3 2 (.int .i64 ((k+1:Nat):Int))).permB (List.perm_append_comm (l₁:=[boxAcc T5 83 [.pointer (some ⟨Wk,0,none⟩)],boxAcc X3 27 [.int .i64 0,.int .i64 0],boxAcc X 44 [.slice none 0 0]])));go_wp2;go_round
    case rel=>exact⟨k+1,xs,va,vb,vd,ve,by omega,BN.o,HXL2.o,HXF2.o,by rw[<-HPS.o,psteps_at hlt,pstep_dead hkx HDV.o,if_neg (by simp)]⟩
    case measure=>rw[HM.o];exact Nat.lt_of_le_of_lt (Nat.le_of_eq (leftTo_at (n:=n) (BN.o.cl 0 2))) (by omega)
   case pos =>
    rw[hlv]at p0;rw[PV.live_rv hlv]at p1;rw[PV.live_yv hlv]at p2;obtain⟨i,hi⟩:∃i,l[k]?=some i:=⟨_,List.getElem?_eq_getElem (by have:=HL.o;omega)⟩
    have hri:=HSP.o.right i (List.mem_of_getElem? hi);obtain⟨F,hdoes,hcf,hstep⟩:=does_step i hri;have HSTEP:=Hd hstep;have HDOES:=Hd hdoes;have HRI:=Hd hri;have HI:=Hd hi;have HWF:=Hd (HXF2.o _ (List.getElem_mem hkx) hlv);have HPST:=Hd (pstep_live hkx hlv hi)
    have HMEM:=Hd (show xs[k].regA∈pvA xs/\xs[k].byA∈pvA xs from by
     have hx:∀a∈xs[k].accs,a∈pvA xs:=fun a ha=>List.mem_flatMap.2 ⟨_,List.getElem_mem hkx,ha⟩
     rw[PV.live_accs hlv]at hx
     exact⟨hx _ (.head _),hx _ (.tail _ (.head _))⟩)
    clear hstep hdoes hri hi;obtain⟨z,hz⟩:∃z,xs[k]=z:=⟨_,rfl⟩
    rw[hz]at p1 p2 p3 hlv HWF HPST HMEM;clear hz
    go_region_held3 (fun w' => w'.cell? ⟨T5, 0, none⟩ = some (.pointer (some ⟨Wk, 0, none⟩)) ∧ w'.cell? ⟨Wk, 1, none⟩ = some (.slice (some ⟨P, 0, none⟩) n n) ∧ w'.cell? ⟨Wk, 2, none⟩ = some (.int .i64 (k : Int)) ∧ w'.cell? ⟨P, k * 4, none⟩ = some (.bool true)) (exact ⟨t5, k1, k2, p0⟩) (fail "arm")
    go_upto_region 10 with fail;refine wp_region_noPanic ?_;refine WL.begin 11 (fun w'=>w'.cell? ⟨T5,0,none⟩=some (.pointer (some ⟨Wk,0,none⟩))/\w'.cell? ⟨Wk,1,none⟩=some (.slice (some ⟨P,0,none⟩) n n)/\w'.cell? ⟨Wk,2,none⟩=some (.int .i64 (k:Int))/\w'.cell? ⟨P,k*4,none⟩=some (.bool true)/\w'.cell? ⟨P,k*4+1,none⟩=some (.slice (some ⟨z.gr,0,none⟩) 11 z.cr)/\w'.cell? ⟨P,k*4+2,none⟩=some (.slice (some ⟨z.gb,0,none⟩) 512 z.cb)/\w'.cell? ⟨P,k*4+3,none⟩=some (.int .i64 z.p.least)) (fun w'=>w'.cell? ⟨T5,0,none⟩=some (.pointer (some ⟨Wk,0,none⟩))) (by kernel_rfl) ⟨t5,k1,k2,p0,p1,p2,p3⟩ t5 (fun hs=>?_);have BF:=Hd BF.o.drew.drew;generalize wr.drew.drew=wz at *;refine WL.tk [(0,[]),(1,[10,9,4,3,2,1]),(2,[]),(3,[]),(4,[10,9,4]),(5,[10,9,8,7,6,5]),(6,[]),(7,[]),(8,[10,9,8]),(9,[]),(10,[10])] hs ?_;clear hs
    iterate 11
     (first|refine WLp ?_ ?_ ?_|refine WLl ?_ ?_ ?_);rotate_left
     ·intro w hc;go_simp<;>rfl
     simp only[Act.put,sA,sZ,sS]
    refine TKs.mk ?_;intro hs;refine WLo 11 hs ?_;clear hs;intro K hK;go_simp;refine(copied_any z _ HWF.o.rl HWF.o.bl (regA_rd BF.o (by simp[HMEM.o.1])) (byA_rd BF.o (by simp[HMEM.o.2]))).mono ?_;rintro e wz ⟨y2,hy2,rfl,hb⟩;have BF:=Hd (bank_join BF.o hb);have HY2:=Hd hy2;clear hb hy2;unfold PlV;refine hK.o _ _ (SApp.intro (fun h=>(by cases h)) (BF.o.cl 2 0)) ?_;clear hK K;intro hs;try simp only[Act.put,sA,sZ,sS]
    refine WL.tk [(12,[]),(13,[])] hs ?_;clear hs
    iterate 2
     (first|refine WLp ?_ ?_ ?_|refine WLl ?_ ?_ ?_);rotate_left
     ·intro w hc;go_simp<;>rfl
     simp only[Act.put,sA,sZ,sS]
    refine TKs.mk ?_;intro hs;refine WLo 14 hs ?_;clear hs;intro K hK;have e3:=BF.o.cl 5 3;have g3:=BF.o.free 5 rfl 3;have e4:=BF.o.cl 5 4;have g4:=BF.o.free 5 rfl 4;have e5:=BF.o.cl 5 5;have g5:=BF.o.free 5 rfl 5;have e6:=BF.o.cl 5 6;have g6:=BF.o.free 5 rfl 6;go_simp;have BF:=Hd ((((BF.o.bs 5 3 (.bool true)).bs 5 4 (.slice (some ⟨y2.gr,0,none⟩) 11 y2.cr)).bs 5 5 (.slice (some ⟨y2.gb,0,none⟩) 512 y2.cb)).bs 5 6 (.int .i64 y2.p.least));clear e3 e4 e5 e6 g3 g4 g5 g6;refine hK.o _ _ (SApp.intro (fun h=>(by cases h)) (BF.o.cl 2 0)) ?_;clear hK K;intro hs;try simp only[Act.put]
    clear hs;refine WLd ?_ _;try simp only[Exit.then]
    refine NoPanic.normal ?_;clear p0 p1 p2 p3 t5 k1 k2
    have HCK:=Hd (show CkS b o n c l Wk P n k y2 xs i w _ [boxAcc T5 83 [.pointer (some ⟨Wk,0,none⟩)],boxAcc X3 27 [.int .i64 0,.int .i64 0],boxAcc X 44 [.slice none 0 0]]from
     ⟨BF.o.permB (List.perm_append_comm (l₁:=[y2.regA,y2.byA,boxAcc T5 83 [.pointer (some ⟨Wk,0,none⟩)],boxAcc X3 27 [.int .i64 0,.int .i64 0],boxAcc X 44 [.slice none 0 0]]) (l₂:=boxAcc Wk 89 (wkL (.slice (some ⟨b,o,none⟩) n c) P n n k y2)::plsA P n n xs::pvA xs)),HR.o,HI.o,HRI.o,HXL2.o,HL.o,hn,HXF2.o,by rw[HY2.o];exact HWF.o,
      fun hj=>by have h1:=HSP.o.fwd k i HI.o hj;have:=HL.o;omega,fun hj=>by have h1:=HSP.o.last k i HI.o hj.1 hj.2;have:=HL.o;omega⟩)
    go_upto_region 11 with fail;refine wp_ck HCK.o (fun wq hq=>?_);have HCK:=Hd hq;have t5:=hq.cellR (.head _) 0 rfl;have k2:=hq.at 2 rfl;obtain⟨i0,i1',i2,i3,i4,i5,i6,i7⟩:=(hq.rd.since hq.since).cells HI.o;clear hq BF;have KEEP:=Hd (fun w' (S:Since wq w')=>(show w'.cell? ⟨T5,0,none⟩=some (.pointer (some ⟨Wk,0,none⟩))/\w'.cell? ⟨Wk,2,none⟩=some (.int .i64 (k:Int))/\w'.cell? ⟨b,o+k*8,none⟩=some (.int .u8 i.op)/\w'.cell? ⟨b,o+k*8+1,none⟩=some (.bool i.narrow)/\w'.cell? ⟨b,o+k*8+2,none⟩=some (.int .i64 i.dst)/\w'.cell? ⟨b,o+k*8+3,none⟩=some (.int .i64 i.src)/\w'.cell? ⟨b,o+k*8+4,none⟩=some (.bool i.useImm)/\w'.cell? ⟨b,o+k*8+5,none⟩=some (.int .i64 i.off)/\w'.cell? ⟨b,o+k*8+6,none⟩=some (.int .i64 i.imm)/\w'.cell? ⟨b,o+k*8+7,none⟩=some (.int .i64 i.size)from⟨S.keep t5,S.keep k2,S.keep i0,S.keep i1',S.keep i2,S.keep i3,S.keep i4,S.keep i5,S.keep i6,S.keep i7⟩));have ST:=Hd (show Since wq wq.drew from(Below.refl _ _).drew);have HCK:=Hd HCK.o.drew;refine WL.beginP 2 3 (.pointer (some ⟨X,0,none⟩)) (.pointer (some ⟨X3,0,none⟩)) 17 (fun w'=>w'.cell? ⟨T5,0,none⟩=some (.pointer (some ⟨Wk,0,none⟩))/\w'.cell? ⟨Wk,2,none⟩=some (.int .i64 (k:Int))/\w'.cell? ⟨b,o+k*8,none⟩=some (.int .u8 i.op)/\w'.cell? ⟨b,o+k*8+1,none⟩=some (.bool i.narrow)/\w'.cell? ⟨b,o+k*8+2,none⟩=some (.int .i64 i.dst)/\w'.cell? ⟨b,o+k*8+3,none⟩=some (.int .i64 i.src)/\w'.cell? ⟨b,o+k*8+4,none⟩=some (.bool i.useImm)/\w'.cell? ⟨b,o+k*8+5,none⟩=some (.int .i64 i.off)/\w'.cell? ⟨b,o+k*8+6,none⟩=some (.int .i64 i.imm)/\w'.cell? ⟨b,o+k*8+7,none⟩=some (.int .i64 i.size)) (fun _=>True) (by kernel_rfl) ⟨rfl,rfl⟩ (by kernel_rfl) (KEEP.o _ ST.o) trivial (fun hs=>?_);refine WL.tk [(0,[]),(1,[8,7,6,5,4,3,2,1]),(2,[]),(3,[]),(4,[8,7,6,5,4]),(5,[]),(6,[]),(7,[8,7]),(9,[9]),(10,[]),(11,[16,15,14,13,12,11]),(12,[]),(13,[]),(14,[16,15,14]),(15,[]),(16,[16])] hs ?_;clear hs
    iterate 16
     (first|refine WLp ?_ ?_ ?_|refine WLl ?_ ?_ ?_);rotate_left
     ·intro w hc;go_simp<;>rfl
     simp only[Act.put,sA,sZ,sS]
    refine TKs.mk ?_;intro hs;refine WLo 8 hs ?_;clear hs;intro K hK;go_simp;refine(HDOES.o _).mono ?_;rintro e wz ⟨rfl,hs⟩;have HCK:=Hd (HCK.o.call hs);have ST:=Hd (ST.o.add hs);clear hs;refine hK.o _ _ (SApp.intro (fun _=>KEEP.o _ ST.o) trivial) ?_;clear hK K;intro hs;try simp only[Act.put,sA,sZ,sS]
    refine WLo 17 hs ?_;clear hs;intro K hK;go_simp;refine(HSTEP.o _ _ _ _ _ _ _ _ _ _ _ _ _ _ HCK.o).mono ?_;rintro e w9 ⟨va2,vb2,vd2,ve2,⟨h1,rfl,xs2,hx2,hb2⟩|⟨h1,rfl,hb2⟩⟩
    case inr =>
     intro a' hI hd;show Leaves Tryz.prog Tryz.f15 a'.tmps (PlacesP w l) a'.defers (.panicking (eP _)) w9
     rw[show a'.defers=_ from hd];dsimp only
     have HPL:=Hd (show T.placesOf l=(((T.cstep i y2.p).1,k),xs.map PV.p)by
      rw[<-HPS.o,psteps_at hlt,HPST.o,<-HY2.o,if_pos h1]
      exact if_pos h1)
     have HPF:=Hd (show T.placesF l=(((T.cstep i y2.p).1,k),[])by unfold T.placesF;rw[if_neg (by rw[HSH.o];simp),HPL.o,if_pos h1]);have hb3:=hb2.permB ((List.perm_append_comm (l₁:=[boxAcc Wk 89 (wkN (.slice (some ⟨b,o,none⟩) n c) P n n k va2 vb2 vd2 ve2),boxAcc T5 83 [.pointer (some ⟨Wk,0,none⟩)]]) (l₂:=[boxAcc X3 27 [.int .i64 0,.int .i64 0],boxAcc X 44 [.slice none 0 0]])).trans (.cons _ (.cons _ (.swap _ _ _))));refine leaves_cons (f:=25) (args:=#[.pointer (some ⟨T5,0,none⟩),.pointer (some ⟨X,0,none⟩),.pointer (some ⟨X3,0,none⟩)]) (by simp) (by simp[go_sem]) ?_;refine(catchPl_panicking T5 X X3 Wk _ (k:Int) _ _ _ _ hb3 rfl).mono ?_;rintro e u' w'' ⟨rfl,rfl,hb4⟩;have r0:=hb4.cl 1 0;obtain⟨r1,r2⟩:=hb4.q2 0 rfl;have s2:=hI.1;have s3:=hI.2;exact⟨.tuple #[.slice none 0 0,.agg #[.int .i64 (T.cstep i y2.p).1,.int .i64 (k:Int)]],by simp[results,Tryz.results15,go_sem,r0,r1,r2,s2,s3],.inr ⟨by rw[HPF.o];exact h1,by rw[HPF.o],hb4.since⟩⟩
    have HX2:=Hd hx2;have HB2:=Hd hb2;have H1:=Hd h1;clear hx2 hb2 h1;refine hK.o _ _ SaF ?_;clear hK K;intro hs;try simp only[Act.put,sA,sZ,sS]
    clear hs;refine WLd ?_ _;try simp only[Exit.then]
    refine PanQ.normal ?_;have BF:=Hd (HB2.o.permB (List.perm_append_comm (l₁:=boxAcc Wk 89 (wkN (.slice (some ⟨b,o,none⟩) n c) P n n k va2 vb2 vd2 ve2)::plsA P n n xs2::pvA xs2) (l₂:=[boxAcc T5 83 [.pointer (some ⟨Wk,0,none⟩)],boxAcc X3 27 [.int .i64 0,.int .i64 0],boxAcc X 44 [.slice none 0 0]])));clear t5 k2 i0 i1' i2 i3 i4 i5 i6 i7 KEEP;have t5:=BF.o.cl 0 0;have k2:=BF.o.cl 3 2;have f2:=BF.o.free 3 rfl 2;have BN:=Hd (show Bank w _ (boxAcc Wk 89 (wkN (.slice (some ⟨b,o,none⟩) n c) P n n (k+1) va2 vb2 vd2 ve2)::plsA P n n xs2::(pvA xs2 ++ [boxAcc T5 83 [.pointer (some ⟨Wk,0,none⟩)],boxAcc X3 27 [.int .i64 0,.int .i64 0],boxAcc X 44 [.slice none 0 0]]))from(BF.o.bs 3 2 (.int .i64 ((k+1:Nat):Int))).permB (List.perm_append_comm (l₁:=[boxAcc T5 83 [.pointer (some ⟨Wk,0,none⟩)],boxAcc X3 27 [.int .i64 0,.int .i64 0],boxAcc X 44 [.slice none 0 0]])));have HCW:=Hd (T.cstep_wf (p:=y2.p) (by rw[HY2.o];exact HWF.o) i (show T.cstep i y2.p=(0,(T.cstep i y2.p).2.1,(T.cstep i y2.p).2.2)from Prod.ext H1.o rfl));go_wp2;go_round
    case rel=>exact⟨k+1,xs2,va2,vb2,vd2,ve2,by omega,BN.o,by have h:=congrArg List.length HX2.o;rw[T.told_length,T.told_length,List.length_map,List.length_map]at h;rw[h];exact HXL2.o,wfs_two HXF2.o HCW.o.1 HCW.o.2 HX2.o,by rw[<-HPS.o,psteps_at hlt,HPST.o,<-HY2.o,if_neg (show ¬(T.cstep i y2.p).1≠0 from fun h=>h H1.o),HX2.o];exact(if_neg (fun h=>h rfl)).symm⟩
    case measure=>rw[HM.o];exact Nat.lt_of_le_of_lt (Nat.le_of_eq (leftTo_at (n:=n) (BN.o.cl 0 2))) (by omega)
end Go.Proofs.YtfeipbgnjainlaaGreatDoor.K
