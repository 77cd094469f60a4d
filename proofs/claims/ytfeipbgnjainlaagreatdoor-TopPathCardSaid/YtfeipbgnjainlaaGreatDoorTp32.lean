/- TCkG -/
import Derived.Test.YtfeipbgnjainlaaGreatDoorTp2
import Derived.Test.YtfeipbgnjainlaaGreatDoorTp27
import Derived.Test.YtfeipbgnjainlaaGreatDoorTp23
import Derived.Test.YtfeipbgnjainlaaGreatDoorTp3
import Derived.Deep.DeepCutAuto
set_option linter.unusedVariables false
set_option linter.unusedSimpArgs false
set_option maxRecDepth 100000
set_option maxHeartbeats 8000000
namespace Go.Proofs.YtfeipbgnjainlaaGreatDoor.K
open Go Go.RowKit Go.Maps Go.Sort
theorem StepP.noZ{w0:World}{lv:Value}{Wk P n c k:Nat}{ps:List T.Pl}{Z:Acc}{R:List Acc}{r:Int×Option T.Pl×Option T.Pl}{off:Int}{e:Ending}{w':World}(h:StepP w0 lv Wk P n c k ps (Z::R) r off e w'):StepP w0 lv Wk P n c k ps R r off e w':=by
 obtain⟨va,vb,vd,ve,⟨h1,h2,xs',h3,h4⟩|⟨h1,h2,h3⟩⟩:=h
 ·exact⟨va,vb,vd,ve,.inl ⟨h1,h2,xs',h3,h4.noZ⟩⟩
 ·exact⟨va,vb,vd,ve,.inr ⟨h1,h2,h3.sub (.cons_cons _ (.cons _ (.refl _)))⟩⟩
section
variable{b o n cl:Nat}{l:List T.Ins}{Wk P c k:Nat}{x:PV}{xs:List PV}{i:T.Ins}{w0 w:World}{R:List Acc}
theorem CkS.alloc(h:CkS b o n cl l Wk P c k x xs i w0 w R)(ob:Obj):CkS b o n cl l Wk P c k x xs i w0 (w.alloc ob) R:={ h with bank:=h.bank.alloc ob }
theorem CkS.since(h:CkS b o n cl l Wk P c k x xs i w0 w R):Since w0 w:=h.bank.since
theorem CkS.front{Z:Acc}(h:CkS b o n cl l Wk P c k x xs i w0 w (Z::R)):Bank w0 w (Z::(boxAcc Wk 89 (wkL (.slice (some ⟨b,o,none⟩) n cl) P n c k x)::plsA P n c xs::(pvA xs++(x.regA::x.byA::R)))):=by
 refine h.bank.permB ?_;have:=(List.perm_middle (a:=Z) (l₁:=boxAcc Wk 89 (wkL (.slice (some ⟨b,o,none⟩) n cl) P n c k x)::plsA P n c xs::(pvA xs ++ [x.regA,x.byA])) (l₂:=R))
 simpa using this
theorem CkS.back{Z Z':Acc}(h:CkS b o n cl l Wk P c k x xs i w0 w (Z::R)){w':World}(hb:Bank w0 w' (Z'::(boxAcc Wk 89 (wkL (.slice (some ⟨b,o,none⟩) n cl) P n c k x)::plsA P n c xs::(pvA xs++(x.regA::x.byA::R))))):CkS b o n cl l Wk P c k x xs i w0 w' (Z'::R):=by
 refine { h with bank:=hb.permB ?_ };have:=(List.perm_middle (a:=Z') (l₁:=boxAcc Wk 89 (wkL (.slice (some ⟨b,o,none⟩) n cl) P n c k x)::plsA P n c xs::(pvA xs ++ [x.regA,x.byA])) (l₂:=R)).symm;simpa using this
theorem CkS.set1{g:Nat}{t:TypeId}{vs:List Value}(h:CkS b o n cl l Wk P c k x xs i w0 w (boxAcc g t vs::R))(j:Nat)(v:Value):CkS b o n cl l Wk P c k x xs i w0 (w.setCell ⟨g,j,none⟩ v) (boxAcc g t (vs.set j v)::R):=h.back (h.front.boxSet 0 rfl j v)
theorem CkS.swapR{Y Z:Acc}(h:CkS b o n cl l Wk P c k x xs i w0 w (Y::Z::R)):CkS b o n cl l Wk P c k x xs i w0 w (Z::Y::R):={ h with bank:=h.bank.permB (List.Perm.cons _ (List.Perm.cons _ (List.Perm.append_left _ (List.Perm.cons _ (List.Perm.cons _ (List.Perm.swap _ _ _)))))) }
theorem CkS.cellR{g:Nat}{t:TypeId}{vs:List Value}(h:CkS b o n cl l Wk P c k x xs i w0 w R)(hm:boxAcc g t vs∈R)(j:Nat){v:Value}(hv:vs[j]?=some v):w.cell? ⟨g,j,none⟩=some v:=by
 obtain⟨q,hq⟩:=List.mem_iff_getElem?.1 (show boxAcc g t vs∈boxAcc Wk 89 (wkL (.slice (some ⟨b,o,none⟩) n cl) P n c k x)::plsA P n c xs::(pvA xs++(x.regA::x.byA::R))by simp[hm]);exact h.bank.cell q hq j hv
theorem CkS.freeR{g:Nat}{t:TypeId}{vs:List Value}(h:CkS b o n cl l Wk P c k x xs i w0 w R)(hm:boxAcc g t vs∈R)(j:Nat):w.frozen? ⟨g,j,none⟩=false:=by
 obtain⟨q,hq⟩:=List.mem_iff_getElem?.1 (show boxAcc g t vs∈boxAcc Wk 89 (wkL (.slice (some ⟨b,o,none⟩) n cl) P n c k x)::plsA P n c xs::(pvA xs++(x.regA::x.byA::R))by simp[hm]);exact h.bank.free q hq j
theorem CkS.regFront(h:CkS b o n cl l Wk P c k x xs i w0 w R):Bank w0 w (x.regA::(boxAcc Wk 89 (wkL (.slice (some ⟨b,o,none⟩) n cl) P n c k x)::plsA P n c xs::(pvA xs++(x.byA::R)))) :=
 h.bank.permB (List.perm_middle (a:=x.regA) (l₁:=boxAcc Wk 89 (wkL (.slice (some ⟨b,o,none⟩) n cl) P n c k x)::plsA P n c xs::pvA xs) (l₂:=x.byA::R))
theorem wp_ck{P':Program}{cd:Code}{Q:Exit->Act->World->Prop}{a:Act}(h:CkS b o n cl l Wk P c k x xs i w0 w R)(hk:∀w',CkS b o n cl l Wk P c k x xs i w0 w' R->cd.wp P' Q a w'):cd.wp P' Q a w:=hk w h
theorem CkS.putReg(h:CkS b o n cl l Wk P c k x xs i w0 w R)(s:Nat)(hs:s<11)(K:T.Kn)(hK:K.right=true):CkS b o n cl l Wk P c k { x with p:=x.p.put (s:Int) K } xs i w0 (((w.setCell ⟨x.gr,s*3,none⟩ (.int .u8 K.k)).setCell ⟨x.gr,s*3+1,none⟩ (W64 K.s.lo)).setCell ⟨x.gr,s*3+2,none⟩ (W64 K.s.hi)) R:=by
 have h1:=h.regFront.putKn 0 rfl s (by rw[h.wf.rl];exact hs) K;refine { h with bank:=h1.permB ?_,wf:=h.wf.put _ hK };exact(List.perm_middle (a:=({ x with p:=x.p.put (s:Int) K }:PV).regA) (l₁:=boxAcc Wk 89 (wkL (.slice (some ⟨b,o,none⟩) n cl) P n c k x)::plsA P n c xs::pvA xs) (l₂:=x.byA::R)).symm
theorem CkS.regFree(h:CkS b o n cl l Wk P c k x xs i w0 w R)(j:Nat):w.frozen? ⟨x.gr,j,none⟩=false:=h.regFront.rfree 0 rfl j
end
theorem reckon_any{b o n cl:Nat}{l:List T.Ins}{Wk P c k:Nat}{x:PV}{xs:List PV}{i:T.Ins}{w0 w:World}{R:List Acc}(h:CkS b o n cl l Wk P c k x xs i w0 w R)(ho:i.op<=13):Calls Tryz.prog 80 #[.pointer (some ⟨Wk,0,none⟩),insV i] w (StepP w0 (.slice (some ⟨b,o,none⟩) n cl) Wk P n c k (xs.map PV.p) R (T.cstep i x.p) i.off):=by
 obtain⟨⟨d0,d1⟩,⟨s0,s1⟩,_,_,_,⟨o1,_⟩,d9⟩:=T.right_facts h.right;have hop:1<=i.op/\i.op<=13:=⟨o1,ho⟩
 have HV:=Hd (show T.cstep i x.p=if(T.kof i x.p).2≠0 then((T.kof i x.p).2,none,none)else(0,some (x.p.put i.dst (T.kof i x.p).1),none)by
  unfold T.cstep
  rw[if_neg (by omega),if_neg (by omega),if_neg (by omega),if_neg (by omega),if_pos ho])
 have HNX:=Hd (h.next ⟨by omega,by omega⟩);have HS:=Hd (h.box [.int .u8 i.op,.bool i.narrow,.int .i64 i.dst,.int .i64 i.src,.bool i.useImm,.int .i64 i.off,.int .i64 i.imm,.int .i64 i.size] 55 (by simp));have hl:x.p.regs.length=11:=h.wf.rl;have HY:=Hd (T.second_right h.wf i);clear h ho d9;unfold insV insL;go_enter Tryz.func80,Tryz.ntmps80;go_upto_region 1 with fail;generalize w.heap.size=X at *;change Code.wp _ _ _ _ (w.alloc (.cells #[.int .u8 i.op,.bool i.narrow,.int .i64 i.dst,.int .i64 i.src,.bool i.useImm,.int .i64 i.off,.int .i64 i.imm,.int .i64 i.size] 55));generalize(w.alloc (.cells #[.int .u8 i.op,.bool i.narrow,.int .i64 i.dst,.int .i64 i.src,.bool i.useImm,.int .i64 i.off,.int .i64 i.imm,.int .i64 i.size] 55))=w1 at *;have c4:=HS.o.at 4 rfl;have i0:=HS.o.cellR (.head _) 0 rfl;have i1:=HS.o.cellR (.head _) 1 rfl;have i2:=HS.o.cellR (.head _) 2 rfl;have i3:=HS.o.cellR (.head _) 3 rfl;have i4:=HS.o.cellR (.head _) 4 rfl;have i5:=HS.o.cellR (.head _) 5 rfl;have i6:=HS.o.cellR (.head _) 6 rfl;have i7:=HS.o.cellR (.head _) 7 rfl;go_wp2_with fail;refine(second_any Wk x.gr x.cr x.p i w1 c4 HS.o.regs hl ⟨s0,s1⟩).mono ?_;rintro e w2 ⟨rfl,hs⟩;have HS:=Hd (HS.o.call hs);obtain⟨K,hK⟩:∃K,T.second i x.p=K:=⟨_,rfl⟩
 rw[hK]at HY ⊢;unfold knv;clear hs c4 i0 i1 i2 i3 i4 i5 i6 i7;obtain⟨q,hq⟩:∃q:T.Kn,q=if i.op=13 then T.Kn.none else K:=⟨_,rfl⟩
 have HQ:=Hd (show(T.kof i x.p)=T.kdo i.op i.narrow (x.p.reg i.dst) q by unfold T.kof;rw[hK,hq]);have HQR:=Hd (show q.right=true by rw[hq];split;exact T.Kn.none_right;exact HY.o);go_upto_region 2 with fail;obtain⟨A,hA⟩:∃A,A=w2.heap.size:=⟨_,rfl⟩
 rw[<-hA];refine wp_ck (R:=boxAcc A 124 [.int .u8 K.k,W64 K.s.lo,W64 K.s.hi]::boxAcc X 55 [.int .u8 i.op,.bool i.narrow,.int .i64 i.dst,.int .i64 i.src,.bool i.useImm,.int .i64 i.off,.int .i64 i.imm,.int .i64 i.size]::R) (by rw[hA];exact HS.o.box [.int .u8 K.k,W64 K.s.lo,W64 K.s.hi] 124 (by simp)) (fun w3 h3=>?_);have HS:=Hd h3;have i0:=h3.cellR (.tail _ (.head _)) 0 rfl;have a0:=h3.cellR (.head _) 0 rfl;have a1:=h3.cellR (.head _) 1 rfl;have a2:=h3.cellR (.head _) 2 rfl;have fa0:=h3.freeR (.head _) 0;have fa1:=h3.freeR (.head _) 1;have fa2:=h3.freeR (.head _) 2;clear hA hK h3;by_cases h13:i.op=13
 case' pos =>
  rw[if_pos h13]at hq;have e13:(i.op==13)=true:=by simpa using h13
  go_upto_region 4 with fail;refine wp_ck (R:=boxAcc A 124 [.int .u8 q.k,W64 q.s.lo,W64 q.s.hi]::boxAcc X 55 [.int .u8 i.op,.bool i.narrow,.int .i64 i.dst,.int .i64 i.src,.bool i.useImm,.int .i64 i.off,.int .i64 i.imm,.int .i64 i.size]::R) (by subst hq;exact((HS.o.set1 0 (.int .u8 0)).set1 1 (W64 0#64)).set1 2 (W64 0#64)) (fun w4 h4=>?_)
 case' neg =>
  rw[if_neg h13]at hq;have e13:(i.op==13)=false:=by simpa using h13
  go_upto_region 4 with fail;refine wp_ck (R:=boxAcc A 124 [.int .u8 q.k,W64 q.s.lo,W64 q.s.hi]::boxAcc X 55 [.int .u8 i.op,.bool i.narrow,.int .i64 i.dst,.int .i64 i.src,.bool i.useImm,.int .i64 i.off,.int .i64 i.imm,.int .i64 i.size]::R) (by subst hq;exact HS.o) (fun w4 h4=>?_)
 all_goals
  have HS:=Hd h4;clear i0 a0 a1 a2 fa0 fa1 fa2 h4 e13 hq h13;obtain⟨s,hds⟩:=Int.eq_ofNat_of_zero_le d0;have s11:s<11:=by omega
  have c4:=HS.o.at 4 rfl;have i0:=HS.o.cellR (.tail _ (.head _)) 0 rfl;have i1:=HS.o.cellR (.tail _ (.head _)) 1 rfl;have i2:=HS.o.cellR (.tail _ (.head _)) 2 rfl;have a0:=HS.o.cellR (.head _) 0 rfl;have a1:=HS.o.cellR (.head _) 1 rfl;have a2:=HS.o.cellR (.head _) 2 rfl;obtain⟨e0,e1,e2⟩:=knsL_reg HS.o.regs hl s s11;rw[hds]at i2;obtain⟨u,hu⟩:∃u,x.p.reg (s:Int)=u:=⟨_,rfl⟩
  have HU:=Hd (show u.right=true by rw[<-hu];exact HS.o.wf.reg _);rw[hu]at e0 e1 e2;have HK:=Hd (show T.kof i x.p=T.kdo i.op i.narrow u q by rw[HQ.o,hds,hu]);have HDS:=Hd hds;clear hu hds;have z0:(0:Int)<=(s:Int):=by omega
  have z1:(s:Int)<(11:Int):=by omega
  have KEEP:=Hd (fun w' (S:Since w4 w')=>(show w'.cell? ⟨Wk,4,none⟩=some (.slice (some ⟨x.gr,0,none⟩) 11 x.cr)/\w'.cell? ⟨X,0,none⟩=some (.int .u8 i.op)/\w'.cell? ⟨X,1,none⟩=some (.bool i.narrow)/\w'.cell? ⟨X,2,none⟩=some (.int .i64 (s:Int))/\w'.cell? ⟨x.gr,s*3,none⟩=some (.int .u8 u.k)/\w'.cell? ⟨x.gr,s*3+1,none⟩=some (W64 u.s.lo)/\w'.cell? ⟨x.gr,s*3+2,none⟩=some (W64 u.s.hi)/\w'.cell? ⟨A,0,none⟩=some (.int .u8 q.k)/\w'.cell? ⟨A,1,none⟩=some (W64 q.s.lo)/\w'.cell? ⟨A,2,none⟩=some (W64 q.s.hi)from⟨S.keep c4,S.keep i0,S.keep i1,S.keep i2,S.keep e0,S.keep e1,S.keep e2,S.keep a0,S.keep a1,S.keep a2⟩));go_cut [5,6] (fun s5 s6 wx=>∃B,s5=.pointer (some ⟨B,0,none⟩)/\s6=.int .i64 (T.kof i x.p).2/\CkS b o n cl l Wk P c k x xs i w0 wx (boxAcc B 124 [.int .u8 (T.kof i x.p).1.k,W64 (T.kof i x.p).1.s.lo,W64 (T.kof i x.p).1.s.hi]::boxAcc A 124 [.int .u8 q.k,W64 q.s.lo,W64 q.s.hi]::boxAcc X 55 [.int .u8 i.op,.bool i.narrow,.int .i64 i.dst,.int .i64 i.src,.bool i.useImm,.int .i64 i.off,.int .i64 i.imm,.int .i64 i.size]::R))
  case first =>
   have ST:=Hd (show Since w4 w4.drew from(Below.refl _ _).drew);have HS:=Hd HS.o.drew;refine WL.begin 19 (fun w'=>w'.cell? ⟨Wk,4,none⟩=some (.slice (some ⟨x.gr,0,none⟩) 11 x.cr)/\w'.cell? ⟨X,0,none⟩=some (.int .u8 i.op)/\w'.cell? ⟨X,1,none⟩=some (.bool i.narrow)/\w'.cell? ⟨X,2,none⟩=some (.int .i64 (s:Int))/\w'.cell? ⟨x.gr,s*3,none⟩=some (.int .u8 u.k)/\w'.cell? ⟨x.gr,s*3+1,none⟩=some (W64 u.s.lo)/\w'.cell? ⟨x.gr,s*3+2,none⟩=some (W64 u.s.hi)/\w'.cell? ⟨A,0,none⟩=some (.int .u8 q.k)/\w'.cell? ⟨A,1,none⟩=some (W64 q.s.lo)/\w'.cell? ⟨A,2,none⟩=some (W64 q.s.hi)) (fun _=>True) (by kernel_rfl) (KEEP.o _ ST.o) trivial (fun hs=>?_);generalize w4.drew=w5 at *;refine WL.tk [(0,[]),(1,[1]),(2,[]),(3,[3]),(4,[]),(5,[]),(6,[]),(7,[]),(8,[8]),(9,[]),(10,[10]),(11,[]),(12,[12]),(13,[13])] hs ?_;clear hs
   iterate 14
    (first|refine WLp ?_ ?_ ?_|refine WLl ?_ ?_ ?_);rotate_left
    ·intro w hc;go_simp<;>rfl
    simp only[Act.put,sA,sZ,sS]
   refine TKs.mk ?_;intro hs;refine WL.o2 (i:=14) (j:=18) (by kernel_rfl) rfl rfl hs ?_ ?_<;>clear hs
   ·intro K hK
    go_simp;refine(kdo_any i.op i.narrow u q hop HU.o HQR.o _).mono ?_;rintro e wk ⟨rfl,hs⟩;have HS:=Hd (HS.o.call hs);have ST:=Hd (ST.o.add hs);clear hs;unfold knv;refine hK.o _ _ (SApp.intro (fun _=>KEEP.o _ ST.o) trivial) ?_;clear hK K;intro hs;try simp only[Act.put,sA,sZ,sS]
    refine WL.tk [(15,[]),(16,[]),(17,[])] hs ?_;clear hs
    iterate 3
     (first|refine WLp ?_ ?_ ?_|refine WLl ?_ ?_ ?_);rotate_left
     ·intro w hc;go_simp<;>rfl
     simp only[Act.put,sA,sZ,sS]
    refine TKs.mk ?_;intro hs;refine WLo 18 hs ?_;clear hs;intro K hK;go_simp;have HS:=Hd (HS.o.box [.int .u8 0,W64 0#64,W64 0#64] 124 (by simp));have ST:=Hd (ST.o.alloc (.cells #[.int .u8 0,W64 0#64,W64 0#64] 124));refine hK.o _ _ (SApp.intro (fun _=>KEEP.o _ ST.o) trivial) ?_
    first|(generalize hgw:(wk.alloc (.cells #[.int .u8 0,W64 0#64,W64 0#64] 124))=w6 at *;generalize wk.heap.size=B at *;clear hgw)|(generalize hgw:(w5.alloc (.cells #[.int .u8 0,W64 0#64,W64 0#64] 124))=w6 at *;generalize w5.heap.size=B at *;clear hgw)
    clear hK K;intro hs;try simp only[Act.put,sA,sZ,sS]
    refine WLo 19 hs ?_;clear hs;intro K hK;have b0:=HS.o.cellR (.head _) 0 rfl;have b1:=HS.o.cellR (.head _) 1 rfl;have b2:=HS.o.cellR (.head _) 2 rfl;have fb0:=HS.o.freeR (.head _) 0;have fb1:=HS.o.freeR (.head _) 1;have fb2:=HS.o.freeR (.head _) 2;go_simp;have HS:=Hd (((HS.o.set1 0 (.int .u8 (T.kdo i.op i.narrow u q).1.k)).set1 1 (W64 (T.kdo i.op i.narrow u q).1.s.lo)).set1 2 (W64 (T.kdo i.op i.narrow u q).1.s.hi));clear b0 b1 b2 fb0 fb1 fb2;refine hK.o _ _ SaF ?_;clear hK K;intro hs;try simp only[Act.put]
    refine WLo 20 hs ?_;clear hs;intro K hK;go_simp;refine hK.o _ _ SaF ?_;clear hK K;intro hs;try simp only[Act.put,sA,sZ,sS]
    clear hs;refine WLd ?_ _;try simp only[Exit.then]
    go_wp2_with fail;go_meet;exact⟨_,rfl,by rw[HK.o],by rw[HK.o];exact HS.o⟩
   ·intro K hK
    go_simp;have HS:=Hd (HS.o.box [.int .u8 0,W64 0#64,W64 0#64] 124 (by simp));have ST:=Hd (ST.o.alloc (.cells #[.int .u8 0,W64 0#64,W64 0#64] 124));refine hK.o _ _ (SApp.intro (fun _=>KEEP.o _ ST.o) trivial) ?_
    first|(generalize hgw:(wk.alloc (.cells #[.int .u8 0,W64 0#64,W64 0#64] 124))=w6 at *;generalize wk.heap.size=B at *;clear hgw)|(generalize hgw:(w5.alloc (.cells #[.int .u8 0,W64 0#64,W64 0#64] 124))=w6 at *;generalize w5.heap.size=B at *;clear hgw)
    clear hK K;intro hs;try simp only[Act.put,sA,sZ,sS]
    refine WLo 14 hs ?_;clear hs;intro K hK;go_simp;refine(kdo_any i.op i.narrow u q hop HU.o HQR.o _).mono ?_;rintro e wk ⟨rfl,hs⟩;have HS:=Hd (HS.o.call hs);have ST:=Hd (ST.o.add hs);clear hs;unfold knv;refine hK.o _ _ (SApp.intro (fun _=>KEEP.o _ ST.o) trivial) ?_;clear hK K;intro hs;try simp only[Act.put,sA,sZ,sS]
    refine WL.tk [(15,[]),(16,[]),(17,[])] hs ?_;clear hs
    iterate 3
     (first|refine WLp ?_ ?_ ?_|refine WLl ?_ ?_ ?_);rotate_left
     ·intro w hc;go_simp<;>rfl
     simp only[Act.put,sA,sZ,sS]
    refine TKs.mk ?_;intro hs;refine WLo 19 hs ?_;clear hs;intro K hK;have b0:=HS.o.cellR (.head _) 0 rfl;have b1:=HS.o.cellR (.head _) 1 rfl;have b2:=HS.o.cellR (.head _) 2 rfl;have fb0:=HS.o.freeR (.head _) 0;have fb1:=HS.o.freeR (.head _) 1;have fb2:=HS.o.freeR (.head _) 2;go_simp;have HS:=Hd (((HS.o.set1 0 (.int .u8 (T.kdo i.op i.narrow u q).1.k)).set1 1 (W64 (T.kdo i.op i.narrow u q).1.s.lo)).set1 2 (W64 (T.kdo i.op i.narrow u q).1.s.hi));clear b0 b1 b2 fb0 fb1 fb2;refine hK.o _ _ SaF ?_;clear hK K;intro hs;try simp only[Act.put]
    refine WLo 20 hs ?_;clear hs;intro K hK;go_simp;refine hK.o _ _ SaF ?_;clear hK K;intro hs;try simp only[Act.put,sA,sZ,sS]
    clear hs;refine WLd ?_ _;try simp only[Exit.then]
    go_wp2_with fail;go_meet;exact⟨_,rfl,by rw[HK.o],by rw[HK.o];exact HS.o⟩
  case rest =>
   obtain⟨B,rfl,rfl,hS⟩:=hcut;obtain⟨KF,hKF⟩:∃KF,T.kof i x.p=KF:=⟨_,rfl⟩
   rw[hKF]at hS HV HK ⊢;have HS:=Hd hS;clear hS hKF c4 i0 i1 i2 a0 a1 a2 e0 e1 e2 KEEP;by_cases hz:KF.2=0
   ·have HV2:=Hd (show T.cstep i x.p=(0,some (x.p.put (s:Int) KF.1),none)by rw[HV.o,if_neg (by rw[hz];decide),HDS.o])
    have HKR:=Hd (show KF.1.right=true from T.kdo_right i.op i.narrow u q KF.1 (by rw[<-HK.o,<-hz]));clear HV;go_wp2_with fail;refine(mustC_any _ _).mono ?_;rintro e w7 (⟨_,rfl,rfl⟩|⟨hn,_⟩)
    case inr=>exact absurd rfl hn
    clear hz;have c4:=HS.o.at 4 rfl;have i2:=HS.o.cellR (.tail _ (.tail _ (.head _))) 2 rfl;rw[HDS.o]at i2;have b0:=HS.o.cellR (.head _) 0 rfl;have b1:=HS.o.cellR (.head _) 1 rfl;have b2:=HS.o.cellR (.head _) 2 rfl;go_upto_region 6 with fail;refine WL.begin 9 (fun w'=>w'.cell? ⟨Wk,4,none⟩=some (.slice (some ⟨x.gr,0,none⟩) 11 x.cr)/\w'.cell? ⟨X,2,none⟩=some (.int .i64 (s:Int))/\w'.cell? ⟨B,0,none⟩=some (.int .u8 KF.1.k)/\w'.cell? ⟨B,1,none⟩=some (W64 KF.1.s.lo)/\w'.cell? ⟨B,2,none⟩=some (W64 KF.1.s.hi)) (fun _=>True) (by kernel_rfl) ⟨c4,i2,b0,b1,b2⟩ trivial (fun hs=>?_);refine WL.tk [(0,[]),(1,[]),(2,[]),(3,[]),(4,[4]),(5,[]),(6,[6]),(7,[7]),(8,[])] hs ?_;clear hs
    iterate 9
     (first|refine WLp ?_ ?_ ?_|refine WLl ?_ ?_ ?_);rotate_left
     ·intro w hc;go_simp<;>rfl
     simp only[Act.put,sA,sZ,sS]
    refine TKs.mk ?_;intro hs;refine WLo 9 hs ?_;clear hs;intro K hK;have hee:=knsL_reg HS.o.regs hl s s11;have e0:=hee.1;have e1:=hee.2.1;have e2:=hee.2.2;clear hee;have f0:=HS.o.regFree (s*3);have f1:=HS.o.regFree (s*3+1);have f2:=HS.o.regFree (s*3+2);go_simp;have HS:=Hd (HS.o.putReg s s11 KF.1 HKR.o).drew;clear e0 e1 e2 f0 f1 f2;refine hK.o _ _ SaF ?_
    first|generalize((((w7.setCell ⟨x.gr,s*3,none⟩ (.int .u8 KF.1.k)).setCell ⟨x.gr,s*3+1,none⟩ (W64 KF.1.s.lo)).setCell ⟨x.gr,s*3+2,none⟩ (W64 KF.1.s.hi)).drew)=w8 at *
    clear hK K;intro hs;try simp only[Act.put]
    clear hs;refine WLd ?_ _;try simp only[Exit.then]
    clear c4 i2 b0 b1 b2;have c3:=HS.o.at 3 rfl;have c4:=HS.o.at 4 rfl;have c5:=HS.o.at 5 rfl;have c6:=HS.o.at 6 rfl;go_wp2_with fail;refine(HS.o.ahead HNX.o).mono ?_;rintro e w9 hst;obtain⟨va,vb,vd,ve,⟨_,rfl,xs',hx,hb⟩|⟨hn,_⟩⟩:=hst.noZ.noZ.noZ
    case inr=>exact absurd rfl hn
    have HX:=Hd hx;have HB:=Hd hb;clear hst hx hb c3 c4 c5 c6;go_wp2;go_end0;exact⟨va,vb,vd,ve,.inl ⟨by rw[HV2.o],rfl,xs',by rw[HV2.o];exact HX.o,HB.o⟩⟩
   ·have HZ:=Hd hz
    have HV2:=Hd (show(T.cstep i x.p).1=KF.2 by rw[HV.o,if_pos hz]);clear hz;go_wp2_with fail;refine(mustC_any _ _).mono ?_;rintro e w7 (⟨hn,_⟩|⟨_,rfl,rfl⟩)
    case inl=>exact absurd hn HZ.o
    exact⟨rfl,HS.o.noBox.noBox.noBox.bad rfl HV2.o HZ.o⟩
end Go.Proofs.YtfeipbgnjainlaaGreatDoor.K
