/- TCkE, TCkF, TExD -/
import Derived.Test.YtfeipbgnjainlaaGreatDoorTp10
import Derived.Test.YtfeipbgnjainlaaGreatDoorTp2
import Derived.Test.YtfeipbgnjainlaaGreatDoorTp4
import Derived.Test.YtfeipbgnjainlaaGreatDoorTp24
import Derived.Test.YtfeipbgnjainlaaGreatDoorTp9
import Derived.Test.YtfeipbgnjainlaaGreatDoorTp21
import Derived.Test.YtfeipbgnjainlaaGreatDoorTp26
set_option linter.unusedVariables false
set_option linter.unusedSimpArgs false
set_option maxRecDepth 100000
set_option maxHeartbeats 4000000
namespace Go.Proofs.YtfeipbgnjainlaaGreatDoor.K
open Go Go.RowKit Go.Maps Go.Sort
theorem reg_at(p:T.Pl)(s:Nat)(h:s<p.regs.length):p.reg (s:Int)=p.regs[s]:=by
 unfold T.Pl.reg;rw[Int.toNat_natCast,List.getD_eq_getElem?_getD,List.getElem?_eq_getElem h];rfl
theorem knsL_reg{w:World}{g:Nat}{p:T.Pl}(h:RdC w g (knsL p.regs))(hl:p.regs.length=11)(s:Nat)(hs:s<11):w.cell? ⟨g,s*3,none⟩=some (.int .u8 (p.reg (s:Int)).k)/\w.cell? ⟨g,s*3+1,none⟩=some (W64 (p.reg (s:Int)).s.lo)/\w.cell? ⟨g,s*3+2,none⟩=some (W64 (p.reg (s:Int)).s.hi):=by
 rw[reg_at p s (by omega)];exact knsL_at h s (by omega)
def wkL(lv:Value)(P n c k:Nat)(x:PV):List Value:=[lv,.slice (some ⟨P,0,none⟩) n c,.int .i64 (k:Int),.bool true,.slice (some ⟨x.gr,0,none⟩) 11 x.cr,.slice (some ⟨x.gb,0,none⟩) 512 x.cb,.int .i64 x.p.least]
theorem second_any(Wk gr cr:Nat)(p:T.Pl)(i:T.Ins)(w:World)(h4:w.cell? ⟨Wk,4,none⟩=some (.slice (some ⟨gr,0,none⟩) 11 cr))(hr:RdC w gr (knsL p.regs))(hl:p.regs.length=11)(hs:0<=i.src/\i.src<=10):Calls Tryz.prog 120 #[.pointer (some ⟨Wk,0,none⟩),insV i] w (Ret w (knv (T.second i p))):=by
 obtain⟨op,nr,dst,src,u,off,imm,size⟩:=i;obtain⟨s,rfl⟩:=Int.eq_ofNat_of_zero_le hs.1;have s1:s<11:=by have:=hs.2;simp only at this;omega
 obtain⟨e0,e1,e2⟩:=knsL_reg hr hl s s1;obtain⟨kn,hk⟩:∃kn,p.reg (s:Int)=kn:=⟨_,rfl⟩
 rw[hk]at e0 e1 e2;have HV:=Hd (show ∀op nr dst u off imm size,T.second ⟨op,nr,dst,(s:Int),u,off,imm,size⟩ p=if u then⟨1,T.Sp.of (T.wide imm)⟩else kn from fun _ _ _ _ _ _ _=>by unfold T.second;simp only[hk]);have hw:Value.int .u64 (IntKind.u64.wrap imm)=W64 (T.wide imm):=wrap_wide imm;have j0:(0:Int)<=(s:Int):=by omega
 have j1:(s:Int)<(11:Int):=by omega
 have HC:=Hd (fun w' (S:Since w w')=>(show w'.cell? ⟨Wk,4,none⟩=some (.slice (some ⟨gr,0,none⟩) 11 cr)/\w'.cell? ⟨gr,s*3,none⟩=some (.int .u8 kn.k)/\w'.cell? ⟨gr,s*3+1,none⟩=some (W64 kn.s.lo)/\w'.cell? ⟨gr,s*3+2,none⟩=some (W64 kn.s.hi)from⟨S.keep h4,S.keep e0,S.keep e1,S.keep e2⟩));clear hr h4 e0 e1 e2 hk hs;unfold insV insL;have BK0:=bk2 w [.int .u8 op,.bool nr,.int .i64 dst,.int .i64 (s:Int),.bool u,.int .i64 off,.int .i64 imm,.int .i64 size] 55 [.int .u8 0,W64 0#64,W64 0#64] 124;go_enter Tryz.func120,Tryz.ntmps120;go_upto_region 1 with fail;generalize w.heap.size=X at *;change Code.wp _ _ _ _ ((w.alloc (.cells #[.int .u8 op,.bool nr,.int .i64 dst,.int .i64 (s:Int),.bool u,.int .i64 off,.int .i64 imm,.int .i64 size] 55)).alloc (.cells #[.int .u8 0,W64 0#64,W64 0#64] 124));generalize((w.alloc (.cells #[.int .u8 op,.bool nr,.int .i64 dst,.int .i64 (s:Int),.bool u,.int .i64 off,.int .i64 imm,.int .i64 size] 55)).alloc (.cells #[.int .u8 0,W64 0#64,W64 0#64] 124))=w1 at *;obtain⟨i0,i1,i2,i3,i4,i5,i6,i7⟩:=BK0.o.q8 1 rfl;obtain⟨r0,r1,r2,fr0,fr1,fr2⟩:=BK0.o.r3 0 rfl;cases u
 case false =>
  have hc:=HC.o _ BK0.o.since.drew;go_upto_region 3 with fail;refine WL.begin 9 (fun w'=>w'.cell? ⟨Wk,4,none⟩=some (.slice (some ⟨gr,0,none⟩) 11 cr)/\w'.cell? ⟨gr,s*3,none⟩=some (.int .u8 kn.k)/\w'.cell? ⟨gr,s*3+1,none⟩=some (W64 kn.s.lo)/\w'.cell? ⟨gr,s*3+2,none⟩=some (W64 kn.s.hi)/\w'.cell? ⟨X,3,none⟩=some (.int .i64 (s:Int))) (fun _=>True) (by kernel_rfl) ⟨hc.1,hc.2.1,hc.2.2.1,hc.2.2.2,i3⟩ trivial (fun hs=>?_);refine WL.tk [(0,[]),(1,[]),(2,[]),(3,[]),(4,[4]),(5,[]),(6,[6]),(7,[]),(8,[8])] hs ?_;clear hs
  iterate 9
   (first|refine WLp ?_ ?_ ?_|refine WLl ?_ ?_ ?_);rotate_left
   ·intro w hc;go_simp<;>rfl
   simp only[Act.put,sA,sZ,sS]
  refine TKs.mk ?_;intro hs;refine WLo 9 hs ?_;clear hs;intro K hK;go_simp;refine hK.o _ _ SaF ?_;clear hK K;intro hs;try simp only[Act.put]
  clear hs;refine WLd ?_ _;try simp only[Exit.then]
  have BK1:=Hd (((BK0.o.bs 0 0 (.int .u8 kn.k)).bs 0 1 (W64 kn.s.lo)).bs 0 2 (W64 kn.s.hi)).drew;clear r0 r1 r2;obtain⟨r0,r1,r2⟩:=BK1.o.q3 0 rfl;go_wp2;refine bodyPost_ret (v:=.agg #[.int .u8 kn.k,W64 kn.s.lo,W64 kn.s.hi]) ?_ rfl ⟨by rw[HV.o];rfl,BK1.o.since⟩;simp[results,Tryz.results120,go_sem,r0,r1,r2]
 case true =>
  go_wp2_with fail;refine(spOf_agg (T.wide imm) _).mono ?_;rintro e w2 ⟨rfl,hs⟩;have BK1:=Hd (BK0.o.call hs);clear i0 i1 i2 i3 i4 i5 i6 i7 r0 r1 r2 fr0 fr1 fr2;clear hs BK0;obtain⟨i0,i1,i2,i3,i4,i5,i6,i7⟩:=BK1.o.q8 1 rfl;obtain⟨r0,r1,r2,fr0,fr1,fr2⟩:=BK1.o.r3 0 rfl;go_wp2;refine bodyPost_ret (v:=.agg #[.int .u8 1,W64 (T.wide imm),W64 (T.wide imm)]) ?_ rfl ⟨by rw[HV.o];rfl,(((BK1.o.bs 0 0 (.int .u8 1)).bs 0 1 (W64 (T.wide imm))).bs 0 2 (W64 (T.wide imm))).since⟩;simp[results,Tryz.results120,go_sem,i0,i1,i2,i3,i4,i5,i6,i7,r0,r1,r2]
theorem perm_in(Z:Acc)(a b:Acc)(A R:List Acc):(Z::(a::b::(A++R))).Perm (a::b::(A++(Z::R))):=(List.perm_middle (a:=Z) (l₁:=a::b::A) (l₂:=R)).symm
theorem Bank.noZ{w0 w:World}{Z a b:Acc}{A R:List Acc}(h:Bank w0 w (a::b::(A++(Z::R)))):Bank w0 w (a::b::(A++R)):=h.sub (.cons_cons _ (.cons_cons _ (List.Sublist.append (.refl _) (List.sublist_cons_self _ _))))
theorem ahead_any(Wk P n c k:Nat)(vs:List Value)(y:PV)(xs:List PV){w0 w:World}{R:List Acc}(hB:Bank w0 w (boxAcc Wk 89 vs::plsA P n c xs::(pvA xs++R)))(hv1:vs[1]?=some (.slice (some ⟨P,0,none⟩) n c))(hv2:vs[2]?=some (.int .i64 (k:Int)))(hyr:y.regA∈R)(hyb:y.byA∈R)(hxl:xs.length=n)(hn:n<=4096)(hw:∀x∈xs,x.p.live=true->x.p.Wf)(hy:y.p.Wf)(hk:k+1<n):Calls Tryz.prog 119 #[.pointer (some ⟨Wk,0,none⟩),PlV y] w (fun e w'=>e=.returned (.tuple #[])/\∃xs',xs'.map PV.p=T.told (xs.map PV.p) (k+1) (some y.p)/\Bank w0 w' (boxAcc Wk 89 vs::plsA P n c xs'::(pvA xs'++R))):=by
 have HM:=Hd (show ∀z:Acc,(y.regA∈(z::R))/\(y.byA∈(z::R))from fun z=>⟨List.mem_cons_of_mem _ hyr,List.mem_cons_of_mem _ hyb⟩);have HW:=Hd hw;have HY:=Hd hy;have HV1:=Hd hv1;have HV2:=Hd hv2;have HXL:=Hd hxl;have BK0:=Hd (hB.bx [.bool true,.slice (some ⟨y.gr,0,none⟩) 11 y.cr,.slice (some ⟨y.gb,0,none⟩) 512 y.cb,.int .i64 y.p.least] 87);have h2:=BK0.o.cell 1 rfl 2 hv2;have kw:IntKind.i64.wrap ((k:Int)+1)=((k+1:Nat):Int):=IntWalk.i64_in _ (by omega);obtain⟨p0,p1,p2,p3⟩:=BK0.o.q4 0 rfl;clear hB hw hy hv1 hv2 hyr hyb hxl;unfold PlV;go_enter Tryz.func119,Tryz.ntmps119;go_upto_region 1 with fail;generalize hX:w.heap.size=X at *;change Code.wp _ _ _ _ (w.alloc (.cells #[.bool true,.slice (some ⟨y.gr,0,none⟩) 11 y.cr,.slice (some ⟨y.gb,0,none⟩) 512 y.cb,.int .i64 y.p.least] 87));generalize(w.alloc (.cells #[.bool true,.slice (some ⟨y.gr,0,none⟩) 11 y.cr,.slice (some ⟨y.gb,0,none⟩) 512 y.cb,.int .i64 y.p.least] 87))=w1 at *;clear hX;refine WL.begin 7 (fun w'=>w'.cell? ⟨Wk,2,none⟩=some (.int .i64 (k:Int))/\w'.cell? ⟨X,0,none⟩=some (.bool true)/\w'.cell? ⟨X,1,none⟩=some (.slice (some ⟨y.gr,0,none⟩) 11 y.cr)/\w'.cell? ⟨X,2,none⟩=some (.slice (some ⟨y.gb,0,none⟩) 512 y.cb)/\w'.cell? ⟨X,3,none⟩=some (.int .i64 y.p.least)) (fun _=>True) (by kernel_rfl) ⟨h2,p0,p1,p2,p3⟩ trivial (fun hs=>?_);refine WL.tk [(0,[]),(1,[]),(2,[]),(3,[]),(4,[5,4]),(5,[]),(6,[6])] hs ?_;clear hs
 iterate 7
  (first|refine WLp ?_ ?_ ?_|refine WLl ?_ ?_ ?_);rotate_left
  ·intro w hc;go_simp<;>rfl
  simp only[Act.put,sA,sZ,sS]
 refine TKs.mk ?_;intro hs;refine WLo 7 hs ?_;clear hs;intro K hK;go_simp;refine(tell_any Wk P n c vs (k+1) y xs (BK0.o.drew.permB (perm_in _ _ _ _ _)) HV1.o (HM.o _).1 (HM.o _).2 HXL.o hk HW.o HY.o).mono ?_;rintro e w2 ⟨rfl,xs',hxs,hb⟩;have B2:=Hd hb.noZ;have HX:=Hd hxs;clear hb hxs;refine hK.o _ _ SaF ?_;clear hK K;intro hs;try simp only[Act.put,sA,sZ,sS]
 clear hs;refine WLd ?_ _;try simp only[Exit.then]
 go_wp2;go_end0;exact⟨rfl,xs',HX.o,B2.o⟩
theorem afar_any(b o cl:Nat)(l:List T.Ins)(i:T.Ins)(t:Nat)(Wk P n c k:Nat)(vs:List Value)(y:PV)(xs:List PV){w0 w:World}{R:List Acc}(hB:Bank w0 w (boxAcc Wk 89 vs::plsA P n c xs::(pvA xs++R)))(hv1:vs[1]?=some (.slice (some ⟨P,0,none⟩) n c))(hv2:vs[2]?=some (.int .i64 (k:Int)))(hyr:y.regA∈R)(hyb:y.byA∈R)(hxl:xs.length=n)(hn:n<=4096)(hw:∀x∈xs,x.p.live=true->x.p.Wf)(hy:y.p.Wf)(hv0:vs[0]?=some (.slice (some ⟨b,o,none⟩) n cl))(hr:InsRd w0 b o l)(hi:l[k]?=some i)(hll:l.length=n)(hoff:i.off=(t:Int))(hk:k+1+t<n):Calls Tryz.prog 122 #[.pointer (some ⟨Wk,0,none⟩),PlV y] w (fun e w'=>e=.returned (.tuple #[])/\∃xs',xs'.map PV.p=T.told (xs.map PV.p) (k+1+t) (some y.p)/\Bank w0 w' (boxAcc Wk 89 vs::plsA P n c xs'::(pvA xs'++R))):=by
 have HM:=Hd (show ∀z:Acc,(y.regA∈(z::R))/\(y.byA∈(z::R))from fun z=>⟨List.mem_cons_of_mem _ hyr,List.mem_cons_of_mem _ hyb⟩);have HW:=Hd hw;have HY:=Hd hy;have HV1:=Hd hv1;have HV2:=Hd hv2;have HXL:=Hd hxl;have BK0:=Hd (hB.bx [.bool true,.slice (some ⟨y.gr,0,none⟩) 11 y.cr,.slice (some ⟨y.gb,0,none⟩) 512 y.cb,.int .i64 y.p.least] 87);have h2:=BK0.o.cell 1 rfl 2 hv2;have h0:=BK0.o.cell 1 rfl 0 hv0;obtain⟨_,_,_,_,_,c5,_,_⟩:=(hr.since BK0.o.since).cells hi;rw[hoff]at c5;have k0:(0:Int)<=(k:Int):=by omega
 have k1:(k:Int)<(n:Int):=by omega
 have kw:IntKind.i64.wrap ((k:Int)+1)=(k:Int)+1:=IntWalk.i64_in _ (by omega);have kw2:IntKind.i64.wrap ((k:Int)+1+(t:Int))=((k+1+t:Nat):Int):=IntWalk.i64_in _ (by omega);obtain⟨p0,p1,p2,p3⟩:=BK0.o.q4 0 rfl;clear hB hw hy hv0 hv1 hv2 hyr hyb hxl hr hi hll hoff;unfold PlV;go_enter Tryz.func122,Tryz.ntmps122;go_upto_region 1 with fail;generalize hX:w.heap.size=X at *;change Code.wp _ _ _ _ (w.alloc (.cells #[.bool true,.slice (some ⟨y.gr,0,none⟩) 11 y.cr,.slice (some ⟨y.gb,0,none⟩) 512 y.cb,.int .i64 y.p.least] 87));generalize(w.alloc (.cells #[.bool true,.slice (some ⟨y.gr,0,none⟩) 11 y.cr,.slice (some ⟨y.gb,0,none⟩) 512 y.cb,.int .i64 y.p.least] 87))=w1 at *;clear hX;refine WL.begin 19 (fun w'=>w'.cell? ⟨Wk,2,none⟩=some (.int .i64 (k:Int))/\w'.cell? ⟨Wk,0,none⟩=some (.slice (some ⟨b,o,none⟩) n cl)/\w'.cell? ⟨b,o+k*8+5,none⟩=some (.int .i64 (t:Int))/\w'.cell? ⟨X,0,none⟩=some (.bool true)/\w'.cell? ⟨X,1,none⟩=some (.slice (some ⟨y.gr,0,none⟩) 11 y.cr)/\w'.cell? ⟨X,2,none⟩=some (.slice (some ⟨y.gb,0,none⟩) 512 y.cb)/\w'.cell? ⟨X,3,none⟩=some (.int .i64 y.p.least)) (fun _=>True) (by kernel_rfl) ⟨h2,h0,c5,p0,p1,p2,p3⟩ trivial (fun hs=>?_);refine WL.tk [(0,[]),(1,[]),(2,[]),(3,[]),(4,[17,5,4]),(5,[]),(6,[]),(7,[]),(8,[]),(9,[17,16,15,14,9]),(10,[]),(11,[]),(12,[]),(13,[17,16,15,14,13]),(14,[]),(15,[]),(16,[17,16]),(17,[]),(18,[18])] hs ?_;clear hs
 iterate 19
  (first|refine WLp ?_ ?_ ?_|refine WLl ?_ ?_ ?_);rotate_left
  ·intro w hc;go_simp<;>rfl
  simp only[Act.put,sA,sZ,sS]
 refine TKs.mk ?_;intro hs;refine WLo 19 hs ?_;clear hs;intro K hK;go_simp;refine(tell_any Wk P n c vs (k+1+t) y xs (BK0.o.drew.permB (perm_in _ _ _ _ _)) HV1.o (HM.o _).1 (HM.o _).2 HXL.o hk HW.o HY.o).mono ?_;rintro e w2 ⟨rfl,xs',hxs,hb⟩;have B2:=Hd hb.noZ;have HX:=Hd hxs;clear hb hxs;refine hK.o _ _ SaF ?_;clear hK K;intro hs;try simp only[Act.put,sA,sZ,sS]
 clear hs;refine WLd ?_ _;try simp only[Exit.then]
 go_wp2;go_end0;exact⟨rfl,xs',HX.o,B2.o⟩
set_option maxRecDepth 100000
set_option maxHeartbeats 4000000
def wkN(lv:Value)(P n c k:Nat)(a b d e:Value):List Value:=[lv,.slice (some ⟨P,0,none⟩) n c,.int .i64 (k:Int),a,b,d,e]
def StepP(w0:World)(lv:Value)(Wk P n c k:Nat)(ps:List T.Pl)(R:List Acc)(r:Int×Option T.Pl×Option T.Pl)(off:Int)(e:Ending)(w':World):Prop :=
 ∃va vb vd ve,(r.1=0/\e=.returned (.tuple #[])/\∃xs',xs'.map PV.p=T.told (T.told ps (k+1) r.2.1) (k+1+off.toNat) r.2.2/\Bank w0 w' (boxAcc Wk 89 (wkN lv P n c k va vb vd ve)::plsA P n c xs'::(pvA xs'++R)))
 \/ (r.1≠0/\e=.panicked (eP r.1)/\Bank w0 w' (boxAcc Wk 89 (wkN lv P n c k va vb vd ve)::R))
structure CkS(b o n cl:Nat)(l:List T.Ins)(Wk P c k:Nat)(x:PV)(xs:List PV)(i:T.Ins)(w0 w:World)(R:List Acc):Prop where
 bank:Bank w0 w (boxAcc Wk 89 (wkL (.slice (some ⟨b,o,none⟩) n cl) P n c k x)::plsA P n c xs::(pvA xs++(x.regA::x.byA::R)))
 rd:InsRd w0 b o l
 hi:l[k]?=some i
 right:i.right=true
 xl:xs.length=n
 ll:l.length=n
 n4:n<=4096
 wfs:∀y∈xs,y.p.live=true->y.p.Wf
 wf:x.p.Wf
 fwd:i.jumps=true->0<=i.off/\(k:Int)+1+i.off<n
 next:i.op≠28/\i.op≠16->k+1<n
section
variable{b o n cl:Nat}{l:List T.Ins}{Wk P c k:Nat}{x:PV}{xs:List PV}{i:T.Ins}{w0 w:World}{R:List Acc}
theorem CkS.call(h:CkS b o n cl l Wk P c k x xs i w0 w R){w':World}(hs:Since w w'):CkS b o n cl l Wk P c k x xs i w0 w' R:={ h with bank:=h.bank.call hs }
theorem CkS.drew(h:CkS b o n cl l Wk P c k x xs i w0 w R):CkS b o n cl l Wk P c k x xs i w0 w.drew R:={ h with bank:=h.bank.drew }
theorem CkS.box(h:CkS b o n cl l Wk P c k x xs i w0 w R)(vs:List Value)(t:TypeId)(hv:vs.length<=1000000):CkS b o n cl l Wk P c k x xs i w0 (w.alloc (.cells vs.toArray t)) (boxAcc w.heap.size t vs::R):=by
 refine { h with bank:=(h.bank.boxL vs t hv).permB ?_ };have:=(List.perm_middle (a:=boxAcc w.heap.size t vs) (l₁:=boxAcc Wk 89 (wkL (.slice (some ⟨b,o,none⟩) n cl) P n c k x)::plsA P n c xs::(pvA xs ++ [x.regA,x.byA])) (l₂:=R)).symm;simpa using this
theorem CkS.at(h:CkS b o n cl l Wk P c k x xs i w0 w R)(j:Nat){v:Value}(hv:(wkL (.slice (some ⟨b,o,none⟩) n cl) P n c k x)[j]?=some v):w.cell? ⟨Wk,j,none⟩=some v:=h.bank.cell 0 rfl j hv
theorem CkS.free(h:CkS b o n cl l Wk P c k x xs i w0 w R)(j:Nat):w.frozen? ⟨Wk,j,none⟩=false:=h.bank.free 0 rfl j
theorem CkS.memR(h:CkS b o n cl l Wk P c k x xs i w0 w R):x.regA∈boxAcc Wk 89 (wkL (.slice (some ⟨b,o,none⟩) n cl) P n c k x)::plsA P n c xs::(pvA xs++(x.regA::x.byA::R)):=by simp
theorem CkS.memB(h:CkS b o n cl l Wk P c k x xs i w0 w R):x.byA∈boxAcc Wk 89 (wkL (.slice (some ⟨b,o,none⟩) n cl) P n c k x)::plsA P n c xs::(pvA xs++(x.regA::x.byA::R)):=by simp
theorem CkS.regs(h:CkS b o n cl l Wk P c k x xs i w0 w R):RdC w x.gr (knsL x.p.regs):=regA_rd h.bank h.memR
theorem CkS.bytes(h:CkS b o n cl l Wk P c k x xs i w0 w R):RdC w x.gb (x.p.bytes.map Value.bool):=byA_rd h.bank h.memB
theorem CkS.bad(h:CkS b o n cl l Wk P c k x xs i w0 w R){r:Int×Option T.Pl×Option T.Pl}{e:Ending}{m:Int}(he:e=.panicked (eP m))(hr:r.1=m)(hm:m≠0):StepP w0 (.slice (some ⟨b,o,none⟩) n cl) Wk P n c k (xs.map PV.p) R r i.off e w :=
 ⟨_,_,_,_,.inr ⟨by rw[hr];exact hm,by rw[hr];exact he,h.bank.sub (.cons_cons _ (.cons _ ((List.Sublist.append (List.nil_sublist (pvA xs)) (.cons _ (.cons _ (.refl R)))))))⟩⟩
theorem Bank.noR{w0 w:World}{a b:Acc}{A B R:List Acc}(h:Bank w0 w (a::b::(A++(B++R)))):Bank w0 w (a::b::(A++R)):=h.sub (.cons_cons _ (.cons_cons _ (List.Sublist.append (.refl _) (List.sublist_append_right _ _))))
theorem CkS.noBox{Z:Acc}(h:CkS b o n cl l Wk P c k x xs i w0 w (Z::R)):CkS b o n cl l Wk P c k x xs i w0 w R:={ h with bank:=h.bank.sub (.cons_cons _ (.cons_cons _ (List.Sublist.append (.refl _) (.cons_cons _ (.cons_cons _ (.cons _ (.refl R))))))) }
theorem CkS.ahead(h:CkS b o n cl l Wk P c k x xs i w0 w R)(hk:k+1<n):Calls Tryz.prog 119 #[.pointer (some ⟨Wk,0,none⟩),PlV x] w (StepP w0 (.slice (some ⟨b,o,none⟩) n cl) Wk P n c k (xs.map PV.p) R (0,some x.p,none) i.off):=by
 refine(ahead_any Wk P n c k _ x xs h.bank rfl rfl (by simp) (by simp) h.xl h.n4 h.wfs h.wf hk).mono ?_;rintro e w' ⟨he,xs',hx,hb⟩;exact⟨_,_,_,_,.inl ⟨rfl,he,xs',hx,Bank.noR (B:=[x.regA,x.byA]) hb⟩⟩
theorem CkS.afar(h:CkS b o n cl l Wk P c k x xs i w0 w R)(h0:0<=i.off)(hk:(k:Int)+1+i.off<n):Calls Tryz.prog 122 #[.pointer (some ⟨Wk,0,none⟩),PlV x] w (StepP w0 (.slice (some ⟨b,o,none⟩) n cl) Wk P n c k (xs.map PV.p) R (0,none,some x.p) i.off):=by
 obtain⟨t,ht⟩:=Int.eq_ofNat_of_zero_le h0;refine(afar_any b o cl l i t Wk P n c k _ x xs h.bank rfl rfl (by simp) (by simp) h.xl h.n4 h.wfs h.wf rfl h.rd h.hi h.ll ht (by omega)).mono ?_;rintro e w' ⟨he,xs',hx,hb⟩;exact⟨_,_,_,_,.inl ⟨rfl,he,xs',by rw[hx,ht,Int.toNat_natCast];rfl,Bank.noR (B:=[x.regA,x.byA]) hb⟩⟩
end
theorem jump_any{b o n cl:Nat}{l:List T.Ins}{Wk P c k:Nat}{x:PV}{xs:List PV}{i:T.Ins}{w0 w:World}{R:List Acc}(h:CkS b o n cl l Wk P c k x xs i w0 w R)(ho:i.op=16):Calls Tryz.prog 78 #[.pointer (some ⟨Wk,0,none⟩),insV i] w (StepP w0 (.slice (some ⟨b,o,none⟩) n cl) Wk P n c k (xs.map PV.p) R (T.cstep i x.p) i.off):=by
 have HV:=Hd (show T.cstep i x.p=(0,none,some x.p)by unfold T.cstep;simp[ho]);have HF:=Hd (h.fwd (by unfold T.Ins.jumps;simp[ho]));have HS:=Hd (h.box [.int .u8 i.op,.bool i.narrow,.int .i64 i.dst,.int .i64 i.src,.bool i.useImm,.int .i64 i.off,.int .i64 i.imm,.int .i64 i.size] 55 (by simp));clear h ho;unfold insV insL;go_enter Tryz.func78,Tryz.ntmps78;go_upto_region 1 with fail;generalize w.heap.size=X at *;change Code.wp _ _ _ _ (w.alloc (.cells #[.int .u8 i.op,.bool i.narrow,.int .i64 i.dst,.int .i64 i.src,.bool i.useImm,.int .i64 i.off,.int .i64 i.imm,.int .i64 i.size] 55));generalize(w.alloc (.cells #[.int .u8 i.op,.bool i.narrow,.int .i64 i.dst,.int .i64 i.src,.bool i.useImm,.int .i64 i.off,.int .i64 i.imm,.int .i64 i.size] 55))=w1 at *;have c3:=HS.o.at 3 rfl;have c4:=HS.o.at 4 rfl;have c5:=HS.o.at 5 rfl;have c6:=HS.o.at 6 rfl;go_wp2_with fail;refine(HS.o.afar HF.o.1 HF.o.2).mono ?_;rintro e w2 ⟨va,vb,vd,ve,⟨_,rfl,xs',hx,hb⟩|⟨hn,_⟩⟩
 case inr=>exact absurd rfl hn
 have HX:=Hd hx;have HB:=Hd hb;clear hx hb c3 c4 c5 c6;go_wp2;go_end0;exact⟨va,vb,vd,ve,.inl ⟨by rw[HV.o],rfl,xs',by rw[HV.o];exact HX.o,HB.o.noZ⟩⟩
theorem exit_any{b o n cl:Nat}{l:List T.Ins}{Wk P c k:Nat}{x:PV}{xs:List PV}{i:T.Ins}{w0 w:World}{R:List Acc}(h:CkS b o n cl l Wk P c k x xs i w0 w R)(ho:i.op=28):Calls Tryz.prog 79 #[.pointer (some ⟨Wk,0,none⟩),insV i] w (StepP w0 (.slice (some ⟨b,o,none⟩) n cl) Wk P n c k (xs.map PV.p) R (T.cstep i x.p) i.off):=by
 have HV:=Hd (show T.cstep i x.p=((T.asN x.p (x.p.reg 0)).1,none,none)by unfold T.cstep;simp[ho]);have HS:=Hd (h.box [.int .u8 i.op,.bool i.narrow,.int .i64 i.dst,.int .i64 i.src,.bool i.useImm,.int .i64 i.off,.int .i64 i.imm,.int .i64 i.size] 55 (by simp));have H0:=Hd h;have hl:x.p.regs.length=11:=h.wf.rl;clear h ho;unfold insV insL;go_enter Tryz.func79,Tryz.ntmps79;go_upto_region 1 with fail;generalize w.heap.size=X at *;change Code.wp _ _ _ _ (w.alloc (.cells #[.int .u8 i.op,.bool i.narrow,.int .i64 i.dst,.int .i64 i.src,.bool i.useImm,.int .i64 i.off,.int .i64 i.imm,.int .i64 i.size] 55));generalize(w.alloc (.cells #[.int .u8 i.op,.bool i.narrow,.int .i64 i.dst,.int .i64 i.src,.bool i.useImm,.int .i64 i.off,.int .i64 i.imm,.int .i64 i.size] 55))=w1 at *;have c4:=HS.o.at 4 rfl;obtain⟨e0,e1,e2⟩:=knsL_reg HS.o.regs hl 0 (by decide);obtain⟨kn,hk⟩:∃kn,x.p.reg ((0:Nat):Int)=kn:=⟨_,rfl⟩
 rw[hk]at e0 e1 e2;simp only[Nat.zero_mul,Nat.zero_add]at e0 e1 e2;have HK:=Hd hk;go_wp2_with fail;refine(numberC_any Wk x.p.least kn w1 (HS.o.at 6 rfl) HS.o.wf.l0 HS.o.wf.ll).mono ?_;clear c4 e0 e1 e2 hk;have HN:=Hd (show(T.cstep i x.p).1=(numR x.p.least kn).1 by rw[HV.o,<-HK.o];rfl);rintro e w2 (⟨hz,rfl,hs⟩|⟨hz,rfl,hs⟩)
 case inr=>exact⟨rfl,(HS.o.call hs).noBox.bad rfl HN.o hz⟩
 have HZ:=Hd hz;have HS2:=Hd (HS.o.call hs);clear hz hs;go_wp2;go_end0;exact⟨_,_,_,_,.inl ⟨by rw[HN.o];exact HZ.o,rfl,xs,by rw[HV.o];rfl,(Bank.noR (B:=[x.regA,x.byA]) HS2.o.bank).noZ⟩⟩
theorem knsL_set2(ks:List T.Kn)(k:Nat)(hk:k<ks.length)(x:T.Sp)(m:Int)(hm:ks[k].k=m):((knsL ks).set (k*3+1) (W64 x.lo)).set (k*3+2) (W64 x.hi)=knsL (ks.set k ⟨m,x⟩):=by
 have hl:((ks.take k).flatMap knL).length=k*3:=by rw[flat_len knL 3 knL_len,List.length_take];congr 1;omega
 rw[knsL,flat_set knL 3 knL_len ks k 1 _ hk (by omega) (knL ks[k]) _ (fun u hu=>by rw[List.getElem?_eq_getElem hk]at hu;cases hu;rfl) rfl];rw[set_mid _ hl (by simp[knL])];rw[show knsL (ks.set k ⟨m,x⟩)=_ from(flat_done knL ks k ⟨m,x⟩ hk).symm];simp[knL,hm]
def PlL(y:PV):List Value:=[.bool true,.slice (some ⟨y.gr,0,none⟩) 11 y.cr,.slice (some ⟨y.gb,0,none⟩) 512 y.cb,.int .i64 y.p.least]
def WithP(w0:World)(L:List Acc)(iY ir Y:Nat)(y:PV)(q:T.Pl)(e:Ending)(w':World):Prop:=e=.returned (.tuple #[])/\∃y':PV,y'.p=q/\y'.gr=y.gr/\y'.cr=y.cr/\y'.gb=y.gb/\y'.cb=y.cb/\y'.tb=y.tb/\Bank w0 w' ((L.set iY (boxAcc Y 87 (PlL y'))).set ir y'.regA)
theorem with_any(Y r:Nat)(s:T.Sp)(y:PV){w0 w:World}{L:List Acc}(iY ir:Nat)(hB:Bank w0 w L)(hiY:L[iY]?=some (boxAcc Y 87 (PlL y)))(hir:L[ir]?=some y.regA)(hne:iY≠ir)(hr:r<11)(hl:y.p.regs.length=11):Calls Tryz.prog 125 #[.pointer (some ⟨Y,0,none⟩),.int .i64 (r:Int),spv s] w (WithP w0 L iY ir Y y (y.p.with (r:Int) s)):=by
 obtain⟨lo,hi⟩:=s;have hrl:r<y.p.regs.length:=by omega
 have B1:=Hd (hB.bx [W64 lo,W64 hi] 122);have HIY:=Hd (show(boxAcc w.heap.size 122 [W64 lo,W64 hi]::L)[iY+1]?=some (boxAcc Y 87 (PlL y))from hiY);have HIR:=Hd (show(boxAcc w.heap.size 122 [W64 lo,W64 hi]::L)[ir+1]?=some y.regA from hir);have HIR2:=Hd (show L[ir]?=some y.regA from hir);have HLY:=Hd (show L.set iY (boxAcc Y 87 (PlL y))=L from set_same' hiY);have HLR:=Hd (show ∀z,(L.set iY z).set ir y.regA=L.set iY z from fun z=>set_same' (by rw[List.getElem?_set_ne hne];exact hir));have y1:=B1.o.cell (iY+1) HIY.o 1 rfl;have y3:=B1.o.cell (iY+1) HIY.o 3 rfl;have fy3:=B1.o.free (iY+1) HIY.o 3;obtain⟨s0,s1⟩:=B1.o.q2 0 rfl;obtain⟨e0,e1,e2⟩:=knsL_reg (RdC.of B1.o (ir+1) HIR.o) hl r hr;have f1:=B1.o.rfree (ir+1) HIR.o (r*3+1);have f2:=B1.o.rfree (ir+1) HIR.o (r*3+2);have HRA:=Hd (reg_at y.p r hrl);have j0:(0:Int)<=(r:Int):=by omega
 have j1:(r:Int)<(11:Int):=by omega
 obtain⟨kn,hk⟩:∃kn,y.p.reg (r:Int)=kn:=⟨_,rfl⟩
 rw[hk]at e0 e1 e2 HRA;have HW:=Hd (show y.p.with (r:Int) ⟨lo,hi⟩=if kn.k=1 then y.p.put (r:Int) ⟨1,⟨lo,hi⟩⟩else { y.p with least:=max y.p.least lo.toInt }by unfold T.Pl.with;rw[hk]);clear hB hiY hir hk;have hcv:∀w (z:BitVec 64),(convert 39 3 (W64 z)).run Tryz.prog w=.ok (.int .i64 z.toInt) w:=fun w z=>conv_W64_S64 (P:=Tryz.prog) (src:=39) (dst:=3) (w:=w) z Tryz.underlying39 Tryz.underlying3
 unfold spv;go_enter Tryz.func125,Tryz.ntmps125;go_upto_region 1 with fail;generalize w.heap.size=X at *;change Code.wp _ _ _ _ (w.alloc (.cells #[W64 lo,W64 hi] 122));generalize(w.alloc (.cells #[W64 lo,W64 hi] 122))=w1 at *;by_cases hk1:kn.k=1
 ·have HV:=Hd (HW.o.trans (if_pos hk1))
  have HK1:=Hd hk1;rw[hk1]at e0;clear hk1;go_wp2;go_end0;refine⟨rfl,⟨y.p.put (r:Int) ⟨1,⟨lo,hi⟩⟩,y.gr,y.cr,y.gb,y.cb,y.tb⟩,HV.o.symm,rfl,rfl,rfl,rfl,rfl,?_⟩;have h2:=(B1.o.rset (ir+1) HIR.o (r*3+1) (W64 lo)).rset (ir+1) (List.getElem?_set_self (List.getElem?_eq_some_iff.1 HIR.o).1) (r*3+1+1) (W64 hi);rw[List.set_set,show r*3+1+1=r*3+2 from rfl,knsL_set2 y.p.regs r hrl ⟨lo,hi⟩ 1 (by rw[<-HRA.o];exact HK1.o)]at h2;show Bank w0 _ ((L.set iY (boxAcc Y 87 (PlL y))).set ir _)
  rw[HLY.o];exact h2.drop
 ·have HV:=Hd (HW.o.trans (if_neg hk1))
  have ek:(kn.k==1)=false:=by simpa using hk1
  clear hk1 HW e1 e2 f1 f2;have hmx:∀w,(Builtin.max_ #[3,3] 3 #[.int .i64 y.p.least,S64 lo]).run Tryz.prog w=.ok (.int .i64 (max y.p.least lo.toInt)) w:=fun w=>by unfold S64;go_simp
  go_upto_region 4 with fail;refine WL.begin 11 (fun w'=>w'.cell? ⟨Y,3,none⟩=some (.int .i64 y.p.least)/\w'.cell? ⟨X,0,none⟩=some (W64 lo)) (fun _=>True) (by kernel_rfl) ⟨y3,s0⟩ trivial (fun hs=>?_);refine WL.tk [(0,[]),(1,[]),(2,[]),(3,[]),(4,[4]),(5,[]),(6,[6]),(7,[]),(8,[]),(9,[]),(10,[])] hs ?_;clear hs
  iterate 11
   (first|refine WLp ?_ ?_ ?_|refine WLl ?_ ?_ ?_);rotate_left
   ·intro w hc;go_simp<;>rfl
   simp only[Act.put,sA,sZ,sS]
  refine TKs.mk ?_;intro hs;refine WLo 11 hs ?_;clear hs;intro K hK;go_simp;refine hK.o _ _ SaF ?_;clear hK K;intro hs;try simp only[Act.put]
  clear hs;refine WLd ?_ _;try simp only[Exit.then]
  go_wp2;go_end0;refine⟨rfl,⟨{ y.p with least:=max y.p.least lo.toInt },y.gr,y.cr,y.gb,y.cb,y.tb⟩,HV.o.symm,rfl,rfl,rfl,rfl,rfl,?_⟩;show Bank w0 _ ((L.set iY _).set ir y.regA)
  rw[HLR.o];exact((B1.o.boxSet (iY+1) HIY.o 3 (.int .i64 (max y.p.least lo.toInt))).drew).drop
set_option maxRecDepth 100000
set_option maxHeartbeats 4000000
theorem exSecond_ok(M:Nat)(m:T.Mc)(pk vd:Value)(i:T.Ins)(A:Option Addr)(n:Nat)(rs:List Nat)(w:World)(hok:Mok m)(hM:RdC w M (mcL m pk vd))(hl:rs.length=n)(hn:n<=1)(hno:A=none->n=0)
  (hA:∀(j r:Nat),rs[j]?=some r->∃b o,A=some ⟨b,o,none⟩/\w.cell? ⟨b,o+j,none⟩=some (.int .i64 (r:Int))) (hr:∀r∈rs,r<11/\(m.reg (r:Int)).1≠0) (hs:0<=i.src/\i.src<=10) (hsec:T.secErr i m=0) :
  Calls Tryz.prog 95 #[.pointer (some ⟨M,0,none⟩),insV i,.slice A n n] w (Ret w (.tuple #[.agg #[.int .u8 (T.esecond i m).1,W64 (T.esecond i m).2],.int .i64 0])):=by
 obtain⟨op,nr,dst,src,u,off,imm,size⟩:=i;obtain⟨s,rfl⟩:=Int.eq_ofNat_of_zero_le hs.1;have s1:s<11:=by have:=hs.2;simp only at this;omega
 clear hs;have j0:(0:Int)<=(s:Int):=by omega
 have j1:(s:Int)<(11:Int):=by omega
 obtain⟨q,hq⟩:∃q,m.reg (s:Int)=q:=⟨_,rfl⟩
 obtain⟨e0,e1⟩:=mcL_reg hok pk vd s s1;rw[hq]at e0 e1;unfold insV insL;have BK0:=bk2 w [.int .u8 op,.bool nr,.int .i64 dst,.int .i64 (s:Int),.bool u,.int .i64 off,.int .i64 imm,.int .i64 size] 55 [.int .u8 0,W64 0#64] 64;go_enter Tryz.func95,Tryz.ntmps95;go_upto_region 1 with fail;generalize w.heap.size=X at *;refine wp_hid BK0 (fun w1 BK0=>?_);have i4:=BK0.o.cl 1 4;cases u
 case true =>
  have i6:=BK0.o.cl 1 6;go_wp2_with fail;refine(aluWide_any w1 imm).mono ?_;rintro e w2 ⟨rfl,rfl⟩;go_wp2_with fail;refine(asks_ok M m pk vd A n n rs w1 hok (fun j v hj=>BK0.o.since.keep (hM j v hj)) hl (by omega) (fun j r hj=>by obtain⟨b,o,h1,h2⟩:=hA j r hj;exact⟨b,o,h1,BK0.o.since.keep h2⟩) hr).mono ?_;rintro e w2 ⟨rfl,rfl⟩;obtain⟨r0,r1,fr0,fr1⟩:=BK0.o.r2 0 rfl;clear i4 i6;have BK1:=Hd ((BK0.o.bs 0 0 (.int .u8 1)).bs 0 1 (W64 (T.wide imm)));go_wp2;clear r0 r1;obtain⟨r0,r1⟩:=BK1.o.q2 0 rfl;refine bodyPost_ret (v:=.tuple #[.agg #[.int .u8 1,W64 (T.wide imm)],.int .i64 0]) ?_ rfl ⟨rfl,BK1.o.since⟩;simp[results,Tryz.results95,go_sem,r0,r1]
 case false =>
  have i3:=BK0.o.cl 1 3;go_upto_region 3 with fail;have BK1:=Hd BK0.o.drew;have m0:=BK0.o.since.keep (hM _ _ e0);have m1:=BK0.o.since.keep (hM _ _ e1)
  have hun:q.1≠0:=by
   unfold T.secErr T.unset at hsec;simp only[hq]at hsec;intro h;rw[h]at hsec;simp at hsec
  refine WL.begin 14 (fun w'=>w'.cell? ⟨X,3,none⟩=some (.int .i64 (s:Int))/\w'.cell? ⟨M,s*2,none⟩=some (.int .u8 q.1)/\w'.cell? ⟨M,s*2+1,none⟩=some (W64 q.2)) (fun _=>True) (by kernel_rfl) ⟨i3,m0,m1⟩ trivial (fun hs=>?_);generalize w1.drew=w5 at *;refine WL.tk [(0,[]),(1,[]),(2,[2]),(3,[]),(4,[]),(5,[]),(6,[6]),(7,[]),(8,[]),(9,[]),(10,[13,12,11,10])] hs ?_;clear hs
  iterate 11
   (first|refine WLp ?_ ?_ ?_|refine WLl ?_ ?_ ?_);rotate_left
   ·intro w hc;go_simp<;>rfl
   simp only[Act.put,sA,sZ,sS]
  refine TKs.mk ?_;intro hs;refine WLo 11 hs ?_;clear hs;intro K hK;go_simp;have HW:=Hd BK1.o.since;have BK2:=Hd (BK1.o.bx [.int .i64 (s:Int)] 3);refine hK.o _ _ (SApp.intro (fun _=>⟨BK2.o.cl 2 3,(HW.o.alloc _).keep (hM _ _ e0),(HW.o.alloc _).keep (hM _ _ e1)⟩) trivial) ?_;clear hK K;intro hs;try simp only[Act.put,sA,sZ,sS]
  refine WLo 12 hs ?_;clear hs;intro K hK;refine step_append_grows rfl (.tmp 19) (.tmp 22) 48 rfl 3 (.int .i64 0) 1 8 (by kernel_rfl) Tryz.underlying48 rfl (by decide) A n (rs.map fun(r:Nat)=>Value.int .i64 (r:Int)) rfl hno ?_ ?_ ⟨_,0,none⟩ 1 1 [.int .i64 (s:Int)] rfl rfl ?_ ?_ (by decide) ?_ ?_ ?_
  ·rw[List.length_map,hl,Nat.mul_one]
  ·intro b hb j u hu
   rw[List.getElem?_map]at hu;cases hj:rs[j]? with
   | none=>rw[hj]at hu;cases hu
   | some r =>
     rw[hj]at hu;obtain⟨b',o',h1,h2⟩:=hA j r hj;rw[hb]at h1;cases h1
     simp only[Option.map_some,Option.some.injEq]at hu;rw[<-hu,Addr.add_mid];exact(HW.o.alloc _).keep h2
  ·intro j u hu
   cases j with
   | zero=>cases hu;exact BK2.o.cl 0 0
   | succ j=>cases hu
  ·intro u hu
   rw[List.mem_singleton]at hu;subst hu;rfl
  ·unfold maxLen;omega
  ·omega
  intro A' n' c' w7 hn' ho hb;have BK3:=Hd (BK2.o.made hb ho);have HW7:=Hd ((HW.o.alloc _).add hb);have HN:=Hd hn';have HO:=Hd ho;clear hn' ho;refine hK.o _ _ (SApp.intro (fun _=>⟨BK3.o.cl 3 3,HW7.o.keep (hM _ _ e0),HW7.o.keep (hM _ _ e1)⟩) trivial) ?_;clear hb;clear hK K;intro hs;try simp only[Act.put,sA,sZ,sS]
  refine WLo 13 hs ?_;clear hs;intro K hK;go_simp;refine(asks_ok M m pk vd A' n' c' (rs ++ [s]) w7 hok (fun j v hj=>HW7.o.keep (hM j v hj)) (by rw[List.length_append,hl,HN.o];rfl) (by have:=HN.o;omega) ?_ ?_).mono ?_
  ·intro j r hj
   obtain⟨g,rfl⟩:=own_someB HO.o (by have:=HN.o;omega);refine⟨g,0,rfl,?_⟩;have h1:=World.ownsRow.cells HO.o (g:=g) rfl j (.int .i64 (r:Int)) (by rw[<-List.map_singleton (f:=fun(r:Nat)=>Value.int .i64 (r:Int)),<-List.map_append,List.getElem?_map,hj];rfl);rw[Addr.add_mid]at h1;exact h1
  ·intro r hr'
   rcases List.mem_append.1 hr' with h|h
   ·exact hr r h
   ·rw[List.mem_singleton]at h
    subst h;exact⟨s1,by rw[hq];exact hun⟩
  rintro e w8 ⟨rfl,rfl⟩;refine hK.o _ _ (SApp.intro (fun _=>⟨BK3.o.cl 3 3,HW7.o.keep (hM _ _ e0),HW7.o.keep (hM _ _ e1)⟩) trivial) ?_;clear hK K;intro hs;try simp only[Act.put,sA,sZ,sS]
  refine WLo 14 hs ?_;clear hs;intro K hK;obtain⟨r0,r1,fr0,fr1⟩:=BK3.o.r2 2 rfl;go_simp;have BK4:=Hd ((BK3.o.bs 2 0 (.int .u8 q.1)).bs 2 1 (W64 q.2));clear r0 r1 fr0 fr1;refine hK.o _ _ SaF ?_;clear hK K;intro hs;try simp only[Act.put]
  refine WLo 15 hs ?_;clear hs;intro K hK;go_simp;refine hK.o _ _ SaF ?_;clear hK K;intro hs;try simp only[Act.put,sA,sZ,sS]
  clear hs;refine WLd ?_ _;try simp only[Exit.then]
  obtain⟨r0,r1⟩:=BK4.o.q2 2 rfl;go_wp2;refine bodyPost_ret (v:=.tuple #[.agg #[.int .u8 q.1,W64 q.2],.int .i64 0]) ?_ rfl ⟨?_,BK4.o.since⟩
  ·simp[results,Tryz.results95,go_sem,r0,r1]
  ·unfold T.esecond
   simp only[Bool.false_eq_true,if_false,hq]
end Go.Proofs.YtfeipbgnjainlaaGreatDoor.K
