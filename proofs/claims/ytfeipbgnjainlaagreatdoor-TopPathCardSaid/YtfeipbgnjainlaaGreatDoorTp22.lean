/- TPla, TCkC, TKnB, TYb, TSpL, TExA, TPkC, TBkK -/
import Derived.Test.YtfeipbgnjainlaaGreatDoorTp21
import Derived.Test.YtfeipbgnjainlaaGreatDoorTp12
import Derived.Test.YtfeipbgnjainlaaGreatDoorTp20
import Derived.Laws.OwnMore
import Derived.Test.YtfeipbgnjainlaaGreatDoorTp2
import Derived.Test.YtfeipbgnjainlaaGreatDoorTp4
import Derived.Test.YtfeipbgnjainlaaGreatDoorTp10
import Derived.Test.YtfeipbgnjainlaaGreatDoorTp8
import Derived.Test.YtfeipbgnjainlaaGreatDoorTp3
import Derived.Test.YtfeipbgnjainlaaGreatDoorTp18
import Derived.Test.YtfeipbgnjainlaaGreatDoorTp19
set_option linter.unusedVariables false
set_option linter.unusedSimpArgs false
namespace Go.Proofs.YtfeipbgnjainlaaGreatDoor.K
open Go Go.RowKit Go.Maps Go.Sort
def rwA(g n c:Nat)(e:TypeId)(size:Nat)(xs:List Value):Acc:=⟨.slice (some ⟨g,0,none⟩) n c,n,e,size,xs⟩
section
variable{w0 w:World}{L:List Acc}(h:Bank w0 w L)(i:Nat){g n c:Nat}{e:TypeId}{size:Nat}{xs:List Value}(hi:L[i]?=some (rwA g n c e size xs))
include h hi
theorem Bank.rcell(j:Nat){v:Value}(hv:xs[j]?=some v):w.cell? ⟨g,j,Option.none⟩=some v:=by
 have ho:w.ownsRow w0.heap.size e size (.slice (some ⟨g,0,Option.none⟩) n c) n xs:=h.at i hi;have hl:=ho.1;have hj:=(List.getElem?_eq_some_iff.1 hv).1;rw[ho.cellAt j (by omega),hv]
theorem Bank.rfree(j:Nat):w.frozen? ⟨g,j,Option.none⟩=false:=(show w.ownsRow w0.heap.size e size (.slice (some ⟨g,0,Option.none⟩) n c) n xs from h.at i hi).frozenAt j
theorem Bank.rset(j:Nat)(v:Value):Bank w0 (w.setCell ⟨g,j,Option.none⟩ v) (L.set i (rwA g n c e size (xs.set j v))):=by
 obtain⟨ho,hg⟩:=(show w.ownsRow w0.heap.size e size (.slice (some ⟨g,0,Option.none⟩) n c) n xs from h.at i hi).stored j v;exact h.put i hi ho hg (.inl rfl)
end
theorem Bank.permB{w0 w:World}{L L':List Acc}(h:Bank w0 w L)(hp:L.Perm L'):Bank w0 w L':=⟨h.since,fun p hm=>h.own p (hp.mem_iff.2 hm),(List.Perm.pairwise_iff (fun {_ _} h=>Apartness.symm h) hp).1 h.sep⟩
theorem wp_bank{P:Program}{c:Code}{Q:Exit->Act->World->Prop}{a:Act}{w w0:World}(L:List Acc)(hB:Bank w0 w L)(h:∀w',Bank w0 w' L->c.wp P Q a w'):c.wp P Q a w:=h w hB
section
variable{α:Type _}(f:α->List Value)(m:Nat)(hf:∀x,(f x).length=m)
include hf
theorem flat_get:∀(xs:List α) (k:Nat) (hk:k<xs.length) (j:Nat),j<m->(xs.flatMap f)[k*m+j]?=(f xs[k])[j]?
 | [],k,hk,_,_=>absurd hk (Nat.not_lt_zero _)
 | x::xs,0,_,j,hj=>by
   rw[List.flatMap_cons,Nat.zero_mul,Nat.zero_add,List.getElem?_append_left (by rw[hf];exact hj)];rfl
 | x::xs,k+1,hk,j,hj=>by
   rw[List.flatMap_cons,List.getElem?_append_right (by rw[hf,Nat.succ_mul];omega),hf,show(k+1)*m+j-m=k*m+j by rw[Nat.succ_mul];omega];exact flat_get xs k (by simpa using hk) j hj
theorem flat_len:∀xs:List α,(xs.flatMap f).length=xs.length*m
 | []=>by simp
 | x::xs=>by rw[List.flatMap_cons,List.length_append,hf,flat_len xs,List.length_cons,Nat.succ_mul];omega
theorem flat_set:∀(xs:List α) (k j:Nat) (v:Value),k<xs.length->j<m->∀y z:List Value,(∀x,xs[k]?=some x->f x=y)->z=y.set j v ->
  (xs.flatMap f).set (k*m+j) v=(xs.take k).flatMap f++(z++(xs.drop (k+1)).flatMap f)
 | [],k,_,_,hk,_,_,_,_,_=>absurd hk (Nat.not_lt_zero _)
 | x::xs,0,j,v,_,hj,y,z,hy,hz=>by
   rw[List.flatMap_cons,Nat.zero_mul,Nat.zero_add,List.set_append_left _ _ (by rw[hf];exact hj),hz,hy x rfl];rfl
 | x::xs,k+1,j,v,hk,hj,y,z,hy,hz=>by
   rw[List.flatMap_cons,List.set_append_right _ _ (by rw[hf,Nat.succ_mul];omega),hf,show(k+1)*m+j-m=k*m+j by rw[Nat.succ_mul];omega,
    flat_set xs k j v (by simpa using hk) hj y z (fun u hu=>hy u (by simpa using hu)) hz,List.take_succ_cons,List.flatMap_cons,List.append_assoc]
   rfl
end
theorem set_mid{a b z:List Value}{n j:Nat}(v:Value)(ha:a.length=n)(hj:j<z.length):(a++(z++b)).set (n+j) v=a++(z.set j v++b):=by
 subst ha;rw[List.set_append_right _ _ (by omega),show a.length+j-a.length=j by omega,List.set_append_left _ _ hj]
theorem flat_done{α:Type _}(f:α->List Value):∀(xs:List α) (k:Nat) (x:α),k<xs.length->(xs.take k).flatMap f++(f x++(xs.drop (k+1)).flatMap f)=(xs.set k x).flatMap f
 | [],k,_,hk=>absurd hk (Nat.not_lt_zero _)
 | y::xs,0,x,_=>by simp
 | y::xs,k+1,x,hk=>by
   rw[List.take_succ_cons,List.flatMap_cons,List.append_assoc,List.drop_succ_cons,flat_done f xs k x (by simpa using hk),List.set_cons_succ,List.flatMap_cons]
def knL(k:T.Kn):List Value:=[.int .u8 k.k,W64 k.s.lo,W64 k.s.hi]
theorem knL_len(k:T.Kn):(knL k).length=3:=rfl
def knsL(ks:List T.Kn):List Value:=ks.flatMap knL
theorem knsL_len(ks:List T.Kn):(knsL ks).length=ks.length*3:=flat_len knL 3 knL_len ks
theorem knsL_one(ks:List T.Kn):∀u∈knsL ks,u.oneCell'=true:=by
 intro u hu;obtain⟨k,_,h⟩:=List.mem_flatMap.1 hu;simp only[knL,List.mem_cons,List.mem_nil_iff,or_false]at h;rcases h with rfl|rfl|rfl<;>rfl
theorem knsL_get(ks:List T.Kn)(k:Nat)(hk:k<ks.length):(knsL ks)[k*3]?=some (.int .u8 ks[k].k)/\(knsL ks)[k*3+1]?=some (W64 ks[k].s.lo)/\(knsL ks)[k*3+2]?=some (W64 ks[k].s.hi) :=
 ⟨flat_get knL 3 knL_len ks k hk 0 (by omega),flat_get knL 3 knL_len ks k hk 1 (by omega),flat_get knL 3 knL_len ks k hk 2 (by omega)⟩
theorem knsL_set(ks:List T.Kn)(k:Nat)(hk:k<ks.length)(x:T.Kn):(((knsL ks).set (k*3) (.int .u8 x.k)).set (k*3+1) (W64 x.s.lo)).set (k*3+2) (W64 x.s.hi)=knsL (ks.set k x):=by
 have hl:((ks.take k).flatMap knL).length=k*3:=by rw[flat_len knL 3 knL_len,List.length_take];congr 1;omega
 rw[show k*3=k*3+0 from rfl,knsL,flat_set knL 3 knL_len ks k 0 _ hk (by omega) (knL ks[k]) _ (fun u hu=>by rw[List.getElem?_eq_getElem hk]at hu;cases hu;rfl) rfl];rw[show k*3+0+1=k*3+1 from rfl,show k*3+0+2=k*3+2 from rfl,set_mid _ hl (by simp[knL]),set_mid _ hl (by simp[knL])];exact flat_done knL ks k x hk
structure PV where
 p:T.Pl
 gr:Nat
 cr:Nat
 gb:Nat
 cb:Nat
 tb:TypeId
def PV.dead:PV:=⟨T.Pl.dead,0,0,0,0,0⟩
def PV.rv(x:PV):Value:=if x.p.live then .slice (some ⟨x.gr,0,none⟩) 11 x.cr else .slice none 0 0
def PV.yv(x:PV):Value:=if x.p.live then .slice (some ⟨x.gb,0,none⟩) 512 x.cb else .slice none 0 0
def PV.cells(x:PV):List Value:=[.bool x.p.live,x.rv,x.yv,.int .i64 x.p.least]
theorem PV.cells_len(x:PV):x.cells.length=4:=rfl
def PV.regA(x:PV):Acc:=rwA x.gr 11 x.cr 124 3 (knsL x.p.regs)
def PV.byA(x:PV):Acc:=rwA x.gb 512 x.cb x.tb 1 (x.p.bytes.map .bool)
def PV.accs(x:PV):List Acc:=if x.p.live then[x.regA,x.byA]else[]
theorem PV.live_accs{x:PV}(h:x.p.live=true):x.accs=[x.regA,x.byA]:=by simp[PV.accs,h]
theorem PV.dead_accs{x:PV}(h:x.p.live=false):x.accs=[]:=by simp[PV.accs,h]
def pvsL(xs:List PV):List Value:=xs.flatMap PV.cells
def pvA(xs:List PV):List Acc:=xs.flatMap PV.accs
def plsA(P n c:Nat)(xs:List PV):Acc:=rwA P n c 87 4 (pvsL xs)
theorem pvsL_get(xs:List PV)(k:Nat)(hk:k<xs.length):(pvsL xs)[k*4]?=some (.bool xs[k].p.live)/\(pvsL xs)[k*4+1]?=some xs[k].rv/\(pvsL xs)[k*4+2]?=some xs[k].yv/\(pvsL xs)[k*4+3]?=some (.int .i64 xs[k].p.least) :=
 ⟨flat_get PV.cells 4 PV.cells_len xs k hk 0 (by omega),flat_get PV.cells 4 PV.cells_len xs k hk 1 (by omega),flat_get PV.cells 4 PV.cells_len xs k hk 2 (by omega),flat_get PV.cells 4 PV.cells_len xs k hk 3 (by omega)⟩
theorem pvsL_set(xs:List PV)(k:Nat)(hk:k<xs.length)(x:PV):((((pvsL xs).set (k*4) (.bool x.p.live)).set (k*4+1) x.rv).set (k*4+2) x.yv).set (k*4+3) (.int .i64 x.p.least)=pvsL (xs.set k x):=by
 have hl:((xs.take k).flatMap PV.cells).length=k*4:=by rw[flat_len PV.cells 4 PV.cells_len,List.length_take];congr 1;omega
 rw[show k*4=k*4+0 from rfl,pvsL,flat_set PV.cells 4 PV.cells_len xs k 0 _ hk (by omega) xs[k].cells _ (fun u hu=>by rw[List.getElem?_eq_getElem hk]at hu;cases hu;rfl) rfl];rw[show k*4+0+1=k*4+1 from rfl,show k*4+0+2=k*4+2 from rfl,show k*4+0+3=k*4+3 from rfl,set_mid _ hl (by simp[PV.cells]),set_mid _ hl (by simp[PV.cells]),set_mid _ hl (by simp[PV.cells])];exact flat_done PV.cells xs k x hk
theorem pvsL_set2(xs:List PV)(k:Nat)(hk:k<xs.length)(x:PV)(hlv:x.p.live=xs[k].p.live)(hrv:x.rv=xs[k].rv):((pvsL xs).set (k*4+2) x.yv).set (k*4+3) (.int .i64 x.p.least)=pvsL (xs.set k x):=by
 have hl:((xs.take k).flatMap PV.cells).length=k*4:=by rw[flat_len PV.cells 4 PV.cells_len,List.length_take];congr 1;omega
 rw[pvsL,flat_set PV.cells 4 PV.cells_len xs k 2 _ hk (by omega) xs[k].cells _ (fun u hu=>by rw[List.getElem?_eq_getElem hk]at hu;cases hu;rfl) rfl];rw[set_mid _ hl (by simp[PV.cells])];rw[show pvsL (xs.set k x)=_ from(flat_done PV.cells xs k x hk).symm];simp[PV.cells,hlv,hrv]
theorem pvA_pick:∀(xs:List PV) (k:Nat) (x:PV),xs[k]?=some x->(pvA xs).Perm (x.accs++pvA (xs.eraseIdx k))
 | [],_,_,h=>by simp at h
 | y::xs,0,x,h=>by simp at h;subst h;exact List.Perm.refl _
 | y::xs,k+1,x,h=>by
   have h2:=pvA_pick xs k x (by simpa using h);show(y.accs++pvA xs).Perm (x.accs++(y.accs++pvA (xs.eraseIdx k)))
   exact(List.Perm.append_left _ h2).trans (by rw[<-List.append_assoc,<-List.append_assoc];exact List.Perm.append_right _ List.perm_append_comm)
theorem pvA_set(xs:List PV)(k:Nat)(x:PV)(hk:k<xs.length):(x.accs++pvA (xs.eraseIdx k)).Perm (pvA (xs.set k x)):=by
 have h:=pvA_pick (xs.set k x) k x (List.getElem?_set_self hk);rw[List.eraseIdx_set_eq]at h;exact h.symm
set_option maxRecDepth 100000
set_option maxHeartbeats 4000000
theorem own_someG{w:World}{base:Nat}{e:TypeId}{size:Nat}{A:Option Addr}{n c:Nat}{xs:List Value}(h:w.ownsRow base e size (.slice A n c) n xs)(hp:0<n):∃g,A=some ⟨g,0,none⟩:=by
 rcases h.2 with⟨h0,h1⟩|⟨g,cap,cur,hv,_⟩
 ·cases h0;omega
 ·simp only[Value.slice.injEq,true_and]at hv
  exact⟨g,hv.1⟩
def RdC(w:World)(g:Nat)(xs:List Value):Prop:=∀j u,xs[j]?=some u->w.cell? ⟨g,j,none⟩=some u
theorem RdC.since{w w':World}{g:Nat}{xs:List Value}(h:RdC w g xs)(hs:Since w w'):RdC w' g xs:=fun j u hj=>hs.keep (h j u hj)
theorem RdC.of{w0 w:World}{L:List Acc}(h:Bank w0 w L)(i:Nat){g n c:Nat}{e:TypeId}{size:Nat}{xs:List Value}(hi:L[i]?=some (rwA g n c e size xs)):RdC w g xs:=fun j _ hj=>h.rcell i hi j hj
def PlV(y:PV):Value:=.agg #[.bool true,.slice (some ⟨y.gr,0,none⟩) 11 y.cr,.slice (some ⟨y.gb,0,none⟩) 512 y.cb,.int .i64 y.p.least]
def CopyP(w:World)(x:PV)(e:Ending)(w':World):Prop:=∃y:PV,y.p=x.p/\e=.returned (PlV y)/\Bank w w' [y.regA,y.byA]
theorem copied_any(x:PV)(w:World)(hr:x.p.regs.length=11)(hb:x.p.bytes.length=512)(hcr:RdC w x.gr (knsL x.p.regs))(hcb:RdC w x.gb (x.p.bytes.map Value.bool)):Calls Tryz.prog 27 #[PlV x] w (CopyP w x):=by
 have H3:=Hd (show(knsL x.p.regs).length=11*3 by rw[knsL_len,hr]);have H1:=Hd (show(x.p.bytes.map Value.bool).length=512*1 by rw[List.length_map,hb]);have HO:=Hd (show ∀u∈x.p.bytes.map Value.bool,u.oneCell'=true from fun u hu=>by obtain⟨b,_,rfl⟩:=List.mem_map.1 hu;rfl);have HCR:=Hd (fun w' (hs:Since w w')=>(fun j u hj=>by rw[Nat.zero_add];exact hs.keep (hcr j u hj):∀j u,(knsL x.p.regs)[j]?=some u->w'.cell? ⟨x.gr,0+j,none⟩=some u));have HCB:=Hd (fun w' (hs:Since w w')=>(fun j u hj=>by rw[Nat.zero_add];exact hs.keep (hcb j u hj):∀j u,(x.p.bytes.map Value.bool)[j]?=some u->w'.cell? ⟨x.gb,0+j,none⟩=some u));clear hr hb hcr hcb;unfold PlV;have BK0:=bk2 w [.bool true,.slice (some ⟨x.gr,0,none⟩) 11 x.cr,.slice (some ⟨x.gb,0,none⟩) 512 x.cb,.int .i64 x.p.least] 87 [.bool false,.slice none 0 0,.slice none 0 0,.int .i64 0] 87;go_enter Tryz.func27,Tryz.ntmps27;go_upto_region 1 with fail;generalize w.heap.size=X at *;refine wp_hid BK0 (fun w1 BK0=>?_);obtain⟨p0,p1,p2,p3,fp0,fp1,fp2,fp3⟩:=BK0.o.r4 1 rfl;obtain⟨r0,r1,r2,r3,fr0,fr1,fr2,fr3⟩:=BK0.o.r4 0 rfl;refine WL.begin 7 (fun w'=>w'.cell? ⟨X,1,none⟩=some (.slice (some ⟨x.gr,0,none⟩) 11 x.cr)/\w'.cell? ⟨X,2,none⟩=some (.slice (some ⟨x.gb,0,none⟩) 512 x.cb)) (fun _=>True) (by kernel_rfl) ⟨p1,p2⟩ trivial (fun hs=>?_);refine WL.tk [(0,[]),(1,[1]),(3,[]),(4,[4])] hs ?_;clear hs
 iterate 4
  (first|refine WLp ?_ ?_ ?_|refine WLl ?_ ?_ ?_);rotate_left
  ·intro w hc;go_simp<;>rfl
  simp only[Act.put,sA,sZ,sS]
 refine TKs.mk ?_;intro hs;refine WLo 2 hs ?_;clear hs;intro K hK;go_simp;refine(cloneKn_any x.gr 0 11 x.cr (knsL x.p.regs) _ H3.o (by decide) (HCR.o _ BK0.o.since.drew) (knsL_one _)).mono ?_;rintro e w2 ⟨A',n',c',rfl,hn,hb⟩;subst hn;obtain⟨gr,rfl⟩:=own_someG (hb.own _ (List.mem_singleton.2 rfl)) (by decide);have BK1:=Hd (bank_join BK0.o.drew hb);clear hb;refine hK.o _ _ (SApp.intro (fun _=>⟨BK1.o.cl 2 1,BK1.o.cl 2 2⟩) trivial) ?_;clear hK K;intro hs;try simp only[Act.put,sA,sZ,sS]
 refine WL.tk [(6,[])] hs ?_;clear hs
 iterate 1
  (first|refine WLp ?_ ?_ ?_|refine WLl ?_ ?_ ?_);rotate_left
  ·intro w hc;go_simp<;>rfl
  simp only[Act.put,sA,sZ,sS]
 refine TKs.mk ?_;intro hs;refine WLo 5 hs ?_;clear hs;intro K hK;go_simp;refine(cloneBo_any x.gb 0 512 x.cb (x.p.bytes.map Value.bool) _ H1.o (by decide) (HCB.o _ BK1.o.since) HO.o).mono ?_;rintro e w3 ⟨A',n',c2',rfl,hn,hb⟩;subst hn;obtain⟨gb,rfl⟩:=own_someG (hb.own _ (List.mem_singleton.2 rfl)) (by decide);have BK2:=Hd (bank_join BK1.o hb);clear hb p0 p1 p2 p3 r0 r1 r2 r3 fp0 fp1 fp2 fp3 fr0 fr1 fr2 fr3;have q1:=BK2.o.cl 3 1;have g1:=BK2.o.free 3 rfl 1;refine hK.o _ _ (SApp.intro (fun _=>⟨BK2.o.cl 3 1,BK2.o.cl 3 2⟩) trivial) ?_;clear hK K;intro hs;try simp only[Act.put,sA,sZ,sS]
 refine WLo 7 hs ?_;clear hs;intro K hK;go_simp;have BK3:=Hd (BK2.o.bs 3 1 (.slice (some ⟨gr,0,none⟩) 11 c'));clear q1 g1;have q2:=BK3.o.cl 3 2;have g2:=BK3.o.free 3 rfl 2;refine hK.o _ _ SaF ?_;clear hK K;intro hs;try simp only[Act.put]
 refine WL.tk [(8,[])] hs ?_;clear hs
 iterate 1
  (first|refine WLp ?_ ?_ ?_|refine WLl ?_ ?_ ?_);rotate_left
  ·intro w hc;go_simp<;>rfl
  simp only[Act.put,sA,sZ,sS]
 refine TKs.mk ?_;intro hs;refine WLo 9 hs ?_;clear hs;intro K hK;go_simp;have BK4:=Hd (BK3.o.bs 3 2 (.slice (some ⟨gb,0,none⟩) 512 c2'));clear q2 g2;refine hK.o _ _ SaF ?_;clear hK K;intro hs;try simp only[Act.put]
 clear hs;refine WLd ?_ _;try simp only[Exit.then]
 obtain⟨p0,p1,p2,p3⟩:=BK4.o.q4 3 rfl;obtain⟨r0,r1,r2,r3,fr0,fr1,fr2,fr3⟩:=BK4.o.r4 2 rfl;go_wp2;refine bodyPost_ret (v:=.agg #[.bool true,.slice (some ⟨gr,0,none⟩) 11 c',.slice (some ⟨gb,0,none⟩) 512 c2',.int .i64 x.p.least]) ?_ rfl ⟨⟨x.p,gr,c',gb,c2',4⟩,rfl,rfl,(((((BK4.o.bs 2 0 (.bool true)).bs 2 1 (.slice (some ⟨gr,0,none⟩) 11 c')).bs 2 2 (.slice (some ⟨gb,0,none⟩) 512 c2')).bs 2 3 (.int .i64 x.p.least)).sub (.cons_cons _ (.cons_cons _ (List.nil_sublist _)))).swap⟩;simp[results,Tryz.results27,go_sem,p0,p1,p2,p3,r0,r1,r2,r3]
set_option maxRecDepth 100000
set_option maxHeartbeats 4000000
theorem eqIn64'(w:World)(a b:BitVec 64):(Op.equalIn 9998 39 (W64 a) (W64 b)).run Tryz.prog w=.ok (a==b) w:=eqIn64n 9997 w a b
attribute [go_sem] eqIn64'
theorem spJoin_agg(lo hi lo2 hi2:BitVec 64)(w:World):Calls Tryz.prog 245 #[.agg #[W64 lo,W64 hi],.agg #[W64 lo2,W64 hi2]] w (Ret w (.agg #[W64 (T.Sp.join ⟨lo,hi⟩ ⟨lo2,hi2⟩).lo,W64 (T.Sp.join ⟨lo,hi⟩ ⟨lo2,hi2⟩).hi])):=spJoin_any ⟨lo,hi⟩ ⟨lo2,hi2⟩ w
theorem knum_agg(k:Int)(lo hi:BitVec 64)(w:World):Calls Tryz.prog 126 #[.agg #[.int .u8 k,W64 lo,W64 hi]] w (Ret w (.tuple #[.agg #[W64 (T.Kn.numS ⟨k,⟨lo,hi⟩⟩).lo,W64 (T.Kn.numS ⟨k,⟨lo,hi⟩⟩).hi],.bool (T.Kn.isN ⟨k,⟨lo,hi⟩⟩)])):=knum_any ⟨k,⟨lo,hi⟩⟩ w
theorem kright_agg(k:Int)(lo hi:BitVec 64)(w:World):Calls Tryz.prog 87 #[.agg #[.int .u8 k,W64 lo,W64 hi]] w (Ret w (.bool (T.Kn.right ⟨k,⟨lo,hi⟩⟩))):=kright_any ⟨k,⟨lo,hi⟩⟩ w
section
variable{x y:T.Kn}(hx:x.right=true)(hy:y.right=true)
include hx
theorem kj_same:x.join x=x:=by
 unfold T.Kn.join;rw[hx];simp
include hy
theorem kj_num(hn:¬x=y)(hi:x.isN=true)(hj:y.isN=true):x.join y=⟨1,x.numS.join y.numS⟩:=by
 unfold T.Kn.join;rw[hx,hy,hi,hj];simp[hn]
theorem kj_pk(hn:¬x=y)(hi:(x.isN&&y.isN)=false)(ha:x.k=2)(hb:y.k=2):x.join y=⟨2,x.s.join y.s⟩:=by
 unfold T.Kn.join;rw[hx,hy,hi,if_neg (by simp),if_neg hn,if_neg (by simp),if_pos ⟨ha,hb⟩]
theorem kj_none(hn:¬x=y)(hi:(x.isN&&y.isN)=false)(h2:¬(x.k=2/\y.k=2)):x.join y=T.Kn.none:=by
 unfold T.Kn.join;rw[hx,hy,hi,if_neg (by simp),if_neg hn,if_neg (by simp),if_neg h2]
end
theorem kjoin_right(x y:T.Kn)(hx:x.right=true)(hy:y.right=true)(w:World):Calls Tryz.prog 225 #[knv x,knv y] w (Ret w (knv (x.join y))):=by
 obtain⟨a,⟨lo,hi⟩⟩:=x;obtain⟨b,⟨lo2,hi2⟩⟩:=y;have RA:=Hd hx;have RB:=Hd hy;clear hx hy;obtain⟨z,hz⟩:∃z,T.Kn.join ⟨a,⟨lo,hi⟩⟩ ⟨b,⟨lo2,hi2⟩⟩=z:=⟨_,rfl⟩
 rw[hz];have HZ:=Hd hz;clear hz;unfold knv;have BK0:=bk3 w [.int .u8 a,W64 lo,W64 hi] 124 [.int .u8 b,W64 lo2,W64 hi2] 124 [.int .u8 0,W64 0#64,W64 0#64] 124;go_enter Tryz.func225,Tryz.ntmps225;go_upto_region 1 with fail;generalize w.heap.size=X at *;refine wp_hid BK0 (fun w1 BK0=>?_);obtain⟨a0,a1,a2⟩:=BK0.o.q3 2 rfl;obtain⟨b0,b1,b2⟩:=BK0.o.q3 1 rfl;obtain⟨r0,r1,r2,fr0,fr1,fr2⟩:=BK0.o.r3 0 rfl;go_wp2_with fail;refine(knum_agg a lo hi _).mono ?_;rintro e w2 ⟨rfl,hs⟩;have BK1:=Hd (BK0.o.call hs);clear a0 a1 a2 b0 b1 b2 r0 r1 r2 fr0 fr1 fr2;clear hs BK0;obtain⟨a0,a1,a2⟩:=BK1.o.q3 2 rfl;obtain⟨b0,b1,b2⟩:=BK1.o.q3 1 rfl;obtain⟨r0,r1,r2,fr0,fr1,fr2⟩:=BK1.o.r3 0 rfl;obtain⟨p,hp⟩:∃q,T.Kn.numS ⟨a,⟨lo,hi⟩⟩=q:=⟨_,rfl⟩
 rw[hp];have Hp:=Hd hp;clear hp;obtain⟨i,hi⟩:∃q,T.Kn.isN ⟨a,⟨lo,hi⟩⟩=q:=⟨_,rfl⟩
 rw[hi];have Hi:=Hd hi;clear hi;go_upto_region 2 with fail;refine wp_hid (Hd (BK1.o.bx [W64 p.lo,W64 p.hi] 122)) (fun w3 BK2=>?_);generalize w2.heap.size=D at *;clear BK1;clear a0 a1 a2 b0 b1 b2 r0 r1 r2 fr0 fr1 fr2;obtain⟨a0,a1,a2⟩:=BK2.o.q3 3 rfl;obtain⟨b0,b1,b2⟩:=BK2.o.q3 2 rfl;obtain⟨r0,r1,r2,fr0,fr1,fr2⟩:=BK2.o.r3 1 rfl;obtain⟨p0,p1⟩:=BK2.o.q2 0 rfl;go_wp2_with fail;refine(knum_agg b lo2 hi2 _).mono ?_;rintro e w4 ⟨rfl,hs⟩;have BK3:=Hd (BK2.o.call hs);clear a0 a1 a2 b0 b1 b2 r0 r1 r2 fr0 fr1 fr2 p0 p1;clear hs BK2;obtain⟨a0,a1,a2⟩:=BK3.o.q3 3 rfl;obtain⟨b0,b1,b2⟩:=BK3.o.q3 2 rfl;obtain⟨r0,r1,r2,fr0,fr1,fr2⟩:=BK3.o.r3 1 rfl;obtain⟨p0,p1⟩:=BK3.o.q2 0 rfl;obtain⟨q,hq⟩:∃q,T.Kn.numS ⟨b,⟨lo2,hi2⟩⟩=q:=⟨_,rfl⟩
 rw[hq];have Hq:=Hd hq;clear hq;obtain⟨j,hj⟩:∃q,T.Kn.isN ⟨b,⟨lo2,hi2⟩⟩=q:=⟨_,rfl⟩
 rw[hj];have Hj:=Hd hj;clear hj;go_upto_region 3 with fail;refine wp_hid (Hd (BK3.o.bx [W64 q.lo,W64 q.hi] 122)) (fun w5 BK4=>?_);generalize w4.heap.size=E at *;clear BK3;clear a0 a1 a2 b0 b1 b2 r0 r1 r2 fr0 fr1 fr2 p0 p1;obtain⟨a0,a1,a2⟩:=BK4.o.q3 4 rfl;obtain⟨b0,b1,b2⟩:=BK4.o.q3 3 rfl;obtain⟨r0,r1,r2,fr0,fr1,fr2⟩:=BK4.o.r3 2 rfl;obtain⟨p0,p1⟩:=BK4.o.q2 1 rfl;obtain⟨q0,q1⟩:=BK4.o.q2 0 rfl;go_wp2_with fail;refine(kright_agg a lo hi _).mono ?_;rintro e w6 ⟨rfl,hs⟩;have BK5:=Hd (BK4.o.call hs);clear a0 a1 a2 b0 b1 b2 r0 r1 r2 fr0 fr1 fr2 p0 p1 q0 q1;clear hs BK4;obtain⟨a0,a1,a2⟩:=BK5.o.q3 4 rfl;obtain⟨b0,b1,b2⟩:=BK5.o.q3 3 rfl;obtain⟨r0,r1,r2,fr0,fr1,fr2⟩:=BK5.o.r3 2 rfl;obtain⟨p0,p1⟩:=BK5.o.q2 1 rfl;obtain⟨q0,q1⟩:=BK5.o.q2 0 rfl;rw[RA.o];go_wp2_with fail;refine(kright_agg b lo2 hi2 _).mono ?_;rintro e w7 ⟨rfl,hs⟩;have BK6:=Hd (BK5.o.call hs);clear a0 a1 a2 b0 b1 b2 r0 r1 r2 fr0 fr1 fr2 p0 p1 q0 q1;clear hs BK5;obtain⟨a0,a1,a2⟩:=BK6.o.q3 4 rfl;obtain⟨b0,b1,b2⟩:=BK6.o.q3 3 rfl;obtain⟨r0,r1,r2,fr0,fr1,fr2⟩:=BK6.o.r3 2 rfl;obtain⟨p0,p1⟩:=BK6.o.q2 1 rfl;obtain⟨q0,q1⟩:=BK6.o.q2 0 rfl;rw[RB.o];cases hE:(a==b&&(lo==lo2&&hi==hi2))
 case true =>
  rw[Bool.and_eq_true,Bool.and_eq_true,beq_iff_eq,beq_iff_eq,beq_iff_eq]at hE;obtain⟨e0,e1,e2⟩:=hE;subst e0 e1 e2;go_wp2;refine bodyPost_ret (v:=.agg #[.int .u8 a,W64 lo,W64 hi]) ?_ rfl ⟨by rw[<-HZ.o,kj_same RA.o]<;>rfl,(((BK6.o.bs 2 0 (.int .u8 a)).bs 2 1 (W64 lo)).bs 2 2 (W64 hi)).since⟩;simp[results,Tryz.results225,go_sem,a0,a1,a2,b0,b1,b2,r0,r1,r2,p0,p1,q0,q1]
 case false =>
  have HNE:=Hd (show ¬(⟨a,⟨lo,hi⟩⟩:T.Kn)=⟨b,⟨lo2,hi2⟩⟩from fun e=>by cases e;simp at hE);go_upto_region 7 with fail;clear hE;cases i
  case false =>
   have HNI:=Hd (show(T.Kn.isN ⟨a,⟨lo,hi⟩⟩&&T.Kn.isN ⟨b,⟨lo2,hi2⟩⟩)=false by rw[Hi.o];rfl);by_cases ha2:a=2
   ·by_cases hb2:b=2
    ·have H2:=Hd ha2
     have H3:=Hd hb2;subst ha2 hb2;go_wp2_with fail;refine(spJoin_agg lo hi lo2 hi2 _).mono ?_;rintro e w8 ⟨rfl,hs⟩;have BK7:=Hd (BK6.o.call hs);clear a0 a1 a2 b0 b1 b2 r0 r1 r2 fr0 fr1 fr2 p0 p1 q0 q1;clear hs BK6;obtain⟨a0,a1,a2⟩:=BK7.o.q3 4 rfl;obtain⟨b0,b1,b2⟩:=BK7.o.q3 3 rfl;obtain⟨r0,r1,r2,fr0,fr1,fr2⟩:=BK7.o.r3 2 rfl;obtain⟨p0,p1⟩:=BK7.o.q2 1 rfl;obtain⟨q0,q1⟩:=BK7.o.q2 0 rfl;go_wp2;refine bodyPost_ret (v:=.agg #[.int .u8 2,W64 (T.Sp.join ⟨lo,hi⟩ ⟨lo2,hi2⟩).lo,W64 (T.Sp.join ⟨lo,hi⟩ ⟨lo2,hi2⟩).hi]) ?_ rfl ⟨by rw[<-HZ.o,kj_pk RA.o RB.o HNE.o HNI.o rfl rfl]<;>rfl,(((BK7.o.bs 2 0 (.int .u8 2)).bs 2 1 (W64 (T.Sp.join ⟨lo,hi⟩ ⟨lo2,hi2⟩).lo)).bs 2 2 (W64 (T.Sp.join ⟨lo,hi⟩ ⟨lo2,hi2⟩).hi)).since⟩;simp[results,Tryz.results225,go_sem,a0,a1,a2,b0,b1,b2,r0,r1,r2,p0,p1,q0,q1]
    ·have H3:=Hd hb2
     go_wp2;refine bodyPost_ret (v:=.agg #[.int .u8 0,W64 0#64,W64 0#64]) ?_ rfl ⟨by rw[<-HZ.o,kj_none RA.o RB.o HNE.o HNI.o fun q=>H3.o q.2]<;>rfl,(((BK6.o.bs 2 0 (.int .u8 0)).bs 2 1 (W64 0#64)).bs 2 2 (W64 0#64)).since⟩;simp[results,Tryz.results225,go_sem,a0,a1,a2,b0,b1,b2,r0,r1,r2,p0,p1,q0,q1]
   ·have H3:=Hd ha2
    go_wp2;refine bodyPost_ret (v:=.agg #[.int .u8 0,W64 0#64,W64 0#64]) ?_ rfl ⟨by rw[<-HZ.o,kj_none RA.o RB.o HNE.o HNI.o fun q=>H3.o q.1]<;>rfl,(((BK6.o.bs 2 0 (.int .u8 0)).bs 2 1 (W64 0#64)).bs 2 2 (W64 0#64)).since⟩;simp[results,Tryz.results225,go_sem,a0,a1,a2,b0,b1,b2,r0,r1,r2,p0,p1,q0,q1]
  case true =>
   cases j
   case false =>
    have HNI:=Hd (show(T.Kn.isN ⟨a,⟨lo,hi⟩⟩&&T.Kn.isN ⟨b,⟨lo2,hi2⟩⟩)=false by rw[Hi.o,Hj.o];rfl);by_cases ha2:a=2
    ·by_cases hb2:b=2
     ·have H2:=Hd ha2
      have H3:=Hd hb2;subst ha2 hb2;go_wp2_with fail;refine(spJoin_agg lo hi lo2 hi2 _).mono ?_;rintro e w8 ⟨rfl,hs⟩;have BK7:=Hd (BK6.o.call hs);clear a0 a1 a2 b0 b1 b2 r0 r1 r2 fr0 fr1 fr2 p0 p1 q0 q1;clear hs BK6;obtain⟨a0,a1,a2⟩:=BK7.o.q3 4 rfl;obtain⟨b0,b1,b2⟩:=BK7.o.q3 3 rfl;obtain⟨r0,r1,r2,fr0,fr1,fr2⟩:=BK7.o.r3 2 rfl;obtain⟨p0,p1⟩:=BK7.o.q2 1 rfl;obtain⟨q0,q1⟩:=BK7.o.q2 0 rfl;go_wp2;refine bodyPost_ret (v:=.agg #[.int .u8 2,W64 (T.Sp.join ⟨lo,hi⟩ ⟨lo2,hi2⟩).lo,W64 (T.Sp.join ⟨lo,hi⟩ ⟨lo2,hi2⟩).hi]) ?_ rfl ⟨by rw[<-HZ.o,kj_pk RA.o RB.o HNE.o HNI.o rfl rfl]<;>rfl,(((BK7.o.bs 2 0 (.int .u8 2)).bs 2 1 (W64 (T.Sp.join ⟨lo,hi⟩ ⟨lo2,hi2⟩).lo)).bs 2 2 (W64 (T.Sp.join ⟨lo,hi⟩ ⟨lo2,hi2⟩).hi)).since⟩;simp[results,Tryz.results225,go_sem,a0,a1,a2,b0,b1,b2,r0,r1,r2,p0,p1,q0,q1]
     ·have H3:=Hd hb2
      go_wp2;refine bodyPost_ret (v:=.agg #[.int .u8 0,W64 0#64,W64 0#64]) ?_ rfl ⟨by rw[<-HZ.o,kj_none RA.o RB.o HNE.o HNI.o fun q=>H3.o q.2]<;>rfl,(((BK6.o.bs 2 0 (.int .u8 0)).bs 2 1 (W64 0#64)).bs 2 2 (W64 0#64)).since⟩;simp[results,Tryz.results225,go_sem,a0,a1,a2,b0,b1,b2,r0,r1,r2,p0,p1,q0,q1]
    ·have H3:=Hd ha2
     go_wp2;refine bodyPost_ret (v:=.agg #[.int .u8 0,W64 0#64,W64 0#64]) ?_ rfl ⟨by rw[<-HZ.o,kj_none RA.o RB.o HNE.o HNI.o fun q=>H3.o q.1]<;>rfl,(((BK6.o.bs 2 0 (.int .u8 0)).bs 2 1 (W64 0#64)).bs 2 2 (W64 0#64)).since⟩;simp[results,Tryz.results225,go_sem,a0,a1,a2,b0,b1,b2,r0,r1,r2,p0,p1,q0,q1]
   case true =>
    go_wp2_with fail;refine(spJoin_agg p.lo p.hi q.lo q.hi _).mono ?_;rintro e w8 ⟨rfl,hs⟩;have BK7:=Hd (BK6.o.call hs);clear a0 a1 a2 b0 b1 b2 r0 r1 r2 fr0 fr1 fr2 p0 p1 q0 q1;clear hs BK6;obtain⟨a0,a1,a2⟩:=BK7.o.q3 4 rfl;obtain⟨b0,b1,b2⟩:=BK7.o.q3 3 rfl;obtain⟨r0,r1,r2,fr0,fr1,fr2⟩:=BK7.o.r3 2 rfl;obtain⟨p0,p1⟩:=BK7.o.q2 1 rfl;obtain⟨q0,q1⟩:=BK7.o.q2 0 rfl;go_wp2;refine bodyPost_ret (v:=.agg #[.int .u8 1,W64 (T.Sp.join ⟨p.lo,p.hi⟩ ⟨q.lo,q.hi⟩).lo,W64 (T.Sp.join ⟨p.lo,p.hi⟩ ⟨q.lo,q.hi⟩).hi]) ?_ rfl ⟨by rw[<-HZ.o,kj_num RA.o RB.o HNE.o Hi.o Hj.o,Hp.o,Hq.o]<;>rfl,(((BK7.o.bs 2 0 (.int .u8 1)).bs 2 1 (W64 (T.Sp.join ⟨p.lo,p.hi⟩ ⟨q.lo,q.hi⟩).lo)).bs 2 2 (W64 (T.Sp.join ⟨p.lo,p.hi⟩ ⟨q.lo,q.hi⟩).hi)).since⟩;simp[results,Tryz.results225,go_sem,a0,a1,a2,b0,b1,b2,r0,r1,r2,p0,p1,q0,q1]
set_option maxRecDepth 100000
set_option maxHeartbeats 4000000
theorem kwithin_ok(x y:T.Kn)(h:x.within y=true)(w:World):Calls Tryz.prog 82 #[knv x,knv y] w (Ret w (.bool true)):=by
 have hr:=T.Kn.within_right h;have hc:=(T.Kn.within_iff hr.1 hr.2).1 h;obtain⟨a,⟨lo,hi⟩⟩:=x;obtain⟨b,⟨lo2,hi2⟩⟩:=y;have RA:=Hd hr.1;have RB:=Hd hr.2;clear h hr;unfold knv;simp only[T.Kn.mk.injEq,T.Sp.mk.injEq]at hc;obtain⟨p,hp⟩:∃q,T.Kn.numS ⟨a,⟨lo,hi⟩⟩=q:=⟨_,rfl⟩
 rw[hp]at hc;have HP:=Hd hp;have HC:=Hd hc;clear hp hc;have BK0:=bk2 w [.int .u8 a,W64 lo,W64 hi] 124 [.int .u8 b,W64 lo2,W64 hi2] 124;go_enter Tryz.func82,Tryz.ntmps82;go_upto_region 1 with fail;generalize w.heap.size=X at *;refine wp_hid BK0 (fun w1 BK0=>?_);obtain⟨a0,a1,a2⟩:=BK0.o.q3 1 rfl;obtain⟨b0,b1,b2⟩:=BK0.o.q3 0 rfl;go_wp2_with fail;refine(kright_agg a lo hi _).mono ?_;rintro e w2 ⟨rfl,hs⟩;have BK1:=Hd (BK0.o.call hs);clear hs BK0 a0 a1 a2 b0 b1 b2;obtain⟨a0,a1,a2⟩:=BK1.o.q3 1 rfl;obtain⟨b0,b1,b2⟩:=BK1.o.q3 0 rfl;rw[RA.o];go_wp2_with fail;refine(kright_agg b lo2 hi2 _).mono ?_;rintro e w3 ⟨rfl,hs⟩;have BK2:=Hd (BK1.o.call hs);clear hs BK1 a0 a1 a2 b0 b1 b2;obtain⟨a0,a1,a2⟩:=BK2.o.q3 1 rfl;obtain⟨b0,b1,b2⟩:=BK2.o.q3 0 rfl;rw[RB.o];go_wp2_with fail;refine(knum_agg a lo hi _).mono ?_;rintro e w4 ⟨rfl,hs⟩;have BK3:=Hd (BK2.o.call hs);clear hs BK2 a0 a1 a2 b0 b1 b2;rw[HP.o];go_upto_region 4 with fail;refine wp_hid (Hd (BK3.o.bx [W64 p.lo,W64 p.hi] 122)) (fun w5 BK4=>?_);generalize w4.heap.size=D at *;clear BK3;obtain⟨a0,a1,a2⟩:=BK4.o.q3 2 rfl;obtain⟨b0,b1,b2⟩:=BK4.o.q3 1 rfl;obtain⟨p0,p1⟩:=BK4.o.q2 0 rfl;rcases HC.o with h0|⟨h43,rfl,rfl,rfl⟩|⟨rfl,rfl,hw⟩|⟨h12,rfl,hw⟩
 ·subst h0
  go_wp2;go_ret;exact⟨rfl,BK4.o.since⟩
 ·have heq:∀w,(binOp .eql 124 (.agg #[.int .u8 a,W64 lo,W64 hi]) (.agg #[.int .u8 a,W64 lo,W64 hi])).run Tryz.prog w=.ok (.bool true) w:=fun w=>by
   simp only[W64];simp[go_sem]
  rcases h43 with rfl|rfl
  all_goals
   go_wp2;go_ret;exact⟨rfl,BK4.o.since⟩
 ·have HW:=Hd hw
  clear hw;go_wp2_with fail;refine(spWithin_agg p.lo p.hi lo2 hi2 _).mono ?_;rintro e w6 ⟨rfl,hs⟩;have S:=Hd (BK4.o.since.add hs);clear hs;rw[show T.Sp.within ⟨p.lo,p.hi⟩ ⟨lo2,hi2⟩=true from HW.o];go_wp2;go_ret;exact⟨rfl,S.o⟩
 ·have HW:=Hd hw
  clear hw;rcases h12 with rfl|rfl
  all_goals
   go_wp2_with fail;refine(spWithin_agg lo hi lo2 hi2 _).mono ?_;rintro e w6 ⟨rfl,hs⟩;have S:=Hd (BK4.o.since.add hs);clear hs;rw[show T.Sp.within ⟨lo,hi⟩ ⟨lo2,hi2⟩=true from HW.o];go_wp2;go_ret;exact⟨rfl,S.o⟩
set_option maxRecDepth 100000
set_option maxHeartbeats 4000000
theorem opposites_agg(w:World):Calls Tryz.prog 234 #[] w (Ret w (.agg #[.int .u8 0,.int .u8 0,.int .u8 0,.int .u8 0,.int .u8 0,.int .u8 0,.int .u8 0,.int .u8 0,.int .u8 0,.int .u8 0,.int .u8 0,.int .u8 0,.int .u8 0,.int .u8 0,.int .u8 0,.int .u8 0,.int .u8 0,.int .u8 18,.int .u8 17,.int .u8 22,.int .u8 21,.int .u8 20,.int .u8 19,.int .u8 26,.int .u8 25,.int .u8 24,.int .u8 23,.int .u8 27])):=opposites_any w
theorem opp_at(op:Int)(h:17<=op/\op<=26)(w:World):(Instr.index 284 (.agg #[.int .u8 0,.int .u8 0,.int .u8 0,.int .u8 0,.int .u8 0,.int .u8 0,.int .u8 0,.int .u8 0,.int .u8 0,.int .u8 0,.int .u8 0,.int .u8 0,.int .u8 0,.int .u8 0,.int .u8 0,.int .u8 0,.int .u8 0,.int .u8 18,.int .u8 17,.int .u8 22,.int .u8 21,.int .u8 20,.int .u8 19,.int .u8 26,.int .u8 25,.int .u8 24,.int .u8 23,.int .u8 27]) (.int .u8 op)).run Tryz.prog w=.ok (.int .u8 (T.opp op)) w:=by
 have hc:op=17\/op=18\/op=19\/op=20\/op=21\/op=22\/op=23\/op=24\/op=25\/op=26:=by omega
 rcases hc with rfl|rfl|rfl|rfl|rfl|rfl|rfl|rfl|rfl|rfl
 all_goals
  show _=_
  kernel_rfl
theorem opp_in(op:Int)(h:17<=op/\op<=26):17<=T.opp op/\T.opp op<=26:=by
 have hc:op=17\/op=18\/op=19\/op=20\/op=21\/op=22\/op=23\/op=24\/op=25\/op=26:=by omega
 rcases hc with rfl|rfl|rfl|rfl|rfl|rfl|rfl|rfl|rfl|rfl<;>decide
theorem wask_any(x:T.Wk)(op:Int)(yes:Bool)(h:17<=op/\op<=27)(w:World):Calls Tryz.prog 171 #[wkv x,.int .u8 op,.bool yes] w (PairP w (x.ask op yes)):=by
 have HH:=Hd h;have HS1:=Hd (fun b q=>show Calls Tryz.prog 233 #[wkv x,.bool b] q (PairP q (x.set b))by cases b;exact wset_f x q;exact wset_t x q);have HP:=Hd (fun o ho q=>wplain_all x o ho q);have HG:=Hd (fun o ho q=>wsigned_all x o ho q);have BK:=bk3 w [W64 x.a.lo,W64 x.a.hi,W64 x.b.lo,W64 x.b.hi,.bool x.narrow,W64 x.most,W64 x.size] 229 [W64 0#64,W64 0#64] 122 [W64 0#64,W64 0#64] 122;unfold wkv at HS1 HP HG ⊢;clear h;obtain⟨z,hz⟩:∃z,x.ask op yes=z:=⟨_,rfl⟩
 rw[hz];have HZ:=Hd hz;clear hz;go_enter Tryz.func171,Tryz.ntmps171;go_upto_region 1 with fail;generalize w.heap.size=X at *;refine wp_hid BK (fun w1 BK=>?_);obtain⟨c0,c1,c2,c3,c4,c5,c6,d0,d1,d2,d3,f0,f1,f2,f3⟩:=pr_cells BK.o;by_cases h27:op=27
 case' pos =>
  subst h27;have HE:=Hd (show x.ask 27 yes=x.set yes from rfl);go_wp2_with fail;refine(HS1.o _ _).mono ?_
 case' neg =>
  have e27:(op==27)=false:=by simpa using h27
  have HN:=Hd (show 17<=op/\op<=26 by have:=HH.o;omega);clear h27;cases yes
  case' false =>
   go_wp2_with fail;refine(opposites_agg _).mono ?_;rintro e w5 ⟨rfl,hs⟩;have BK:=Hd (BK.o.call hs);clear c0 c1 c2 c3 c4 c5 c6 d0 d1 d2 d3 f0 f1 f2 f3 hs;obtain⟨c0,c1,c2,c3,c4,c5,c6,d0,d1,d2,d3,f0,f1,f2,f3⟩:=pr_cells BK.o;have HI:=fun w=>opp_at op HN.o w
   have HN2:=Hd (opp_in op HN.o);have HE0:=Hd (show x.ask op false=x.askd (T.opp op)by unfold T.Wk.ask;rw[if_neg (by simpa using e27)];rfl);generalize T.opp op=o at *
  case' true =>
   have HN2:=HN;have HE0:=Hd (show x.ask op true=x.askd op by unfold T.Wk.ask;rw[if_neg (by simpa using e27)];rfl);generalize op=o at *
  all_goals
   by_cases h23:23<=o
   case' pos =>
    have HE:=Hd (HE0.o.trans (if_pos h23));have HN3:=Hd (show 23<=o/\o<=26 from⟨h23,HN2.o.2⟩);go_wp2_with fail;refine(HG.o _ HN3.o _).mono ?_
   case' neg =>
    have HE:=Hd (HE0.o.trans (if_neg h23));have HN3:=Hd (show 17<=o/\o<=22 by have:=HN2.o;omega);go_wp2_with fail;refine(HP.o _ HN3.o _).mono ?_
 all_goals
  rintro e w6 (⟨⟨⟨a,b⟩,⟨c,d⟩⟩,hr,rfl,hs⟩|⟨hr,rfl,hs⟩)
  case inr =>
   have HFIN:=Hd (pairP_none (HZ.o.symm.trans (HE.o.trans hr)) (BK.o.call hs).since);clear hs BK hr;clear c0 c1 c2 c3 c4 c5 c6 d0 d1 d2 d3 f0 f1 f2 f3;go_wp2;exact⟨rfl,HFIN.o⟩
  case inl =>
   have HRR:=Hd (HZ.o.symm.trans (HE.o.trans hr));have BK:=Hd (BK.o.call hs);clear c0 c1 c2 c3 c4 c5 c6 d0 d1 d2 d3 f0 f1 f2 f3;clear hs hr;obtain⟨c0,c1,c2,c3,c4,c5,c6,d0,d1,d2,d3,f0,f1,f2,f3⟩:=pr_cells BK.o;unfold spv;dsimp only;go_wp2_with fail;refine bodyPost_ret (v:=.tuple #[.agg #[W64 (a),W64 (b)],.agg #[W64 (c),W64 (d)]]) ?_ rfl (pairP_some (a) (b) (c) (d) (HRR.o) (by first|exact pr_since BK.o _ _ _ _|exact(pr_since BK.o _ _ _ _).drew));simp[results,Tryz.results171,go_sem,d0,d1,d2,d3]
def rgL(r:Int×T.U):List Value:=[.int .u8 r.1,W64 r.2]
theorem rgL_len(r:Int×T.U):(rgL r).length=2:=rfl
def mcL(m:T.Mc)(pk vd:Value):List Value:=m.regs.flatMap rgL++(m.stk.map B8++(m.set.map Value.bool ++ [pk,.int .i64 (m.at':Int),vd]))
structure Mok(m:T.Mc):Prop where
 rl:m.regs.length=11
 tl:m.stk.length=512
 sl:m.set.length=512
section
variable{m:T.Mc}(h:Mok m)(pk vd:Value)
include h
theorem rg22:(m.regs.flatMap rgL).length=22:=by rw[flat_len rgL 2 rgL_len,h.rl]
theorem mcL_len:(mcL m pk vd).length=1049:=by simp[mcL,rg22 h,h.tl,h.sl]
theorem mcL_reg(r:Nat)(hr:r<11):(mcL m pk vd)[r*2]?=some (.int .u8 (m.reg (r:Int)).1)/\(mcL m pk vd)[r*2+1]?=some (W64 (m.reg (r:Int)).2):=by
 have hrl:r<m.regs.length:=by rw[h.rl];exact hr
 have e:m.reg (r:Int)=m.regs[r]:=by
  unfold T.Mc.reg;rw[Int.toNat_natCast,List.getD_eq_getElem?_getD,List.getElem?_eq_getElem hrl];rfl
 have h0:=flat_get rgL 2 rgL_len m.regs r hrl 0 (by omega);have h1:=flat_get rgL 2 rgL_len m.regs r hrl 1 (by omega);rw[e,mcL];refine⟨?_,?_⟩
 ·rw[List.getElem?_append_left (by rw[rg22 h];omega)];exact h0
 ·rw[List.getElem?_append_left (by rw[rg22 h];omega)];exact h1
theorem mcL_stk(j:Nat)(hj:j<512):(mcL m pk vd)[22+j]?=some (B8 (m.stk.getD j 0)):=by
 rw[mcL,List.getElem?_append_right (by rw[rg22 h];omega),rg22 h,Nat.add_sub_cancel_left,List.getElem?_append_left (by rw[List.length_map,h.tl];exact hj),List.getElem?_map,List.getD_eq_getElem?_getD,List.getElem?_eq_getElem (by rw[h.tl];exact hj)];rfl
theorem mcL_set(j:Nat)(hj:j<512):(mcL m pk vd)[534+j]?=some (.bool (m.set.getD j false)):=by
 rw[mcL,List.getElem?_append_right (by rw[rg22 h];omega),rg22 h,show 534+j-22=512+j by omega,List.getElem?_append_right (by rw[List.length_map,h.tl];omega),List.length_map,h.tl,Nat.add_sub_cancel_left,List.getElem?_append_left (by rw[List.length_map,h.sl];exact hj),List.getElem?_map,List.getD_eq_getElem?_getD,List.getElem?_eq_getElem (by rw[h.sl];exact hj)];rfl
theorem mcL_end(j:Nat):(mcL m pk vd)[1046+j]? = [pk,.int .i64 (m.at':Int),vd][j]?:=by
 rw[mcL,List.getElem?_append_right (by rw[rg22 h];omega),rg22 h,show 1046+j-22=1024+j by omega,List.getElem?_append_right (by rw[List.length_map,h.tl];omega),List.length_map,h.tl,show 1024+j-512=512+j by omega,List.getElem?_append_right (by rw[List.length_map,h.sl];omega),List.length_map,h.sl,Nat.add_sub_cancel_left]
theorem mcL_put(r:Nat)(hr:r<11)(v:Int×T.U):((mcL m pk vd).set (r*2) (.int .u8 v.1)).set (r*2+1) (W64 v.2)=mcL (m.put (r:Int) v) pk vd:=by
 have hrl:r<m.regs.length:=by rw[h.rl];exact hr
 have hl:((m.regs.take r).flatMap rgL).length=r*2:=by rw[flat_len rgL 2 rgL_len,List.length_take];congr 1;omega
 have e:(((m.regs.flatMap rgL).set (r*2) (.int .u8 v.1)).set (r*2+1) (W64 v.2))=(m.regs.set r v).flatMap rgL:=by
  rw[show r*2=r*2+0 from rfl,flat_set rgL 2 rgL_len m.regs r 0 _ hrl (by omega) (rgL m.regs[r]) _ (fun u hu=>by rw[List.getElem?_eq_getElem hrl]at hu;cases hu;rfl) rfl];rw[show r*2+0+1=r*2+1 from rfl,set_mid _ hl (by simp[rgL])];exact flat_done rgL m.regs r v hrl
 rw[mcL,List.set_append_left _ _ (by rw[rg22 h];omega),List.set_append_left _ _ (by rw[List.length_set,rg22 h];omega),e];rfl
theorem mcL_at(k:Nat):(mcL m pk vd).set 1047 (.int .i64 (k:Int))=mcL { m with at':=k } pk vd:=by
 rw[mcL,List.set_append_right _ _ (by rw[rg22 h];omega),rg22 h,List.set_append_right _ _ (by rw[List.length_map,h.tl];omega),List.length_map,h.tl,List.set_append_right _ _ (by rw[List.length_map,h.sl];omega),List.length_map,h.sl];rfl
theorem mcL_vd(v:Value):(mcL m pk vd).set 1048 v=mcL m pk v:=by
 rw[mcL,List.set_append_right _ _ (by rw[rg22 h];omega),rg22 h,List.set_append_right _ _ (by rw[List.length_map,h.tl];omega),List.length_map,h.tl,List.set_append_right _ _ (by rw[List.length_map,h.sl];omega),List.length_map,h.sl];rfl
theorem mcL_mark(j:Nat)(hj:j<512):(mcL m pk vd).set (534+j) (.bool true)=mcL { m with set:=m.set.set j true } pk vd:=by
 rw[mcL,List.set_append_right _ _ (by rw[rg22 h];omega),rg22 h,List.set_append_right _ _ (by rw[List.length_map,h.tl];omega),List.length_map,h.tl,show 534+j-22-512=j by omega,List.set_append_left _ _ (by rw[List.length_map,h.sl];exact hj),<-List.map_set];rfl
theorem Mok.put(r:Int)(v:Int×T.U):Mok (m.put r v):=⟨by simp[T.Mc.put,h.rl],h.tl,h.sl⟩
theorem Mok.ats(k:Nat):Mok { m with at':=k }:=⟨h.rl,h.tl,h.sl⟩
end
set_option maxRecDepth 100000
set_option maxHeartbeats 4000000
theorem catchP_idle(p:Addr)(w:World):
  CallsD Tryz.prog 222 #[.pointer (some p)] .returning w fun e u' w'=>e=.returned (.tuple #[])/\u'=.returning/\w'=w:=by
 refine callsD_of_wpS Tryz.func222 rfl fun c₀ cs hu=>?_
 apply wpS_seq;apply wpS_region;simp[wpOpsS,go_sem,recoverD,hu,Tryz.ntmps222,Exit.thenS];refine wpS_of_wp ?_;rw[tmps14];go_wp2;cases c₀
 simp_all [bodyPostS,results,Tryz.results222]
theorem caughtGet_any(A B C D:Nat){w0 w:World}{L L':List Acc}(hB:Bank w0 w L)(hc:∀w1,Bank w0 w1 (boxAcc w.heap.size 25 [.int .i64 0]::L)->Calls Tryz.prog 152 #[.pointer (some ⟨A,0,none⟩),.pointer (some ⟨B,0,none⟩),.pointer (some ⟨C,0,none⟩),.pointer (some ⟨D,0,none⟩)] w1 fun e w'=>(∃v,e=.returned v)/\Bank w0 w' (boxAcc w.heap.size 25 [.int .i64 0]::L')):
  Calls Tryz.prog 151 #[.func (.func 152) #[] #[.pointer (some ⟨A,0,none⟩),.pointer (some ⟨B,0,none⟩),.pointer (some ⟨C,0,none⟩),.pointer (some ⟨D,0,none⟩)]] w fun e w'=>e=.returned (.int .i64 0)/\Bank w0 w' L':=by
 have hmf:=hmfT;have BK0:=Hd (hB.bx [.int .i64 0] 25);have HC:=Hd hc;clear hc hB
 go_enter_defers Tryz.func151,Tryz.ntmps151
 go_wp2_with fail;obtain⟨Y,hY⟩:∃Y,Y=w.heap.size:=⟨_,rfl⟩
 rw[<-hY]at BK0 HC ⊢;generalize w.alloc (.cells #[.int .i64 0] 25)=w1 at *;refine(HC.o w1 BK0.o).mono ?_;rintro e w2 ⟨⟨v,rfl⟩,hb⟩;have BK2:=Hd hb;obtain⟨c0,f0⟩:=BK2.o.r1 0 rfl;have BK3:=Hd (BK2.o.bs 0 0 (.int .i64 0));clear hb BK0 BK2 HC hY;go_wp2;refine leaves_cons (f:=222) (args:=#[.pointer (some ⟨Y,0,none⟩)]) (by simp) (by simp[go_sem]) ?_;refine(catchP_idle _ _).mono ?_;rintro e u' w'' ⟨rfl,rfl,rfl⟩;have r0:=BK3.o.cl 0 0;exact⟨.int .i64 0,by simp[results,Tryz.results151,go_sem,r0],rfl,BK3.o.drop⟩
theorem pkGet_ok(Ad:Option Addr)(n c:Nat)(pk:List T.B)(k size:Nat)(w:World)(hr:RowRd w ⟨Ad,n,c⟩ pk)(hn:n<=1000000)(hz:T.getErr n (k:Int) (size:Int)=0):
  Calls Tryz.prog 98 #[.slice Ad n c,.int .i64 (k:Int),.int .i64 (size:Int)] w (Ret w (.tuple #[W64 (T.gets pk k size),.int .i64 0])):=by
 have hmf:=hmfT;have HR:=Hd hr;have HZ:=Hd hz;clear hr hz;have BK0:=bk3 w [.slice Ad n c] 23 [.int .i64 (k:Int)] 2 [.int .i64 (size:Int)] 3;go_enter Tryz.func98,Tryz.ntmps98;go_upto_region 1 with fail;generalize w.heap.size=X at *;refine wp_hid BK0 (fun w1 BK0=>?_);have a0:=BK0.o.cl 2 0;have b0:=BK0.o.cl 1 0;have c0:=BK0.o.cl 0 0;go_upto_region 2 with fail;refine wp_hid (Hd (BK0.o.bx [W64 0#64] 39)) (fun w2 BK1=>?_);generalize w1.heap.size=D at *;clear BK0;clear a0 b0 c0;have a0:=BK1.o.cl 3 0;have b0:=BK1.o.cl 2 0;have c0:=BK1.o.cl 1 0;have d0:=BK1.o.cl 0 0;go_wp2_with fail;refine(caughtGet_any X (X+1) (X+1+1) D (L':=[boxAcc D 39 [W64 (T.gets pk k size)],boxAcc (X+1+1) 3 [.int .i64 (size:Int)],boxAcc (X+1) 2 [.int .i64 (k:Int)],boxAcc X 23 [.slice Ad n c]]) BK1.o (fun w1 hb=>get1_ok X (X+1) (X+1+1) D Ad n c pk k size 1 4 3 2 hb HR.o hn HZ.o rfl rfl rfl rfl (by decide) (by decide) (by decide))).mono ?_;rintro e w3 ⟨rfl,hb⟩;have BKZ:=Hd hb;clear a0 b0 c0 d0;clear hb;have d0:=BKZ.o.cl 0 0;go_wp2;refine bodyPost_ret (v:=.tuple #[W64 (T.gets pk k size),.int .i64 0]) ?_ rfl ⟨rfl,BKZ.o.since⟩;simp[results,Tryz.results98,go_sem]
end Go.Proofs.YtfeipbgnjainlaaGreatDoor.K
namespace Go.Proofs.YtfeipbgnjainlaaGreatDoor.K
open Go Go.RowKit Go.Maps Go.Sort
structure BankK(K:List (Nat×Obj))(w0 w:World)(L:List Acc):Prop where
 bank:Bank w0 w L
 kept:∀k∈K,w.heap[k.1]?=some k.2
 off:∀k∈K,∀p∈L,p.v.ownBlock≠some k.1
theorem Bank.toK{w0 w:World}{L:List Acc}(h:Bank w0 w L):BankK [] w0 w L:=⟨h,fun _ h=>(by cases h),fun _ h=>(by cases h)⟩
namespace BankK
variable{K:List (Nat×Obj)}{w0 w w':World}{L M:List Acc}
theorem since(h:BankK K w0 w L):Since w0 w:=h.bank.since
theorem ltK(h:BankK K w0 w L):∀k∈K,k.1<w.heap.size:=fun k hk=>(Array.getElem?_eq_some_iff.1 (h.kept k hk)).1
theorem call(h:BankK K w0 w L)(hb:Below w.heap.size w w'):BankK K w0 w' L:=⟨h.bank.call hb,fun k hk=>(hb.block k.1 (h.ltK k hk)).trans (h.kept k hk),h.off⟩
theorem drew(h:BankK K w0 w L):BankK K w0 w.drew L:=⟨h.bank.drew,h.kept,h.off⟩
theorem drop{p:Acc}(h:BankK K w0 w (p::L)):BankK K w0 w L:=⟨h.bank.drop,h.kept,fun k hk q hq=>h.off k hk q (List.mem_cons_of_mem _ hq)⟩
theorem lt(h:BankK K w0 w L){p:Acc}(hp:p∈L){b:Nat}(hb:p.v.ownBlock=some b):w0.heap.size<=b/\b<w.heap.size:=h.bank.lt hp hb
theorem boxL(h:BankK K w0 w L)(l:List Value)(t:TypeId)(hs:l.length<=1000000):BankK K w0 (w.alloc (.cells l.toArray t)) (boxAcc w.heap.size t l::L) :=
 ⟨h.bank.boxL l t hs,fun k hk=>(heap_alloc_old w _ (h.ltK k hk)).trans (h.kept k hk),fun k hk p hp e=>by
  rcases List.mem_cons.1 hp with rfl|hp
  ·have h1:=h.ltK k hk
   have h2:w.heap.size=k.1:=Option.some.inj e;omega
  ·exact h.off k hk p hp e⟩
theorem join(h:BankK K w0 w L)(h2:Bank w w' M):BankK K w0 w' (M++L) :=
 ⟨bank_join h.bank h2,(h.call h2.since).kept,fun k hk p hp e=>by
  rcases List.mem_append.1 hp with hp|hp
  ·have h1:=(h2.lt hp e).1
   have h3:=h.ltK k hk;omega
  ·exact h.off k hk p hp e⟩
theorem cell(h:BankK K w0 w L)(i:Nat){g:Nat}{t:TypeId}{vs:List Value}(hi:L[i]?=some (boxAcc g t vs))(j:Nat){v:Value}(hv:vs[j]?=some v):w.cell? ⟨g,j,none⟩=some v:=h.bank.cell i hi j hv
theorem free(h:BankK K w0 w L)(i:Nat){g:Nat}{t:TypeId}{vs:List Value}(hi:L[i]?=some (boxAcc g t vs))(j:Nat):w.frozen? ⟨g,j,none⟩=false:=h.bank.free i hi j
theorem q2(h:BankK K w0 w L)(i:Nat){g:Nat}{t:TypeId}{v0 v1:Value}{vs:List Value}(hi:L[i]?=some (boxAcc g t (v0::v1::vs))):w.cell? ⟨g,0,Option.none⟩=some v0/\w.cell? ⟨g,1,Option.none⟩=some v1:=h.bank.q2 i hi
theorem q4(h:BankK K w0 w L)(i:Nat){g:Nat}{t:TypeId}{v0 v1 v2 v3:Value}{vs:List Value}(hi:L[i]?=some (boxAcc g t (v0::v1::v2::v3::vs))):w.cell? ⟨g,0,Option.none⟩=some v0/\w.cell? ⟨g,1,Option.none⟩=some v1/\w.cell? ⟨g,2,Option.none⟩=some v2/\w.cell? ⟨g,3,Option.none⟩=some v3:=h.bank.q4 i hi
theorem r1(h:BankK K w0 w L)(i:Nat){g:Nat}{t:TypeId}{v0:Value}{vs:List Value}(hi:L[i]?=some (boxAcc g t (v0::vs))):w.cell? ⟨g,0,Option.none⟩=some v0/\w.frozen? ⟨g,0,Option.none⟩=false:=h.bank.r1 i hi
theorem boxSet(h:BankK K w0 w L)(i:Nat){g:Nat}{t:TypeId}{vs:List Value}(hi:L[i]?=some (boxAcc g t vs))(j:Nat)(v:Value):BankK K w0 (w.setCell ⟨g,j,none⟩ v) (L.set i (boxAcc g t (vs.set j v))) :=
 ⟨h.bank.boxSet i hi j v,fun k hk=>by
  have hne:k.1≠g:=fun e=>h.off k hk _ (List.mem_of_getElem? hi) (by rw[e];rfl)
  have hg:=((h.bank.at i hi).stored j v).2;rw[hg.block k.1 (h.ltK k hk) (fun e=>hne (Option.some.inj e))];exact h.kept k hk,fun k hk p hp e=>by
  rcases List.mem_or_eq_of_mem_set hp with hp|rfl
  ·exact h.off k hk p hp e
  ·exact h.off k hk _ (List.mem_of_getElem? hi) e⟩
theorem turned{W W':World}{row:Option Nat}{B:Nat}(h:BankK K w0 W L)(hB:w0.heap.size<=B)(hKB:∀k∈K,k.1<B)(hg:W.grownBy W' row)(hr:∀r,row=some r->B<=r/\∃o:Obj,W.heap[r]?=some o/\o.isCells=false):BankK K w0 W' L :=
 ⟨h.bank.turned hB hg hr,fun k hk=>(hg.block k.1 (h.ltK k hk) (fun e=>by have:=(hr k.1 e.symm).1;have:=hKB k hk;omega)).trans (h.kept k hk),h.off⟩
theorem permB{L':List Acc}(h:BankK K w0 w L)(hp:L.Perm L'):BankK K w0 w L':=⟨h.bank.permB hp,h.kept,fun k hk p hm=>h.off k hk p (hp.mem_iff.2 hm)⟩
theorem sub{L':List Acc}(h:BankK K w0 w L)(hp:L'.Sublist L):BankK K w0 w L':=⟨h.bank.sub hp,h.kept,fun k hk p hm=>h.off k hk p (hp.mem hm)⟩
end BankK
theorem wp_hidK{P:Program}{c:Code}{Q:Exit->Act->World->Prop}{a:Act}{K:List (Nat×Obj)}{w0 w:World}{L:List Acc}(hB:RowKit.Hid (BankK K w0 w L))(h:∀w',RowKit.Hid (BankK K w0 w' L)->c.wp P Q a w'):c.wp P Q a w:=h w hB
theorem wp_bankK{K:List (Nat×Obj)}{P:Program}{c:Code}{Q:Exit->Act->World->Prop}{a:Act}{w w0:World}(L:List Acc)(hB:BankK K w0 w L)(h:∀w',BankK K w0 w' L->c.wp P Q a w'):c.wp P Q a w:=h w hB
end Go.Proofs.YtfeipbgnjainlaaGreatDoor.K
