/- TYt -/
import Derived.Test.YtfeipbgnjainlaaGreatDoorTp10
import Derived.Test.YtfeipbgnjainlaaGreatDoorTp2
import Derived.Test.YtfeipbgnjainlaaGreatDoorTp4
import Derived.Test.YtfeipbgnjainlaaGreatDoorTp40
import Derived.Test.YtfeipbgnjainlaaGreatDoorTp29
import Derived.Test.YtfeipbgnjainlaaGreatDoorTp20
import Derived.Test.YtfeipbgnjainlaaGreatDoorTp21
set_option linter.unusedVariables false
set_option linter.unusedSimpArgs false
set_option maxRecDepth 100000
set_option maxHeartbeats 8000000
namespace Go.Proofs.YtfeipbgnjainlaaGreatDoor.K
open Go Go.RowKit Go.Maps Go.Sort
section
variable{P:Program}{ops:Array Oper}{Q:Exit->Act->World->Prop}{md:Region.Mode}{j:Nat}{C D:World->Prop}{fuel:Nat}{listed:Array Bool}{a:Act}{w:World}
theorem TKs.u{i:Nat}{ts:List (Nat×List Nat)}{oi:Oper}(h:TKs ts P md ops Q j C D fuel (listed.setIfInBounds i true) (a.put oi.dst undef) w)
  (hi:ops[i]?=some oi:=by rfl) (hb:(Region.noSelect ops&&Region.free md ops listed i&&(Region.ready md ops listed).contains i&&decide (i≠j))=true:=by kernel_rfl) (hw:Region.wanted oi (yielded ops a.tmps)=false:=by kernel_rfl) (hQ:∀c a w,Q (.panic c) (a.put oi.dst undef) w->Q (.panic c) a w:=by exact fun _ _ _ h=>h) :
  TKs ((i,[])::ts) P md ops Q j C D (fuel+1) listed a w:=⟨fun hs=>WL.tp hi hb hQ hs (Or.inr ⟨hw,rfl⟩) h.o⟩
end
theorem right_form(x:PV)(w:World)(hx:T.Rightly x.p)(hr:x.p.live=true->PRd w x):∃(A:Option Addr) (a ca:Nat) (B:Option Addr) (m d:Nat),x.rv=.slice A a ca/\x.yv=.slice B m d/\∀w',Since w w'->Calls Tryz.prog 45 #[.agg #[.bool x.p.live,.slice A a ca,.slice B m d,.int .i64 x.p.least]] w' (Ret w' (.bool true)):=by
 by_cases hl:x.p.live=true
 ·refine⟨_,_,_,_,_,_,if_pos hl,if_pos hl,fun w' hs=>?_⟩
  rw[hl];exact tyRight_live x w' (hx.1 hl) ((hr hl).since hs)
 ·have hd:=hx.2 (by simpa using hl)
  refine⟨_,_,_,_,_,_,if_neg hl,if_neg hl,fun w' hs=>?_⟩;rw[hd];exact tyRight_dead w'
theorem tyH1_ok(lv:Bool)(A:Option Addr)(n c:Nat)(B:Option Addr)(m d:Nat)(e:Int)(w:World)(h:∀w',Since w w'->Calls Tryz.prog 45 #[.agg #[.bool lv,.slice A n c,.slice B m d,.int .i64 e]] w' (Ret w' (.bool true))):Calls Tryz.prog 44 #[.agg #[.bool lv,.slice A n c,.slice B m d,.int .i64 e]] w (Ret w (.bool false)):=by
 have HH:=Hd h;clear h;have BK0:=bk1 w [.bool lv,.slice A n c,.slice B m d,.int .i64 e] 87;go_enter Tryz.func44,Tryz.ntmps44;go_upto_region 1 with fail;generalize w.heap.size=X at *;refine wp_hid BK0 (fun w1 BK0=>?_);obtain⟨a0,a1,a2,a3⟩:=BK0.o.q4 0 rfl;go_wp2_with fail;refine(HH.o _ BK0.o.since).mono ?_;rintro e w2 ⟨rfl,hs⟩;have S:=Hd (BK0.o.since.add hs);clear hs;go_wp2;go_ret;exact⟨rfl,S.o⟩
theorem ixPl_none(P n c:Nat)(xs:List PV)(w:World)(hl:xs.length=n)(hn:n<=4096)(hr:RdC w P (pvsL xs))(hx:∀x∈xs,T.Rightly x.p)(hp:∀x∈xs,x.p.live=true->PRd w x):
  Calls Tryz.prog 84 #[.slice (some ⟨P,0,none⟩) n c,.func (.func 44) #[] #[]] w (Ret w (.int .i64 (-1))):=by
 have HL:=Hd hl;have HR:=Hd hr;have HX:=Hd (fun x hm=>right_form x w (hx x hm) (hp x hm));clear hl hr hx hp;go_enter Tryz.func84,Tryz.ntmps84;go_wp2_with fail;go_loopw [5,8] (fun v i wr=>∃j:Nat,j<=n/\i=.int .i64 (j:Int)/\Since w wr) (fun _ i _=>n-(intOf i).toNat)
 case atStart=>exact⟨0,Nat.zero_le _,rfl,Below.refl _ _⟩
 case round =>
  obtain⟨j,hj,rfl,hS⟩:=hrel;have HS:=Hd hS;clear hS;have j0:(0:Int)<=(j:Int):=by omega
  by_cases hlt:j<n
  ·have i1:(j:Int)<(n:Int):=by omega
   have hj':j<xs.length:=by rw[HL.o];exact hlt
   obtain⟨g0,g1,g2,g3⟩:=pvsL_get xs j hj';have c0:=HR.o.since HS.o _ _ g0;have c1:=HR.o.since HS.o _ _ g1;have c2:=HR.o.since HS.o _ _ g2;have c3:=HR.o.since HS.o _ _ g3;obtain⟨A,a,ca,B,m,d,e1,e2,hc⟩:=HX.o _ (List.getElem_mem hj');rw[e1]at c1;rw[e2]at c2;have HC:=Hd hc;clear e1 e2 hc g0 g1 g2 g3;generalize xs[j]=x at *;clear hj';go_wp2_with fail;refine(tyH1_ok _ _ _ _ _ _ _ _ _ (fun w' hs=>HC.o w' (HS.o.add hs))).mono ?_;rintro e w2 ⟨rfl,hs⟩;have HS2:=Hd (HS.o.add hs);clear hs c0 c1 c2 c3;go_wp2;go_round
   case rel=>exact⟨j+1,by omega,by go_num,HS2.o⟩
   case measure=>simp[intOf];omega
  ·have i1:¬(j:Int)<(n:Int):=by omega
   go_wp2;go_ret;exact⟨rfl,HS.o⟩
theorem cfPl_none(P n c:Nat)(xs:List PV)(w:World)(hl:xs.length=n)(hn:n<=4096)(hr:RdC w P (pvsL xs))(hx:∀x∈xs,T.Rightly x.p)(hp:∀x∈xs,x.p.live=true->PRd w x):
  Calls Tryz.prog 43 #[.slice (some ⟨P,0,none⟩) n c,.func (.func 44) #[] #[]] w (Ret w (.bool false)):=by
 have HR:=Hd (ixPl_none P n c xs w hl hn hr hx hp);clear hl hr hx hp;go_enter Tryz.func43,Tryz.ntmps43;go_wp2_with fail;refine HR.o.mono ?_;rintro e w2 ⟨rfl,hs⟩;have S:=Hd hs;clear hs;go_wp2;go_ret;exact⟨rfl,S.o⟩
def MidP(w:World)(F:Nat)(x:PV)(ah af:Option T.Pl)(s7 s8 s9:Value)(wx:World):Prop:=∃G H v1 v2 v3 v4 u1 u2 u3 u4 M1 M2,s7=.pointer (some ⟨G,0,none⟩)/\s8=.pointer (some ⟨H,0,none⟩)/\s9=.int .i64 0/\Bank w wx (boxAcc G 87 [v1,v2,v3,v4]::boxAcc H 87 [u1,u2,u3,u4]::boxAcc F 87 [.bool true,.slice (some ⟨x.gr,0,none⟩) 11 x.cr,.slice (some ⟨x.gb,0,none⟩) 512 x.cb,.int .i64 x.p.least]::(M1++M2))/\OptA M1 ah (.agg #[v1,v2,v3,v4])/\OptA M2 af (.agg #[u1,u2,u3,u4])
theorem plAt_map{xs:List PV}{j:Nat}(h:j<xs.length):T.plAt (xs.map PV.p) j=xs[j].p:=by
 unfold T.plAt;rw[List.getD_eq_getElem?_getD,List.getElem?_map,List.getElem?_eq_getElem h];rfl
theorem pl_cells{w:World}{P:Nat}{xs:List PV}(h:RdC w P (pvsL xs)){k:Nat}{x:PV}(hx:xs[k]?=some x)(hl:x.p.live=true):w.cell? ⟨P,k*4,none⟩=some (.bool true)/\w.cell? ⟨P,k*4+1,none⟩=some (.slice (some ⟨x.gr,0,none⟩) 11 x.cr)/\w.cell? ⟨P,k*4+2,none⟩=some (.slice (some ⟨x.gb,0,none⟩) 512 x.cb)/\w.cell? ⟨P,k*4+3,none⟩=some (.int .i64 x.p.least):=by
 obtain⟨hk,rfl⟩:=List.getElem?_eq_some_iff.1 hx;obtain⟨g0,g1,g2,g3⟩:=pvsL_get xs k hk;rw[hl]at g0;rw[PV.rv,if_pos hl]at g1;rw[PV.yv,if_pos hl]at g2;exact⟨h _ _ g0,h _ _ g1,h _ _ g2,h _ _ g3⟩
theorem pl_dead{w:World}{P:Nat}{xs:List PV}(h:RdC w P (pvsL xs)){k:Nat}{x:PV}(hx:xs[k]?=some x)(hl:x.p.live=false):∃e,w.cell? ⟨P,k*4,none⟩=some (.bool false)/\w.cell? ⟨P,k*4+1,none⟩=some (.slice none 0 0)/\w.cell? ⟨P,k*4+2,none⟩=some (.slice none 0 0)/\w.cell? ⟨P,k*4+3,none⟩=some (.int .i64 e):=by
 obtain⟨hk,rfl⟩:=List.getElem?_eq_some_iff.1 hx;obtain⟨g0,g1,g2,g3⟩:=pvsL_get xs k hk;rw[hl]at g0;rw[PV.rv,if_neg (by rw[hl];simp)]at g1;rw[PV.yv,if_neg (by rw[hl];simp)]at g2;exact⟨_,h _ _ g0,h _ _ g1,h _ _ g2,h _ _ g3⟩
theorem live_tells{xs:List PV}{k:Nat}{q:T.Pl}(h:T.Tells (xs.map PV.p) k q):∃x,xs[k]?=some x/\x∈xs/\x.p.live=true/\q.Wf/\x.p.Wf/\q.In x.p:=by
 have hk:k<xs.length:=by have:=h.lt;rwa [List.length_map]at this
 have e:=plAt_map hk;have hw:=h.at';have hi:=h.sub;rw[e]at hw hi;exact⟨_,List.getElem?_eq_getElem hk,List.getElem_mem hk,hw.live,h.wf,hw,hi⟩
theorem h12{a b c d e f g h i j k l:Prop}(x:a/\b/\c/\d/\e/\f/\g/\h)(y:i/\j/\k/\l):a/\b/\c/\d/\e/\f/\g/\h/\i/\j/\k/\l:=⟨x.1,x.2.1,x.2.2.1,x.2.2.2.1,x.2.2.2.2.1,x.2.2.2.2.2.1,x.2.2.2.2.2.2.1,x.2.2.2.2.2.2.2,y⟩
theorem ap4{a b c d:Prop}{Z:Prop}(x:a/\b/\c/\d)(z:Z):a/\b/\c/\d/\Z:=⟨x.1,x.2.1,x.2.2.1,x.2.2.2,z⟩
theorem tyHolds_ok(b o n c:Nat)(l:List T.Ins)(P cp:Nat)(xs:List PV)(w:World)(hrd:InsRd w b o l)(hl:l.length=n)(hxl:xs.length=n)(hn:n<=4096)(hsf:(T.shapeF l).1=0)(hsh:T.Shaped l)(hty:T.Typed l (xs.map PV.p))(hri:∀x∈xs,T.Rightly x.p)(hpl:RdC w P (pvsL xs))(hpr:∀x∈xs,x.p.live=true->PRd w x):
  Calls Tryz.prog 19 #[.slice (some ⟨b,o,none⟩) n c,.slice (some ⟨P,0,none⟩) n cp] w (Ret w (.bool true)):=by
 have HRD:=Hd hrd;have HPL:=Hd hpl;have HPR:=Hd hpr;have HCF:=Hd (fun w' (hs:Since w w')=>cfPl_none P n cp xs w' hxl hn (hpl.since hs) hri (fun x hm h=>(hpr x hm h).since hs))
 have HSC:=Hd (show ∀w',Since w w'->Calls Tryz.prog 20 #[.slice (some ⟨b,o,none⟩) n c] w' (Ret w' (.agg #[.int .i64 0,.int .i64 ((T.shapeF l).2:Int)]))from fun w' hs=>by
  have h:=shapeCheck_any b o c n l w' (hrd.since hs) hl hn;unfold shapeV at h;rw[hsf]at h
  exact h)
 have HW:=Hd (show ∀(z x:PV) w',z.p.Wf->x.p.Wf->PRd w' z->PRd w' x->z.p.In x.p->Calls Tryz.prog 41 #[.agg #[.bool true,.slice (some ⟨z.gr,0,none⟩) 11 z.cr,.slice (some ⟨z.gb,0,none⟩) 512 z.cb,.int .i64 z.p.least],.agg #[.bool true,.slice (some ⟨x.gr,0,none⟩) 11 x.cr,.slice (some ⟨x.gb,0,none⟩) 512 x.cb,.int .i64 x.p.least]] w' (Ret w' (.bool true))from fun z x w' h1 h2 h3 h4 h5=>tyWithin_ok z x w' h1 h2 h3 h4 h5);have HSTEP:=Hd (show ∀(j:Nat) (i:T.Ins) (x:PV) (ah af:Option T.Pl),l[j]?=some i->x∈xs->x.p.Wf->T.cstep i x.p=(0,ah,af)->∀w',Since w w'->Calls Tryz.prog 46 #[.agg #[.int .u8 i.op,.bool i.narrow,.int .i64 i.dst,.int .i64 i.src,.bool i.useImm,.int .i64 i.off,.int .i64 i.imm,.int .i64 i.size],.agg #[.bool true,.slice (some ⟨x.gr,0,none⟩) 11 x.cr,.slice (some ⟨x.gb,0,none⟩) 512 x.cb,.int .i64 x.p.least]] w' (StepT w' ah af)from fun j i x ah af hi hm hw hc w' hs=>tyStep_ok i x w' hw ((hpr x hm hw.live).since hs) (hsh.right i (List.mem_of_getElem? hi)) hc)
 have HTY:=Hd (show ∀(j:Nat) (i:T.Ins) (x:PV),l[j]?=some i->xs[j]?=some x->x.p.live=true->∃ah af,T.cstep i x.p=(0,ah,af)/\(∀q,ah=some q->T.Tells (xs.map PV.p) (j+1) q)/\(∀q,af=some q->0<=i.off/\T.Tells (xs.map PV.p) (j+1+i.off.toNat) q)from fun j i x hi hx hlv=>by
  obtain⟨hj,rfl⟩:=List.getElem?_eq_some_iff.1 hx;have h:=T.holds_step hsh hty hi (by rw[plAt_map hj];exact hlv);rw[plAt_map hj]at h
  exact h)
 have HL:=Hd (⟨hl,hxl⟩:l.length=n/\xs.length=n);have HRI:=Hd hri;obtain⟨x0,hx0,hm0,hlv0,_,hwf0,hin0⟩:=live_tells (T.holds_first hty);have HX0:=Hd (⟨hm0,hlv0,hwf0,hin0⟩:x0∈xs/\x0.p.live=true/\x0.p.Wf/\T.Pl.start.In x0.p)
 have HC0:=Hd (show ∀w',Since w w'->w'.cell? ⟨P,0,none⟩=some (.bool true)/\w'.cell? ⟨P,1,none⟩=some (.slice (some ⟨x0.gr,0,none⟩) 11 x0.cr)/\w'.cell? ⟨P,2,none⟩=some (.slice (some ⟨x0.gb,0,none⟩) 512 x0.cb)/\w'.cell? ⟨P,3,none⟩=some (.int .i64 x0.p.least)from fun w' hs=>by
  have h:=pl_cells (hpl.since hs) hx0 hlv0
  simpa only[Nat.zero_mul,Nat.zero_add]using h)
 have n0:0<n:=by have:=(List.getElem?_eq_some_iff.1 hx0).1;omega
 clear hrd hl hxl hsf hsh hty hri hpl hpr hx0 hm0 hlv0 hwf0 hin0;have BK:RowKit.Hid (Bank w w []):=Hd (Bank.nil (Below.refl w.heap.size w));go_enter Tryz.func19,Tryz.ntmps19;go_upto_region 1 with fail;have BK:=Hd BK.o.drew;refine WL.begin 99 (fun _=>True) (fun w'=>w'.cell? ⟨P,0,none⟩=some (.bool true)/\w'.cell? ⟨P,1,none⟩=some (.slice (some ⟨x0.gr,0,none⟩) 11 x0.cr)/\w'.cell? ⟨P,2,none⟩=some (.slice (some ⟨x0.gb,0,none⟩) 512 x0.cb)/\w'.cell? ⟨P,3,none⟩=some (.int .i64 x0.p.least)) (by kernel_rfl) trivial (HC0.o _ BK.o.since) (fun hs=>?_);generalize w.drew=wz at *;refine WL.tk [(0,[])] hs ?_;clear hs
 iterate 1
  (first|refine WLp ?_ ?_ ?_|refine WLl ?_ ?_ ?_);rotate_left
  ·intro w hc;go_simp<;>rfl
  simp only[Act.put,sA,sZ,sS,List.getElem_toArray,List.getElem_cons_succ,List.getElem_cons_zero]
 refine TKs.mk ?_;intro hs;refine WLo 1 hs ?_;clear hs;intro K hK;go_simp;refine(HSC.o _ BK.o.since).mono ?_;rintro e wz ⟨rfl,hs⟩;have BK:=Hd (BK.o.call hs);clear hs;refine hK.o _ _ (SaT (HC0.o _ BK.o.since)) ?_;clear hK K;intro hs;try simp only[Act.put,sA,sZ,sS,List.getElem_toArray,List.getElem_cons_succ,List.getElem_cons_zero]
 refine WL.tk [(2,[]),(3,[]),(4,[]),(5,[]),(6,[]),(7,[]),(8,[]),(9,[]),(10,[]),(11,[]),(13,[]),(14,[]),(15,[])] hs ?_;clear hs
 iterate 13
  (first|refine WLp ?_ ?_ ?_|refine WLl ?_ ?_ ?_);rotate_left
  ·intro w hc;go_simp<;>rfl
  simp only[Act.put,sA,sZ,sS,List.getElem_toArray,List.getElem_cons_succ,List.getElem_cons_zero]
 refine TKs.mk ?_;intro hs;refine WLo 12 hs ?_;clear hs;intro K hK;go_simp;refine(tyFirst_ok _).mono ?_;rintro e wz ⟨z,hz,rfl,hb⟩;have BK:=Hd (bank_tail BK.o hb);have HZ:=Hd hz;clear hb hz;unfold PlV;refine hK.o _ _ (SaT (HC0.o _ BK.o.since)) ?_;clear hK K;intro hs;try simp only[Act.put,sA,sZ,sS,List.getElem_toArray,List.getElem_cons_succ,List.getElem_cons_zero]
 refine WLo 16 hs ?_;clear hs;intro K hK;go_simp;refine(HW.o z x0 _ (by rw[HZ.o];exact T.Pl.start_wf) HX0.o.2.2.1 (prd_of BK.o (by simp) (by simp)) ((HPR.o x0 HX0.o.1 HX0.o.2.1).since BK.o.since) (by rw[HZ.o];exact HX0.o.2.2.2)).mono ?_;rintro e wz ⟨rfl,hs⟩;have BK:=Hd (BK.o.call hs);clear hs;refine hK.o _ _ (SaT (HC0.o _ BK.o.since)) ?_;clear hK K;intro hs;try simp only[Act.put,sA,sZ,sS,List.getElem_toArray,List.getElem_cons_succ,List.getElem_cons_zero]
 refine WL.tk [(17,[]),(18,[])] hs ?_;clear hs
 iterate 2
  (first|refine WLp ?_ ?_ ?_|refine WLl ?_ ?_ ?_);rotate_left
  ·intro w hc;go_simp<;>rfl
  simp only[Act.put,sA,sZ,sS,List.getElem_toArray,List.getElem_cons_succ,List.getElem_cons_zero]
 refine TKs.mk ?_;intro hs;clear hs;refine WLd ?_ _;try simp only[Exit.then]
 clear HSC HX0 HC0;go_upto_region 3 with fail;have BK:RowKit.Hid (Bank w _ []):=Hd (BK.o.sub (List.nil_sublist _));go_wp2_with fail;refine(HCF.o _ BK.o.since).mono ?_;rintro e wq ⟨rfl,hs⟩;have BK:=Hd (BK.o.call hs);clear hs HCF HZ;go_wp2_with fail;go_loopw [33] (fun i wr=>∃j:Nat,j<=n/\i=.int .i64 (j:Int)/\Bank w wr []) (fun i _=>n-(intOf i).toNat)
 case atStart=>exact⟨0,Nat.zero_le _,rfl,BK.o⟩
 case round =>
  clear BK;obtain⟨j,hj,rfl,hB⟩:=hrel;have BK:=Hd hB;clear hB;have j0:(0:Int)<=(j:Int):=by omega
  by_cases hlt:j<n
  case neg =>
   have i1:¬(j:Int)<(n:Int):=by omega
   go_wp2;go_ret;exact⟨rfl,BK.o.since⟩
  have i1:(j:Int)<(n:Int):=by omega
  obtain⟨x,hx⟩:∃x,xs[j]?=some x:=⟨_,List.getElem?_eq_getElem (by rw[HL.o.2];exact hlt)⟩
  obtain⟨i,hi⟩:∃i,l[j]?=some i:=⟨_,List.getElem?_eq_getElem (by rw[HL.o.1];exact hlt)⟩
  have HX:=Hd hx;have HI:=Hd hi;clear hx hi;by_cases hlv:x.p.live=true
  case neg =>
   obtain⟨e,c0,c1,c2,c3⟩:=pl_dead (HPL.o.since BK.o.since) HX.o (by simpa using hlv);have kw:IntKind.i64.wrap ((j:Int)+1)=((j+1:Nat):Int):=by rw[IntWalk.i64_in _ (by omega)];omega
   go_wp2;go_round
   case rel=>exact⟨j+1,by omega,by first|rfl|go_num,(BK.o.bx [.bool false,.slice none 0 0,.slice none 0 0,.int .i64 e] 87).sub (List.nil_sublist _)⟩
   case measure=>simp[intOf];omega
  obtain⟨ah,af,hc,hta,htf⟩:=HTY.o j i x HI.o HX.o hlv;have HMX:=Hd (List.mem_of_getElem? HX.o);have HWF:=Hd ((HRI.o x HMX.o).1 hlv);have HST:=Hd (HSTEP.o j i x ah af HI.o HMX.o HWF.o hc);have HTA:=Hd hta;have HTF:=Hd htf;obtain⟨c0,c1,c2,c3⟩:=pl_cells (HPL.o.since BK.o.since) HX.o hlv;clear hlv hc hta htf;go_upto_region 9 with fail;refine wp_hid (Hd (BK.o.bx [.bool true,.slice (some ⟨x.gr,0,none⟩) 11 x.cr,.slice (some ⟨x.gb,0,none⟩) 512 x.cb,.int .i64 x.p.least] 87)) (fun wa BK=>?_);generalize wr.heap.size=F at *;clear c0 c1 c2 c3;go_cut [7,8,9] (MidP w F x ah af)
  case first =>
   have BK:=Hd BK.o.drew;refine WL.begin 99 (fun _=>True) (fun w'=>w'.cell? ⟨b,o+j*8,none⟩=some (.int .u8 i.op)/\w'.cell? ⟨b,o+j*8+1,none⟩=some (.bool i.narrow)/\w'.cell? ⟨b,o+j*8+2,none⟩=some (.int .i64 i.dst)/\w'.cell? ⟨b,o+j*8+3,none⟩=some (.int .i64 i.src)/\w'.cell? ⟨b,o+j*8+4,none⟩=some (.bool i.useImm)/\w'.cell? ⟨b,o+j*8+5,none⟩=some (.int .i64 i.off)/\w'.cell? ⟨b,o+j*8+6,none⟩=some (.int .i64 i.imm)/\w'.cell? ⟨b,o+j*8+7,none⟩=some (.int .i64 i.size)/\w'.cell? ⟨F,0,none⟩=some (.bool true)/\w'.cell? ⟨F,1,none⟩=some (.slice (some ⟨x.gr,0,none⟩) 11 x.cr)/\w'.cell? ⟨F,2,none⟩=some (.slice (some ⟨x.gb,0,none⟩) 512 x.cb)/\w'.cell? ⟨F,3,none⟩=some (.int .i64 x.p.least)) (by kernel_rfl) trivial (by first|exact h12 ((HRD.o.since BK.o.since).cells HI.o) (BK.o.q4 0 rfl)|fail) (fun hs=>?_);generalize wa.drew=wz at *
   repeat' first
    | (with_reducible refine StepL.at 5 ?_
       intro K hK;go_simp;refine(HST.o _ BK.o.since).mono ?_;rintro e wz ⟨v1,v2,M1,M2,rfl,hb,hv1,hv2⟩;have BK:=Hd (bank_tail BK.o hb);clear hb;obtain⟨lv1,A1,n1,c1,B1,m1,d1,l1,rfl,hl1⟩:=optA_form hv1;obtain⟨lv2,A2,n2,c2,B2,m2,d2,l2,rfl,hl2⟩:=optA_form hv2;have HV1:=Hd hv1;have HV2:=Hd hv2;clear hl1 hl2 hv1 hv2;refine hK.o _ _ (SaT (by first|exact h12 ((HRD.o.since BK.o.since).cells HI.o) (BK.o.q4 0 rfl)|exact h12 ((HRD.o.since BK.o.since).cells HI.o) (BK.o.q4 1 rfl)|exact h12 ((HRD.o.since BK.o.since).cells HI.o) (BK.o.q4 2 rfl)|fail)) ?_
       clear hK K;intro hs;try simp only[Act.put,sA,sZ,sS,List.getElem_toArray,List.getElem_cons_succ,List.getElem_cons_zero])
    | (with_reducible refine StepL.at 10 ?_
       intro K hK;go_simp;have BK:=Hd (BK.o.bx [.bool false,.slice none 0 0,.slice none 0 0,.int .i64 0] 87);refine hK.o _ _ (SaT (by first|exact h12 ((HRD.o.since BK.o.since).cells HI.o) (BK.o.q4 1 rfl)|exact h12 ((HRD.o.since BK.o.since).cells HI.o) (BK.o.q4 2 rfl)|fail)) ?_;generalize wz.heap.size=G at *;generalize(wz.alloc (.cells #[.bool false,.slice none 0 0,.slice none 0 0,.int .i64 0] 87))=wz at *
       clear hK K;intro hs;try simp only[Act.put,sA,sZ,sS,List.getElem_toArray,List.getElem_cons_succ,List.getElem_cons_zero])
    | (with_reducible refine StepL.at 11 ?_
       intro K hK;go_simp;have BK:=Hd (BK.o.bx [.bool false,.slice none 0 0,.slice none 0 0,.int .i64 0] 87);refine hK.o _ _ (SaT (by first|exact h12 ((HRD.o.since BK.o.since).cells HI.o) (BK.o.q4 1 rfl)|exact h12 ((HRD.o.since BK.o.since).cells HI.o) (BK.o.q4 2 rfl)|fail)) ?_;generalize wz.heap.size=H at *;generalize(wz.alloc (.cells #[.bool false,.slice none 0 0,.slice none 0 0,.int .i64 0] 87))=wz at *
       clear hK K;intro hs;try simp only[Act.put,sA,sZ,sS,List.getElem_toArray,List.getElem_cons_succ,List.getElem_cons_zero])
    | (with_reducible refine StepL.at 12 ?_
       intro K hK;have BK:RowKit.Hid (Bank w wz (boxAcc G 87 [.bool false,.slice none 0 0,.slice none 0 0,.int .i64 0]::boxAcc H 87 [.bool false,.slice none 0 0,.slice none 0 0,.int .i64 0]::boxAcc F 87 [.bool true,.slice (some ⟨x.gr,0,none⟩) 11 x.cr,.slice (some ⟨x.gb,0,none⟩) 512 x.cb,.int .i64 x.p.least]::(M1++M2))):=by first|exact BK|exact Hd (BK.o.permB (List.Perm.swap _ _ _))
       have hb4:=BK.o.r4 0 rfl;have b0:=hb4.1;have b1:=hb4.2.1;have b2:=hb4.2.2.1;have b3:=hb4.2.2.2.1;have fb0:=hb4.2.2.2.2.1;have fb1:=hb4.2.2.2.2.2.1;have fb2:=hb4.2.2.2.2.2.2.1;have fb3:=hb4.2.2.2.2.2.2.2;clear hb4;go_simp;have BK:=Hd ((((BK.o.bs 0 0 (.bool lv1)).bs 0 1 (.slice A1 n1 c1)).bs 0 2 (.slice B1 m1 d1)).bs 0 3 (.int .i64 l1));clear b0 b1 b2 b3 fb0 fb1 fb2 fb3;refine hK.o _ _ (SaT (by first|exact h12 ((HRD.o.since BK.o.since).cells HI.o) (BK.o.q4 2 rfl)|fail)) ?_
       clear hK K;intro hs;try simp only[Act.put])
    | (with_reducible refine StepL.at 13 ?_
       intro K hK;have hb4:=BK.o.r4 1 rfl;have b0:=hb4.1;have b1:=hb4.2.1;have b2:=hb4.2.2.1;have b3:=hb4.2.2.2.1;have fb0:=hb4.2.2.2.2.1;have fb1:=hb4.2.2.2.2.2.1;have fb2:=hb4.2.2.2.2.2.2.1;have fb3:=hb4.2.2.2.2.2.2.2;clear hb4;go_simp;have BK:=Hd ((((BK.o.bs 1 0 (.bool lv2)).bs 1 1 (.slice A2 n2 c2)).bs 1 2 (.slice B2 m2 d2)).bs 1 3 (.int .i64 l2));clear b0 b1 b2 b3 fb0 fb1 fb2 fb3;refine hK.o _ _ (SaT (by first|exact h12 ((HRD.o.since BK.o.since).cells HI.o) (BK.o.q4 2 rfl)|fail)) ?_
       clear hK K;intro hs;try simp only[Act.put])
    | (with_reducible refine StepL.at 14 ?_
       intro K hK;go_simp;refine hK.o _ _ (SaT (by first|exact h12 ((HRD.o.since BK.o.since).cells HI.o) (BK.o.q4 2 rfl)|fail)) ?_
       clear hK K;intro hs;try simp only[Act.put,sA,sZ,sS,List.getElem_toArray,List.getElem_cons_succ,List.getElem_cons_zero])
    | (refine WL.tp (i:=0) (v:=?_) rfl (by decide +kernel) (fun _ _ _ h=>h) hs (Or.inl ⟨by kernel_rfl,?_⟩) ?_;rotate_left;· intro w hc;go_simp<;>rfl
       clear hs;intro hs;simp only[Act.put,sA,sZ,sS,List.getElem_toArray,List.getElem_cons_succ,List.getElem_cons_zero])
    | (refine WL.tp (i:=1) (v:=?_) rfl (by decide +kernel) (fun _ _ _ h=>h) hs (Or.inl ⟨by kernel_rfl,?_⟩) ?_;rotate_left;· intro w hc;go_simp<;>rfl
       clear hs;intro hs;simp only[Act.put,sA,sZ,sS,List.getElem_toArray,List.getElem_cons_succ,List.getElem_cons_zero])
    | (refine WL.tp (i:=2) (v:=?_) rfl (by decide +kernel) (fun _ _ _ h=>h) hs (Or.inl ⟨by kernel_rfl,?_⟩) ?_;rotate_left;· intro w hc;go_simp<;>rfl
       clear hs;intro hs;simp only[Act.put,sA,sZ,sS,List.getElem_toArray,List.getElem_cons_succ,List.getElem_cons_zero])
    | (refine WL.tp (i:=3) (v:=?_) rfl (by decide +kernel) (fun _ _ _ h=>h) hs (Or.inl ⟨by kernel_rfl,?_⟩) ?_;rotate_left;· intro w hc;go_simp<;>rfl
       clear hs;intro hs;simp only[Act.put,sA,sZ,sS,List.getElem_toArray,List.getElem_cons_succ,List.getElem_cons_zero])
    | (refine WL.tp (i:=4) (v:=?_) rfl (by decide +kernel) (fun _ _ _ h=>h) hs (Or.inl ⟨by kernel_rfl,?_⟩) ?_;rotate_left;· intro w hc;go_simp<;>rfl
       clear hs;intro hs;simp only[Act.put,sA,sZ,sS,List.getElem_toArray,List.getElem_cons_succ,List.getElem_cons_zero])
    | (refine WL.tp (i:=6) (v:=?_) rfl (by decide +kernel) (fun _ _ _ h=>h) hs (Or.inl ⟨by kernel_rfl,?_⟩) ?_;rotate_left;· intro w hc;go_simp<;>rfl
       clear hs;intro hs;simp only[Act.put,sA,sZ,sS,List.getElem_toArray,List.getElem_cons_succ,List.getElem_cons_zero])
    | (refine WL.tp (i:=7) (v:=?_) rfl (by decide +kernel) (fun _ _ _ h=>h) hs (Or.inl ⟨by kernel_rfl,?_⟩) ?_;rotate_left;· intro w hc;go_simp<;>rfl
       clear hs;intro hs;simp only[Act.put,sA,sZ,sS,List.getElem_toArray,List.getElem_cons_succ,List.getElem_cons_zero])
    | (refine WL.tp (i:=8) (v:=?_) rfl (by decide +kernel) (fun _ _ _ h=>h) hs (Or.inl ⟨by kernel_rfl,?_⟩) ?_;rotate_left;· intro w hc;go_simp<;>rfl
       clear hs;intro hs;simp only[Act.put,sA,sZ,sS,List.getElem_toArray,List.getElem_cons_succ,List.getElem_cons_zero])
    | (refine WL.tp (i:=9) (v:=?_) rfl (by decide +kernel) (fun _ _ _ h=>h) hs (Or.inl ⟨by kernel_rfl,?_⟩) ?_;rotate_left;· intro w hc;go_simp<;>rfl
       clear hs;intro hs;simp only[Act.put,sA,sZ,sS,List.getElem_toArray,List.getElem_cons_succ,List.getElem_cons_zero])
    | (refine WL.s1 (i:=5) (by decide +kernel) rfl hs ?_<;>clear hs)
    | (refine WL.o2 (i:=5) (j:=10) (by decide +kernel) rfl rfl hs ?_ ?_<;>clear hs)
    | (refine WL.o3 (i:=5) (j:=10) (k:=11) (by decide +kernel) rfl rfl rfl hs ?_ ?_ ?_<;>clear hs)
    | (refine WL.o2 (i:=5) (j:=11) (by decide +kernel) rfl rfl hs ?_ ?_<;>clear hs)
    | (refine WL.s1 (i:=10) (by decide +kernel) rfl hs ?_<;>clear hs)
    | (refine WL.o2 (i:=10) (j:=11) (by decide +kernel) rfl rfl hs ?_ ?_<;>clear hs)
    | (refine WL.s1 (i:=11) (by decide +kernel) rfl hs ?_<;>clear hs)
    | (refine WL.s1 (i:=12) (by decide +kernel) rfl hs ?_<;>clear hs)
    | (refine WL.s1 (i:=13) (by decide +kernel) rfl hs ?_<;>clear hs)
    | (refine WL.s1 (i:=14) (by decide +kernel) rfl hs ?_<;>clear hs)
    | (clear hs;refine WL.done (by decide +kernel) ?_ _;try simp only[Exit.then]
       go_wp2_with fail;go_meet
       exact⟨_,_,_,_,_,_,_,_,_,_,M1,M2,rfl,rfl,rfl,BK.o,HV1.o,HV2.o⟩)
  case rest =>
   obtain⟨G,H,v1,v2,v3,v4,u1,u2,u3,u4,M1,M2,rfl,rfl,rfl,hB,ha,hf⟩:=hcut;have BK:=Hd hB;clear hB HST;obtain⟨k,hk⟩:∃k,k=j+1:=⟨_,rfl⟩
   have kw:IntKind.i64.wrap ((j:Int)+1)=(k:Int):=by rw[IntWalk.i64_in _ (by omega)];omega
   have k0:(0:Int)<=(k:Int):=by omega
   have HK:=Hd hk;rw[<-hk]at HTA HTF;clear hk;rcases ha with⟨ha,ev,rfl⟩|⟨z,ha,ev,rfl⟩
   ·unfold deadV at ev
    simp only[Value.agg.injEq,Array.mk.injEq,List.cons.injEq,and_true]at ev;obtain⟨rfl,rfl,rfl,rfl⟩:=ev;rcases hf with⟨hf,ev,rfl⟩|⟨y,hf,ev,rfl⟩
    ·unfold deadV at ev
     simp only[Value.agg.injEq,Array.mk.injEq,List.cons.injEq,and_true]at ev;obtain⟨rfl,rfl,rfl,rfl⟩:=ev;clear ha hf HTA HTF;go_upto_region 10 with fail;have BK:=Hd BK.o.drew;refine WL.begin 99 (fun _=>True) (fun w'=>w'.cell? ⟨G,0,none⟩=some (.bool false)/\w'.cell? ⟨G,1,none⟩=some (.slice none 0 0)/\w'.cell? ⟨G,2,none⟩=some (.slice none 0 0)/\w'.cell? ⟨G,3,none⟩=some (.int .i64 0)/\w'.cell? ⟨H,0,none⟩=some (.bool false)/\w'.cell? ⟨H,1,none⟩=some (.slice none 0 0)/\w'.cell? ⟨H,2,none⟩=some (.slice none 0 0)/\w'.cell? ⟨H,3,none⟩=some (.int .i64 0)) (by kernel_rfl) trivial (ap4 (BK.o.q4 0 rfl) (BK.o.q4 1 rfl)) (fun hs=>?_);generalize wc.drew=wz at *;refine WL.tk [(0,[]),(1,[]),(2,[]),(3,[]),(4,[]),(5,[])] hs ?_;clear hs
     iterate 6
      (first|refine WLp ?_ ?_ ?_|refine WLl ?_ ?_ ?_);rotate_left
      ·intro w hc;go_simp<;>rfl
      simp only[Act.put,sA,sZ,sS,List.getElem_toArray,List.getElem_cons_succ,List.getElem_cons_zero]
     refine TKs.mk ?_;intro hs;refine WL.tk [(6,[]),(7,[]),(8,[]),(9,[]),(10,[]),(11,[]),(12,[]),(13,[])] hs ?_;clear hs
     iterate 8(refine TKs.u ?_;simp only[Act.put,sA,sZ,sS,List.getElem_toArray,List.getElem_cons_succ,List.getElem_cons_zero])
     refine TKs.mk ?_;intro hs;refine WL.tk [(14,[]),(15,[]),(16,[]),(17,[]),(18,[]),(19,[])] hs ?_;clear hs
     iterate 6
      (first|refine WLp ?_ ?_ ?_|refine WLl ?_ ?_ ?_);rotate_left
      ·intro w hc;go_simp<;>rfl
      simp only[Act.put,sA,sZ,sS,List.getElem_toArray,List.getElem_cons_succ,List.getElem_cons_zero]
     refine TKs.mk ?_;intro hs;refine WL.tk [(20,[]),(21,[]),(22,[]),(23,[]),(24,[]),(25,[]),(26,[]),(27,[]),(28,[]),(29,[]),(30,[]),(31,[]),(32,[]),(33,[])] hs ?_;clear hs
     iterate 14(refine TKs.u ?_;simp only[Act.put,sA,sZ,sS,List.getElem_toArray,List.getElem_cons_succ,List.getElem_cons_zero])
     refine TKs.mk ?_;intro hs;refine WL.tk [(34,[]),(35,[])] hs ?_;clear hs
     iterate 2
      (first|refine WLp ?_ ?_ ?_|refine WLl ?_ ?_ ?_);rotate_left
      ·intro w hc;go_simp<;>rfl
      simp only[Act.put,sA,sZ,sS,List.getElem_toArray,List.getElem_cons_succ,List.getElem_cons_zero]
     refine TKs.mk ?_;intro hs;clear hs;refine WLd ?_ _;try simp only[Exit.then]
     go_wp2;go_round
     case rel=>exact⟨j+1,by omega,by rw[<-HK.o],BK.o.sub (List.nil_sublist _)⟩
     case measure=>simp[intOf];have:=HK.o;omega
    ·unfold PlV at ev
     simp only[Value.agg.injEq,Array.mk.injEq,List.cons.injEq,and_true]at ev;obtain⟨rfl,rfl,rfl,rfl⟩:=ev;obtain⟨ho0,htl⟩:=HTF.o _ hf;obtain⟨t,ht⟩:∃t,t=k+i.off.toNat:=⟨_,rfl⟩
     rw[<-ht]at htl;have htn:t<n:=by have:=htl.lt;rw[List.length_map,HL.o.2]at this;exact this
     have kt:IntKind.i64.wrap ((k:Int)+i.off)=(t:Int):=by rw[IntWalk.i64_in _ (by omega)];omega
     have t0:(0:Int)<=(t:Int):=by omega
     have t1:(t:Int)<(n:Int):=by omega
     obtain⟨x2,hn2⟩:=live_tells htl;have HN2:=Hd hn2;clear ha hf HTA HTF ho0 htl ht htn hn2;go_upto_region 10 with fail;have BK:=Hd BK.o.drew;refine WL.begin 99 (fun _=>True) (fun w'=>w'.cell? ⟨G,0,none⟩=some (.bool false)/\w'.cell? ⟨G,1,none⟩=some (.slice none 0 0)/\w'.cell? ⟨G,2,none⟩=some (.slice none 0 0)/\w'.cell? ⟨G,3,none⟩=some (.int .i64 0)/\w'.cell? ⟨H,0,none⟩=some (.bool true)/\w'.cell? ⟨H,1,none⟩=some (.slice (some ⟨y.gr,0,none⟩) 11 y.cr)/\w'.cell? ⟨H,2,none⟩=some (.slice (some ⟨y.gb,0,none⟩) 512 y.cb)/\w'.cell? ⟨H,3,none⟩=some (.int .i64 y.p.least)/\w'.cell? ⟨P,t*4,none⟩=some (.bool true)/\w'.cell? ⟨P,t*4+1,none⟩=some (.slice (some ⟨x2.gr,0,none⟩) 11 x2.cr)/\w'.cell? ⟨P,t*4+2,none⟩=some (.slice (some ⟨x2.gb,0,none⟩) 512 x2.cb)/\w'.cell? ⟨P,t*4+3,none⟩=some (.int .i64 x2.p.least)/\w'.cell? ⟨b,o+j*8+5,none⟩=some (.int .i64 i.off)) (by kernel_rfl) trivial (ap4 (BK.o.q4 0 rfl) (ap4 (BK.o.q4 1 rfl) (ap4 (pl_cells (HPL.o.since BK.o.since) HN2.o.1 HN2.o.2.2.1) ((HRD.o.since BK.o.since).cells HI.o).2.2.2.2.2.1))) (fun hs=>?_);generalize wc.drew=wz at *;refine WL.tk [(0,[]),(1,[]),(2,[]),(3,[]),(4,[]),(5,[])] hs ?_;clear hs
     iterate 6
      (first|refine WLp ?_ ?_ ?_|refine WLl ?_ ?_ ?_);rotate_left
      ·intro w hc;go_simp<;>rfl
      simp only[Act.put,sA,sZ,sS,List.getElem_toArray,List.getElem_cons_succ,List.getElem_cons_zero]
     refine TKs.mk ?_;intro hs;refine WL.tk [(6,[]),(7,[]),(8,[]),(9,[]),(10,[]),(11,[]),(12,[]),(13,[])] hs ?_;clear hs
     iterate 8(refine TKs.u ?_;simp only[Act.put,sA,sZ,sS,List.getElem_toArray,List.getElem_cons_succ,List.getElem_cons_zero])
     refine TKs.mk ?_;intro hs;refine WL.tk [(14,[]),(15,[]),(16,[]),(17,[]),(18,[]),(19,[]),(20,[]),(21,[]),(22,[]),(23,[]),(24,[]),(25,[]),(26,[]),(27,[]),(28,[]),(29,[]),(30,[]),(31,[])] hs ?_;clear hs
     iterate 18
      (first|refine WLp ?_ ?_ ?_|refine WLl ?_ ?_ ?_);rotate_left
      ·intro w hc;go_simp<;>rfl
      simp only[Act.put,sA,sZ,sS,List.getElem_toArray,List.getElem_cons_succ,List.getElem_cons_zero]
     refine TKs.mk ?_;intro hs;refine WLo 32 hs ?_;clear hs;intro K hK;go_simp;refine(HW.o y x2 _ HN2.o.2.2.2.1 HN2.o.2.2.2.2.1 (prd_of BK.o (by simp) (by simp)) ((HPR.o x2 HN2.o.2.1 HN2.o.2.2.1).since BK.o.since) HN2.o.2.2.2.2.2).mono ?_;rintro e wz ⟨rfl,hs⟩;have BK:=Hd (BK.o.call hs);clear hs;refine hK.o _ _ (SaT (ap4 (BK.o.q4 0 rfl) (ap4 (BK.o.q4 1 rfl) (ap4 (pl_cells (HPL.o.since BK.o.since) HN2.o.1 HN2.o.2.2.1) ((HRD.o.since BK.o.since).cells HI.o).2.2.2.2.2.1)))) ?_;clear hK K;intro hs;try simp only[Act.put,sA,sZ,sS,List.getElem_toArray,List.getElem_cons_succ,List.getElem_cons_zero]
     refine WL.tk [(33,[]),(34,[]),(35,[])] hs ?_;clear hs
     iterate 3
      (first|refine WLp ?_ ?_ ?_|refine WLl ?_ ?_ ?_);rotate_left
      ·intro w hc;go_simp<;>rfl
      simp only[Act.put,sA,sZ,sS,List.getElem_toArray,List.getElem_cons_succ,List.getElem_cons_zero]
     refine TKs.mk ?_;intro hs;clear hs;refine WLd ?_ _;try simp only[Exit.then]
     go_wp2;go_round
     case rel=>exact⟨j+1,by omega,by rw[<-HK.o],BK.o.sub (List.nil_sublist _)⟩
     case measure=>simp[intOf];have:=HK.o;omega
   ·unfold PlV at ev
    simp only[Value.agg.injEq,Array.mk.injEq,List.cons.injEq,and_true]at ev;obtain⟨rfl,rfl,rfl,rfl⟩:=ev;have htl:=HTA.o _ ha;have hkn:k<n:=by have:=htl.lt;rw[List.length_map,HL.o.2]at this;exact this
    have k1:(k:Int)<(n:Int):=by omega
    obtain⟨x1,hn1⟩:=live_tells htl;have HN1:=Hd hn1;clear htl hkn hn1;rcases hf with⟨hf,ev,rfl⟩|⟨y,hf,ev,rfl⟩
    ·unfold deadV at ev
     simp only[Value.agg.injEq,Array.mk.injEq,List.cons.injEq,and_true]at ev;obtain⟨rfl,rfl,rfl,rfl⟩:=ev;clear ha hf HTA HTF;go_upto_region 10 with fail;have BK:=Hd BK.o.drew;refine WL.begin 99 (fun _=>True) (fun w'=>w'.cell? ⟨G,0,none⟩=some (.bool true)/\w'.cell? ⟨G,1,none⟩=some (.slice (some ⟨z.gr,0,none⟩) 11 z.cr)/\w'.cell? ⟨G,2,none⟩=some (.slice (some ⟨z.gb,0,none⟩) 512 z.cb)/\w'.cell? ⟨G,3,none⟩=some (.int .i64 z.p.least)/\w'.cell? ⟨H,0,none⟩=some (.bool false)/\w'.cell? ⟨H,1,none⟩=some (.slice none 0 0)/\w'.cell? ⟨H,2,none⟩=some (.slice none 0 0)/\w'.cell? ⟨H,3,none⟩=some (.int .i64 0)/\w'.cell? ⟨P,k*4,none⟩=some (.bool true)/\w'.cell? ⟨P,k*4+1,none⟩=some (.slice (some ⟨x1.gr,0,none⟩) 11 x1.cr)/\w'.cell? ⟨P,k*4+2,none⟩=some (.slice (some ⟨x1.gb,0,none⟩) 512 x1.cb)/\w'.cell? ⟨P,k*4+3,none⟩=some (.int .i64 x1.p.least)) (by kernel_rfl) trivial (ap4 (BK.o.q4 0 rfl) (ap4 (BK.o.q4 1 rfl) (pl_cells (HPL.o.since BK.o.since) HN1.o.1 HN1.o.2.2.1))) (fun hs=>?_);generalize wc.drew=wz at *;refine WL.tk [(0,[]),(1,[]),(2,[]),(3,[]),(4,[]),(5,[]),(6,[]),(7,[]),(8,[]),(9,[]),(10,[]),(11,[])] hs ?_;clear hs
     iterate 12
      (first|refine WLp ?_ ?_ ?_|refine WLl ?_ ?_ ?_);rotate_left
      ·intro w hc;go_simp<;>rfl
      simp only[Act.put,sA,sZ,sS,List.getElem_toArray,List.getElem_cons_succ,List.getElem_cons_zero]
     refine TKs.mk ?_;intro hs;refine WLo 12 hs ?_;clear hs;intro K hK;go_simp;refine(HW.o z x1 _ HN1.o.2.2.2.1 HN1.o.2.2.2.2.1 (prd_of BK.o (by simp) (by simp)) ((HPR.o x1 HN1.o.2.1 HN1.o.2.2.1).since BK.o.since) HN1.o.2.2.2.2.2).mono ?_;rintro e wz ⟨rfl,hs⟩;have BK:=Hd (BK.o.call hs);clear hs;refine hK.o _ _ (SaT (ap4 (BK.o.q4 0 rfl) (ap4 (BK.o.q4 1 rfl) (pl_cells (HPL.o.since BK.o.since) HN1.o.1 HN1.o.2.2.1)))) ?_;clear hK K;intro hs;try simp only[Act.put,sA,sZ,sS,List.getElem_toArray,List.getElem_cons_succ,List.getElem_cons_zero]
     refine WL.tk [(13,[]),(14,[]),(15,[]),(16,[]),(17,[]),(18,[]),(19,[])] hs ?_;clear hs
     iterate 7
      (first|refine WLp ?_ ?_ ?_|refine WLl ?_ ?_ ?_);rotate_left
      ·intro w hc;go_simp<;>rfl
      simp only[Act.put,sA,sZ,sS,List.getElem_toArray,List.getElem_cons_succ,List.getElem_cons_zero]
     refine TKs.mk ?_;intro hs;refine WL.tk [(20,[]),(21,[]),(22,[]),(23,[]),(24,[]),(25,[]),(26,[]),(27,[]),(28,[]),(29,[]),(30,[]),(31,[]),(32,[]),(33,[])] hs ?_;clear hs
     iterate 14(refine TKs.u ?_;simp only[Act.put,sA,sZ,sS,List.getElem_toArray,List.getElem_cons_succ,List.getElem_cons_zero])
     refine TKs.mk ?_;intro hs;refine WL.tk [(34,[]),(35,[])] hs ?_;clear hs
     iterate 2
      (first|refine WLp ?_ ?_ ?_|refine WLl ?_ ?_ ?_);rotate_left
      ·intro w hc;go_simp<;>rfl
      simp only[Act.put,sA,sZ,sS,List.getElem_toArray,List.getElem_cons_succ,List.getElem_cons_zero]
     refine TKs.mk ?_;intro hs;clear hs;refine WLd ?_ _;try simp only[Exit.then]
     go_wp2;go_round
     case rel=>exact⟨j+1,by omega,by rw[<-HK.o],BK.o.sub (List.nil_sublist _)⟩
     case measure=>simp[intOf];have:=HK.o;omega
    ·unfold PlV at ev
     simp only[Value.agg.injEq,Array.mk.injEq,List.cons.injEq,and_true]at ev;obtain⟨rfl,rfl,rfl,rfl⟩:=ev;obtain⟨ho0,htl⟩:=HTF.o _ hf;obtain⟨t,ht⟩:∃t,t=k+i.off.toNat:=⟨_,rfl⟩
     rw[<-ht]at htl;have htn:t<n:=by have:=htl.lt;rw[List.length_map,HL.o.2]at this;exact this
     have kt:IntKind.i64.wrap ((k:Int)+i.off)=(t:Int):=by rw[IntWalk.i64_in _ (by omega)];omega
     have t0:(0:Int)<=(t:Int):=by omega
     have t1:(t:Int)<(n:Int):=by omega
     obtain⟨x2,hn2⟩:=live_tells htl;have HN2:=Hd hn2;clear ha hf HTA HTF ho0 htl ht htn hn2;go_upto_region 10 with fail;have BK:=Hd BK.o.drew;refine WL.begin 99 (fun _=>True) (fun w'=>w'.cell? ⟨G,0,none⟩=some (.bool true)/\w'.cell? ⟨G,1,none⟩=some (.slice (some ⟨z.gr,0,none⟩) 11 z.cr)/\w'.cell? ⟨G,2,none⟩=some (.slice (some ⟨z.gb,0,none⟩) 512 z.cb)/\w'.cell? ⟨G,3,none⟩=some (.int .i64 z.p.least)/\w'.cell? ⟨H,0,none⟩=some (.bool true)/\w'.cell? ⟨H,1,none⟩=some (.slice (some ⟨y.gr,0,none⟩) 11 y.cr)/\w'.cell? ⟨H,2,none⟩=some (.slice (some ⟨y.gb,0,none⟩) 512 y.cb)/\w'.cell? ⟨H,3,none⟩=some (.int .i64 y.p.least)/\w'.cell? ⟨P,k*4,none⟩=some (.bool true)/\w'.cell? ⟨P,k*4+1,none⟩=some (.slice (some ⟨x1.gr,0,none⟩) 11 x1.cr)/\w'.cell? ⟨P,k*4+2,none⟩=some (.slice (some ⟨x1.gb,0,none⟩) 512 x1.cb)/\w'.cell? ⟨P,k*4+3,none⟩=some (.int .i64 x1.p.least)/\w'.cell? ⟨P,t*4,none⟩=some (.bool true)/\w'.cell? ⟨P,t*4+1,none⟩=some (.slice (some ⟨x2.gr,0,none⟩) 11 x2.cr)/\w'.cell? ⟨P,t*4+2,none⟩=some (.slice (some ⟨x2.gb,0,none⟩) 512 x2.cb)/\w'.cell? ⟨P,t*4+3,none⟩=some (.int .i64 x2.p.least)/\w'.cell? ⟨b,o+j*8+5,none⟩=some (.int .i64 i.off)) (by kernel_rfl) trivial (ap4 (BK.o.q4 0 rfl) (ap4 (BK.o.q4 1 rfl) (ap4 (pl_cells (HPL.o.since BK.o.since) HN1.o.1 HN1.o.2.2.1) (ap4 (pl_cells (HPL.o.since BK.o.since) HN2.o.1 HN2.o.2.2.1) ((HRD.o.since BK.o.since).cells HI.o).2.2.2.2.2.1)))) (fun hs=>?_);generalize wc.drew=wz at *;refine WL.tk [(0,[]),(1,[]),(2,[]),(3,[]),(4,[]),(5,[]),(6,[]),(7,[]),(8,[]),(9,[]),(10,[]),(11,[])] hs ?_;clear hs
     iterate 12
      (first|refine WLp ?_ ?_ ?_|refine WLl ?_ ?_ ?_);rotate_left
      ·intro w hc;go_simp<;>rfl
      simp only[Act.put,sA,sZ,sS,List.getElem_toArray,List.getElem_cons_succ,List.getElem_cons_zero]
     refine TKs.mk ?_;intro hs;refine WLo 12 hs ?_;clear hs;intro K hK;go_simp;refine(HW.o z x1 _ HN1.o.2.2.2.1 HN1.o.2.2.2.2.1 (prd_of BK.o (by simp) (by simp)) ((HPR.o x1 HN1.o.2.1 HN1.o.2.2.1).since BK.o.since) HN1.o.2.2.2.2.2).mono ?_;rintro e wz ⟨rfl,hs⟩;have BK:=Hd (BK.o.call hs);clear hs;refine hK.o _ _ (SaT (ap4 (BK.o.q4 0 rfl) (ap4 (BK.o.q4 1 rfl) (ap4 (pl_cells (HPL.o.since BK.o.since) HN1.o.1 HN1.o.2.2.1) (ap4 (pl_cells (HPL.o.since BK.o.since) HN2.o.1 HN2.o.2.2.1) ((HRD.o.since BK.o.since).cells HI.o).2.2.2.2.2.1))))) ?_;clear hK K;intro hs;try simp only[Act.put,sA,sZ,sS,List.getElem_toArray,List.getElem_cons_succ,List.getElem_cons_zero]
     refine WL.tk [(13,[]),(14,[]),(15,[]),(16,[]),(17,[]),(18,[]),(19,[]),(20,[]),(21,[]),(22,[]),(23,[]),(24,[]),(25,[]),(26,[]),(27,[]),(28,[]),(29,[]),(30,[]),(31,[])] hs ?_;clear hs
     iterate 19
      (first|refine WLp ?_ ?_ ?_|refine WLl ?_ ?_ ?_);rotate_left
      ·intro w hc;go_simp<;>rfl
      simp only[Act.put,sA,sZ,sS,List.getElem_toArray,List.getElem_cons_succ,List.getElem_cons_zero]
     refine TKs.mk ?_;intro hs;refine WLo 32 hs ?_;clear hs;intro K hK;go_simp;refine(HW.o y x2 _ HN2.o.2.2.2.1 HN2.o.2.2.2.2.1 (prd_of BK.o (by simp) (by simp)) ((HPR.o x2 HN2.o.2.1 HN2.o.2.2.1).since BK.o.since) HN2.o.2.2.2.2.2).mono ?_;rintro e wz ⟨rfl,hs⟩;have BK:=Hd (BK.o.call hs);clear hs;refine hK.o _ _ (SaT (ap4 (BK.o.q4 0 rfl) (ap4 (BK.o.q4 1 rfl) (ap4 (pl_cells (HPL.o.since BK.o.since) HN1.o.1 HN1.o.2.2.1) (ap4 (pl_cells (HPL.o.since BK.o.since) HN2.o.1 HN2.o.2.2.1) ((HRD.o.since BK.o.since).cells HI.o).2.2.2.2.2.1))))) ?_;clear hK K;intro hs;try simp only[Act.put,sA,sZ,sS,List.getElem_toArray,List.getElem_cons_succ,List.getElem_cons_zero]
     refine WL.tk [(33,[]),(34,[]),(35,[])] hs ?_;clear hs
     iterate 3
      (first|refine WLp ?_ ?_ ?_|refine WLl ?_ ?_ ?_);rotate_left
      ·intro w hc;go_simp<;>rfl
      simp only[Act.put,sA,sZ,sS,List.getElem_toArray,List.getElem_cons_succ,List.getElem_cons_zero]
     refine TKs.mk ?_;intro hs;clear hs;refine WLd ?_ _;try simp only[Exit.then]
     go_wp2;go_round
     case rel=>exact⟨j+1,by omega,by rw[<-HK.o],BK.o.sub (List.nil_sublist _)⟩
     case measure=>simp[intOf];have:=HK.o;omega
end Go.Proofs.YtfeipbgnjainlaaGreatDoor.K
