/- TYd, TYe, TYj, TYk, TYl, TExB, TExC, AppGrow -/
import Derived.Test.YtfeipbgnjainlaaGreatDoorTp2
import Derived.Test.YtfeipbgnjainlaaGreatDoorTp22
import Derived.Test.YtfeipbgnjainlaaGreatDoorTp4
import Derived.Test.YtfeipbgnjainlaaGreatDoorTp10
import Derived.Test.YtfeipbgnjainlaaGreatDoorTp24
import Derived.Test.YtfeipbgnjainlaaGreatDoorTp9
import Derived.Test.YtfeipbgnjainlaaGreatDoorTp7
import Derived.Deep.RegionHeld3
import Derived.Lib.QuietBelow
import Derived.WalkLawsBesides
import Derived.ArgAppend
import Derived.Laws.AppendOwn
set_option linter.unusedVariables false
set_option linter.unusedSimpArgs false
set_option maxRecDepth 100000
set_option maxHeartbeats 4000000
namespace Go.Proofs.YtfeipbgnjainlaaGreatDoor.K
open Go Go.RowKit Go.Maps Go.Sort
def PRd(w:World)(x:PV):Prop:=RdC w x.gr (knsL x.p.regs)/\RdC w x.gb (x.p.bytes.map Value.bool)/\512<=x.cb
theorem PRd.since{w w':World}{x:PV}(h:PRd w x)(hs:Since w w'):PRd w' x:=⟨h.1.since hs,h.2.1.since hs,h.2.2⟩
theorem knsL_at'{w:World}{g:Nat}{ks:List T.Kn}(h:RdC w g (knsL ks))(k:Nat)(hk:k<ks.length):w.cell? ⟨g,k*3,none⟩=some (.int .u8 ks[k].k)/\w.cell? ⟨g,k*3+1,none⟩=some (W64 ks[k].s.lo)/\w.cell? ⟨g,k*3+2,none⟩=some (W64 ks[k].s.hi) :=
 ⟨h _ _ (knsL_get ks k hk).1,h _ _ (knsL_get ks k hk).2.1,h _ _ (knsL_get ks k hk).2.2⟩
def deadV:Value:=.agg #[.bool false,.slice none 0 0,.slice none 0 0,.int .i64 0]
theorem tyR1_ok(x:T.Kn)(hk:x.right=true)(w:World):Calls Tryz.prog 86 #[.agg #[.int .u8 x.k,W64 x.s.lo,W64 x.s.hi]] w (Ret w (.bool false)):=by
 obtain⟨k,⟨lo,hi⟩⟩:=x;have RA:=Hd hk;clear hk;have BK0:=bk1 w [.int .u8 k,W64 lo,W64 hi] 124;go_enter Tryz.func86,Tryz.ntmps86;go_upto_region 1 with fail;generalize w.heap.size=X at *;refine wp_hid BK0 (fun w1 BK0=>?_);obtain⟨a0,a1,a2⟩:=BK0.o.q3 0 rfl;go_wp2_with fail;refine(kright_any ⟨k,⟨lo,hi⟩⟩ _).mono ?_;rintro e w2 ⟨rfl,hs⟩;have S:=Hd (BK0.o.since.add hs);clear hs;rw[RA.o];go_wp2;go_ret;exact⟨rfl,S.o⟩
theorem ixKn_none(g n c:Nat)(ks:List T.Kn)(w:World)(hl:ks.length=n)(hn:n<=100)(hr:RdC w g (knsL ks))(hk:∀x∈ks,x.right=true):
  Calls Tryz.prog 131 #[.slice (some ⟨g,0,none⟩) n c,.func (.func 86) #[] #[]] w (Ret w (.int .i64 (-1))):=by
 have HL:=Hd hl;have HR:=Hd hr;have HK:=Hd hk;clear hl hr hk;go_enter Tryz.func131,Tryz.ntmps131;go_wp2_with fail;go_loopw [5,8] (fun v i wr=>∃j:Nat,j<=n/\i=.int .i64 (j:Int)/\Since w wr) (fun _ i _=>n-(intOf i).toNat)
 case atStart=>exact⟨0,Nat.zero_le _,rfl,Below.refl _ _⟩
 case round =>
  obtain⟨j,hj,rfl,hS⟩:=hrel;have HS:=Hd hS;clear hS;have j0:(0:Int)<=(j:Int):=by omega
  by_cases hlt:j<n
  ·have i1:(j:Int)<(n:Int):=by omega
   have hj':j<ks.length:=by rw[HL.o];exact hlt
   obtain⟨c0,c1,c2⟩:=knsL_at' (HR.o.since HS.o) j hj';have HX:=Hd (HK.o _ (List.getElem_mem hj'));generalize ks[j]=x at *;clear hj';go_wp2_with fail;refine(tyR1_ok x HX.o _).mono ?_;rintro e w2 ⟨rfl,hs⟩;have HS2:=Hd (HS.o.add hs);clear hs c0 c1 c2;go_wp2;go_round
   case rel=>exact⟨j+1,by omega,by go_num,HS2.o⟩
   case measure=>simp[intOf];omega
  ·have i1:¬(j:Int)<(n:Int):=by omega
   go_wp2;go_ret;exact⟨rfl,HS.o⟩
theorem cfKn_none(g n c:Nat)(ks:List T.Kn)(w:World)(hl:ks.length=n)(hn:n<=100)(hr:RdC w g (knsL ks))(hk:∀x∈ks,x.right=true):
  Calls Tryz.prog 85 #[.slice (some ⟨g,0,none⟩) n c,.func (.func 86) #[] #[]] w (Ret w (.bool false)):=by
 have HR:=Hd (fun w'=>ixKn_none g n c ks w' hl hn);have HH:=Hd (⟨hr,hk⟩:RdC w g (knsL ks)/\∀x∈ks,x.right=true);clear hl hr hk;go_enter Tryz.func85,Tryz.ntmps85;go_wp2_with fail;refine(HR.o _ HH.o.1 HH.o.2).mono ?_;rintro e w2 ⟨rfl,hs⟩;have S:=Hd hs;clear hs;go_wp2;go_ret;exact⟨rfl,S.o⟩
theorem tyRight_live(x:PV)(w:World)(hw:x.p.Wf)(hr:PRd w x):Calls Tryz.prog 45 #[PlV x] w (Ret w (.bool true)):=by
 have HC:=Hd (fun w' (h:RdC w' x.gr (knsL x.p.regs))=>cfKn_none x.gr 11 x.cr x.p.regs w' hw.rl (by decide) h hw.right);have HR:=Hd hr;have l0:=hw.l0;have l1:=hw.ll;clear hw hr;unfold PlV;have BK0:=bk1 w [.bool true,.slice (some ⟨x.gr,0,none⟩) 11 x.cr,.slice (some ⟨x.gb,0,none⟩) 512 x.cb,.int .i64 x.p.least] 87;go_enter Tryz.func45,Tryz.ntmps45;go_upto_region 1 with fail;generalize w.heap.size=X at *;refine wp_hid BK0 (fun w1 BK0=>?_);obtain⟨a0,a1,a2,a3⟩:=BK0.o.q4 0 rfl;go_wp2_with fail;refine(HC.o _ (HR.o.1.since BK0.o.since)).mono ?_;rintro e w2 ⟨rfl,hs⟩;have S:=Hd (BK0.o.since.add hs);clear hs;go_wp2;go_ret;exact⟨rfl,S.o⟩
theorem tyRight_dead(w:World):Calls Tryz.prog 45 #[deadV] w (Ret w (.bool true)):=by
 unfold deadV;have BK0:=bk1 w [.bool false,.slice none 0 0,.slice none 0 0,.int .i64 0] 87;go_enter Tryz.func45,Tryz.ntmps45;go_upto_region 1 with fail;generalize w.heap.size=X at *;refine wp_hid BK0 (fun w1 BK0=>?_);obtain⟨a0,a1,a2,a3⟩:=BK0.o.q4 0 rfl;go_wp2;go_ret;exact⟨rfl,BK0.o.since⟩
set_option maxRecDepth 100000
set_option maxHeartbeats 4000000
theorem tyOwn_any(x:PV)(w:World)(hr:x.p.regs.length=11)(hb:x.p.bytes.length=512)(hcr:RdC w x.gr (knsL x.p.regs))(hcb:RdC w x.gb (x.p.bytes.map Value.bool)):Calls Tryz.prog 138 #[PlV x] w (CopyP w x):=by
 have H3:=Hd (show(knsL x.p.regs).length=11*3 by rw[knsL_len,hr]);have H1:=Hd (show(x.p.bytes.map Value.bool).length=512*1 by rw[List.length_map,hb]);have HO:=Hd (show ∀u∈x.p.bytes.map Value.bool,u.oneCell'=true from fun u hu=>by obtain⟨b,_,rfl⟩:=List.mem_map.1 hu;rfl);have HCR:=Hd (fun w' (hs:Since w w')=>(fun j u hj=>by rw[Nat.zero_add];exact hs.keep (hcr j u hj):∀j u,(knsL x.p.regs)[j]?=some u->w'.cell? ⟨x.gr,0+j,none⟩=some u));have HCB:=Hd (fun w' (hs:Since w w')=>(fun j u hj=>by rw[Nat.zero_add];exact hs.keep (hcb j u hj):∀j u,(x.p.bytes.map Value.bool)[j]?=some u->w'.cell? ⟨x.gb,0+j,none⟩=some u));clear hr hb hcr hcb;unfold PlV;have BK0:=bk2 w [.bool true,.slice (some ⟨x.gr,0,none⟩) 11 x.cr,.slice (some ⟨x.gb,0,none⟩) 512 x.cb,.int .i64 x.p.least] 87 [.bool false,.slice none 0 0,.slice none 0 0,.int .i64 0] 87;go_enter Tryz.func138,Tryz.ntmps138;go_upto_region 1 with fail;generalize w.heap.size=X at *;refine wp_hid BK0 (fun w1 BK0=>?_);obtain⟨p0,p1,p2,p3,fp0,fp1,fp2,fp3⟩:=BK0.o.r4 1 rfl;obtain⟨r0,r1,r2,r3,fr0,fr1,fr2,fr3⟩:=BK0.o.r4 0 rfl;refine WL.begin 7 (fun w'=>w'.cell? ⟨X,1,none⟩=some (.slice (some ⟨x.gr,0,none⟩) 11 x.cr)/\w'.cell? ⟨X,2,none⟩=some (.slice (some ⟨x.gb,0,none⟩) 512 x.cb)) (fun _=>True) (by kernel_rfl) ⟨p1,p2⟩ trivial (fun hs=>?_);refine WL.tk [(0,[]),(1,[1]),(3,[]),(4,[4])] hs ?_;clear hs
 iterate 4
  (first|refine WLp ?_ ?_ ?_|refine WLl ?_ ?_ ?_);rotate_left
  ·intro w hc;go_simp<;>rfl
  simp only[Act.put,sA,sZ,sS]
 refine TKs.mk ?_;intro hs;refine WLo 2 hs ?_;clear hs;intro K hK;go_simp;refine(cloneKn_any x.gr 0 11 x.cr (knsL x.p.regs) _ H3.o (by decide) (HCR.o _ BK0.o.since.drew) (knsL_one _)).mono ?_;rintro e w2 ⟨A',n',c',rfl,hn,hb⟩;subst hn;obtain⟨gr,rfl⟩:=own_someG (hb.own _ (List.mem_singleton.2 rfl)) (by decide);have BK1:=Hd (bank_join BK0.o.drew hb);clear hb;refine hK.o _ _ (SApp.intro (fun _=>⟨BK1.o.cl 2 1,BK1.o.cl 2 2⟩) trivial) ?_;clear hK K;intro hs;try simp only[Act.put,sA,sZ,sS]
 refine WL.tk [(6,[])] hs ?_;clear hs
 iterate 1
  (first|refine WLp ?_ ?_ ?_|refine WLl ?_ ?_ ?_);rotate_left
  ·intro w hc;go_simp<;>rfl
  simp only[Act.put,sA,sZ,sS]
 refine TKs.mk ?_;intro hs;refine WLo 5 hs ?_;clear hs;intro K hK;go_simp;refine(cloneBo_any x.gb 0 512 x.cb (x.p.bytes.map Value.bool) _ H1.o (by decide) (HCB.o _ BK1.o.since) HO.o).mono ?_;rintro e w3 ⟨A',n',c2',rfl,hn,hb⟩;subst hn;obtain⟨gb,rfl⟩:=own_someG (hb.own _ (List.mem_singleton.2 rfl)) (by decide);have BK2:=Hd (bank_join BK1.o hb);clear hb p0 p1 p2 p3 r0 r1 r2 r3 fp0 fp1 fp2 fp3 fr0 fr1 fr2 fr3;have q1:=BK2.o.cl 3 1;have g1:=BK2.o.free 3 rfl 1;refine hK.o _ _ (SApp.intro (fun _=>⟨BK2.o.cl 3 1,BK2.o.cl 3 2⟩) trivial) ?_;clear hK K;intro hs;try simp only[Act.put,sA,sZ,sS]
 refine WLo 7 hs ?_;clear hs;intro K hK;go_simp;have BK3:=Hd (BK2.o.bs 3 1 (.slice (some ⟨gr,0,none⟩) 11 c'));clear q1 g1;have q2:=BK3.o.cl 3 2;have g2:=BK3.o.free 3 rfl 2;refine hK.o _ _ SaF ?_;clear hK K;intro hs;try simp only[Act.put]
 refine WL.tk [(8,[])] hs ?_;clear hs
 iterate 1
  (first|refine WLp ?_ ?_ ?_|refine WLl ?_ ?_ ?_);rotate_left
  ·intro w hc;go_simp<;>rfl
  simp only[Act.put,sA,sZ,sS]
 refine TKs.mk ?_;intro hs;refine WLo 9 hs ?_;clear hs;intro K hK;go_simp;have BK4:=Hd (BK3.o.bs 3 2 (.slice (some ⟨gb,0,none⟩) 512 c2'));clear q2 g2;refine hK.o _ _ SaF ?_;clear hK K;intro hs;try simp only[Act.put]
 clear hs;refine WLd ?_ _;try simp only[Exit.then]
 obtain⟨p0,p1,p2,p3⟩:=BK4.o.q4 3 rfl;obtain⟨r0,r1,r2,r3,fr0,fr1,fr2,fr3⟩:=BK4.o.r4 2 rfl;go_wp2;refine bodyPost_ret (v:=.agg #[.bool true,.slice (some ⟨gr,0,none⟩) 11 c',.slice (some ⟨gb,0,none⟩) 512 c2',.int .i64 x.p.least]) ?_ rfl ⟨⟨x.p,gr,c',gb,c2',4⟩,rfl,rfl,(((((BK4.o.bs 2 0 (.bool true)).bs 2 1 (.slice (some ⟨gr,0,none⟩) 11 c')).bs 2 2 (.slice (some ⟨gb,0,none⟩) 512 c2')).bs 2 3 (.int .i64 x.p.least)).sub (.cons_cons _ (.cons_cons _ (List.nil_sublist _)))).swap⟩;simp[results,Tryz.results138,go_sem,p0,p1,p2,p3,r0,r1,r2,r3]
set_option maxRecDepth 100000
set_option maxHeartbeats 4000000
theorem errAs_nil(v:Value)(w:World):Calls Tryz.prog 89 #[.nilIface,v] w fun e w'=>e=.returned (.bool false)/\w'=w:=by
 have he:∀w,(binOp .eql 135 .nilIface .nilIface).run Tryz.prog w=.ok (.bool true) w:=fun _=>by kernel_rfl
 go_enter Tryz.func89,Tryz.ntmps89;go_wp2;go_ret;exact⟨rfl,rfl⟩
def GoesP(k:FuncId)(i:T.Ins)(w:World)(e:Ending)(w':World):Prop:=∃T I,e=.returned (.func (.func 237) #[] #[.pointer (some ⟨T,0,none⟩)])/\Since w w'/\w'.cell? ⟨T,0,none⟩=some (.func (.func k) #[] #[.pointer (some ⟨I,0,none⟩)])/\∀j v,(insL i)[j]?=some v->w'.cell? ⟨I,j,none⟩=some v
theorem tyGoes_any(k:FuncId)(I:Nat)(w:World):Calls Tryz.prog 173 #[.func (.func k) #[] #[.pointer (some ⟨I,0,none⟩)]] w fun e w'=>∃T,e=.returned (.func (.func 237) #[] #[.pointer (some ⟨T,0,none⟩)])/\Since w w'/\w'.cell? ⟨T,0,none⟩=some (.func (.func k) #[] #[.pointer (some ⟨I,0,none⟩)]):=by
 have hmf:=hmfT;have BK0:=bk1 w [.func (.func k) #[] #[.pointer (some ⟨I,0,none⟩)]] 237;go_enter Tryz.func173,Tryz.ntmps173;go_upto_region 1 with fail;generalize w.heap.size=X at *;refine wp_hid BK0 (fun w1 BK0=>?_);go_wp2;go_ret;exact⟨X,rfl,BK0.o.since,BK0.o.cl 0 0⟩
theorem tyReckons_any(i:T.Ins)(w:World):Calls Tryz.prog 134 #[insV i] w (GoesP 174 i w):=by
 have hmf:=hmfT;unfold insV insL;have BK0:=bk1 w [.int .u8 i.op,.bool i.narrow,.int .i64 i.dst,.int .i64 i.src,.bool i.useImm,.int .i64 i.off,.int .i64 i.imm,.int .i64 i.size] 55;go_enter Tryz.func134,Tryz.ntmps134;go_upto_region 1 with fail;generalize w.heap.size=X at *;refine wp_hid BK0 (fun w1 BK0=>?_);go_wp2_with fail;refine(tyGoes_any 174 X _).mono ?_;rintro e w2 ⟨T,rfl,hs,hc⟩;have BK1:=Hd (BK0.o.call hs);clear hs;go_wp2;go_ret;exact⟨T,X,rfl,BK1.o.since,hc,fun j v hj=>BK1.o.cell 0 rfl j hj⟩
theorem tyLoads_any(i:T.Ins)(w:World):Calls Tryz.prog 135 #[insV i] w (GoesP 177 i w):=by
 have hmf:=hmfT;unfold insV insL;have BK0:=bk1 w [.int .u8 i.op,.bool i.narrow,.int .i64 i.dst,.int .i64 i.src,.bool i.useImm,.int .i64 i.off,.int .i64 i.imm,.int .i64 i.size] 55;go_enter Tryz.func135,Tryz.ntmps135;go_upto_region 1 with fail;generalize w.heap.size=X at *;refine wp_hid BK0 (fun w1 BK0=>?_);go_wp2_with fail;refine(tyGoes_any 177 X _).mono ?_;rintro e w2 ⟨T,rfl,hs,hc⟩;have BK1:=Hd (BK0.o.call hs);clear hs;go_wp2;go_ret;exact⟨T,X,rfl,BK1.o.since,hc,fun j v hj=>BK1.o.cell 0 rfl j hj⟩
theorem tyPuts_any(i:T.Ins)(w:World):Calls Tryz.prog 136 #[insV i] w (GoesP 179 i w):=by
 have hmf:=hmfT;unfold insV insL;have BK0:=bk1 w [.int .u8 i.op,.bool i.narrow,.int .i64 i.dst,.int .i64 i.src,.bool i.useImm,.int .i64 i.off,.int .i64 i.imm,.int .i64 i.size] 55;go_enter Tryz.func136,Tryz.ntmps136;go_upto_region 1 with fail;generalize w.heap.size=X at *;refine wp_hid BK0 (fun w1 BK0=>?_);go_wp2_with fail;refine(tyGoes_any 179 X _).mono ?_;rintro e w2 ⟨T,rfl,hs,hc⟩;have BK1:=Hd (BK0.o.call hs);clear hs;go_wp2;go_ret;exact⟨T,X,rfl,BK1.o.since,hc,fun j v hj=>BK1.o.cell 0 rfl j hj⟩
theorem tyBranches_any(i:T.Ins)(w:World):Calls Tryz.prog 141 #[insV i] w fun e w'=>∃I,e=.returned (.func (.func 180) #[] #[.pointer (some ⟨I,0,none⟩)])/\Since w w'/\∀j v,(insL i)[j]?=some v->w'.cell? ⟨I,j,none⟩=some v:=by
 have hmf:=hmfT;unfold insV insL;have BK0:=bk1 w [.int .u8 i.op,.bool i.narrow,.int .i64 i.dst,.int .i64 i.src,.bool i.useImm,.int .i64 i.off,.int .i64 i.imm,.int .i64 i.size] 55;go_enter Tryz.func141,Tryz.ntmps141;go_upto_region 1 with fail;generalize w.heap.size=X at *;refine wp_hid BK0 (fun w1 BK0=>?_);go_wp2;go_ret;exact⟨X,rfl,BK0.o.since,fun j v hj=>BK0.o.cell 0 rfl j hj⟩
set_option maxRecDepth 100000
set_option maxHeartbeats 4000000
theorem tyOf_reck(i:T.Ins)(ho:i.op<=13)(w:World):Calls Tryz.prog 88 #[insV i] w (GoesP 174 i w):=by
 obtain⟨op,nr,dst,src,u,off,imm,size⟩:=i;simp only at ho;have HC:=Hd (fun w'=>tyReckons_any ⟨op,nr,dst,src,u,off,imm,size⟩ w');unfold insV insL at HC ⊢;have BK0:=bk1 w [.int .u8 op,.bool nr,.int .i64 dst,.int .i64 src,.bool u,.int .i64 off,.int .i64 imm,.int .i64 size] 55;go_enter Tryz.func88,Tryz.ntmps88;go_upto_region 1 with fail;generalize w.heap.size=X at *;refine wp_hid BK0 (fun w1 BK0=>?_);obtain⟨i0,i1,i2,i3,i4,i5,i6,i7⟩:=BK0.o.q8 0 rfl;go_wp2_with fail;refine(HC.o _).mono ?_;rintro e w2 ⟨T,I,rfl,hs,hc,hi⟩;have S:=Hd (BK0.o.since.add hs);clear hs;go_wp2;go_ret;exact⟨T,I,rfl,S.o,hc,hi⟩
theorem tyOf_load(i:T.Ins)(ho:i.op=14)(w:World):Calls Tryz.prog 88 #[insV i] w (GoesP 177 i w):=by
 obtain⟨op,nr,dst,src,u,off,imm,size⟩:=i;simp only at ho;have e0:¬op<=13:=by omega
 have e14:(op==14)=true:=by simpa using ho
 clear ho;have HC:=Hd (fun w'=>tyLoads_any ⟨op,nr,dst,src,u,off,imm,size⟩ w');unfold insV insL at HC ⊢;have BK0:=bk1 w [.int .u8 op,.bool nr,.int .i64 dst,.int .i64 src,.bool u,.int .i64 off,.int .i64 imm,.int .i64 size] 55;go_enter Tryz.func88,Tryz.ntmps88;go_upto_region 1 with fail;generalize w.heap.size=X at *;refine wp_hid BK0 (fun w1 BK0=>?_);obtain⟨i0,i1,i2,i3,i4,i5,i6,i7⟩:=BK0.o.q8 0 rfl;go_wp2_with fail;refine(HC.o _).mono ?_;rintro e w2 ⟨T,I,rfl,hs,hc,hi⟩;have S:=Hd (BK0.o.since.add hs);clear hs;go_wp2;go_ret;exact⟨T,I,rfl,S.o,hc,hi⟩
theorem tyOf_put(i:T.Ins)(ho:i.op=15)(w:World):Calls Tryz.prog 88 #[insV i] w (GoesP 179 i w):=by
 obtain⟨op,nr,dst,src,u,off,imm,size⟩:=i;simp only at ho;have e0:¬op<=13:=by omega
 have e14:(op==14)=false:=by simpa using(show ¬op=14 by omega)
 have e15:(op==15)=true:=by simpa using ho
 clear ho;have HC:=Hd (fun w'=>tyPuts_any ⟨op,nr,dst,src,u,off,imm,size⟩ w');unfold insV insL at HC ⊢;have BK0:=bk1 w [.int .u8 op,.bool nr,.int .i64 dst,.int .i64 src,.bool u,.int .i64 off,.int .i64 imm,.int .i64 size] 55;go_enter Tryz.func88,Tryz.ntmps88;go_upto_region 1 with fail;generalize w.heap.size=X at *;refine wp_hid BK0 (fun w1 BK0=>?_);obtain⟨i0,i1,i2,i3,i4,i5,i6,i7⟩:=BK0.o.q8 0 rfl;go_wp2_with fail;refine(HC.o _).mono ?_;rintro e w2 ⟨T,I,rfl,hs,hc,hi⟩;have S:=Hd (BK0.o.since.add hs);clear hs;go_wp2;go_ret;exact⟨T,I,rfl,S.o,hc,hi⟩
theorem tyOf_jump(i:T.Ins)(ho:i.op=16)(w:World):Calls Tryz.prog 88 #[insV i] w (Ret w (.func (.func 137) #[] #[])):=by
 obtain⟨op,nr,dst,src,u,off,imm,size⟩:=i;simp only at ho;have e0:¬op<=13:=by omega
 have e14:(op==14)=false:=by simpa using(show ¬op=14 by omega)
 have e15:(op==15)=false:=by simpa using(show ¬op=15 by omega)
 have e16:(op==16)=true:=by simpa using ho
 clear ho;unfold insV insL;have BK0:=bk1 w [.int .u8 op,.bool nr,.int .i64 dst,.int .i64 src,.bool u,.int .i64 off,.int .i64 imm,.int .i64 size] 55;go_enter Tryz.func88,Tryz.ntmps88;go_upto_region 1 with fail;generalize w.heap.size=X at *;refine wp_hid BK0 (fun w1 BK0=>?_);obtain⟨i0,i1,i2,i3,i4,i5,i6,i7⟩:=BK0.o.q8 0 rfl;have S:=Hd BK0.o.since;go_wp2;go_ret;exact⟨rfl,S.o⟩
theorem tyOf_exit(i:T.Ins)(ho:i.op=28)(w:World):Calls Tryz.prog 88 #[insV i] w (Ret w (.func (.func 139) #[] #[])):=by
 obtain⟨op,nr,dst,src,u,off,imm,size⟩:=i;simp only at ho;have e0:¬op<=13:=by omega
 have e14:(op==14)=false:=by simpa using(show ¬op=14 by omega)
 have e15:(op==15)=false:=by simpa using(show ¬op=15 by omega)
 have e16:(op==16)=false:=by simpa using(show ¬op=16 by omega)
 have e28:(op==28)=true:=by simpa using ho
 clear ho;unfold insV insL;have BK0:=bk1 w [.int .u8 op,.bool nr,.int .i64 dst,.int .i64 src,.bool u,.int .i64 off,.int .i64 imm,.int .i64 size] 55;go_enter Tryz.func88,Tryz.ntmps88;go_upto_region 1 with fail;generalize w.heap.size=X at *;refine wp_hid BK0 (fun w1 BK0=>?_);obtain⟨i0,i1,i2,i3,i4,i5,i6,i7⟩:=BK0.o.q8 0 rfl;have S:=Hd BK0.o.since;go_wp2;go_ret;exact⟨rfl,S.o⟩
theorem tyOf_branch(i:T.Ins)(ho:17<=i.op/\i.op<=27)(w:World):Calls Tryz.prog 88 #[insV i] w (fun e w'=>∃I,e=.returned (.func (.func 180) #[] #[.pointer (some ⟨I,0,none⟩)])/\Since w w'/\∀j v,(insL i)[j]?=some v->w'.cell? ⟨I,j,none⟩=some v):=by
 obtain⟨op,nr,dst,src,u,off,imm,size⟩:=i;simp only at ho;have e0:¬op<=13:=by omega
 have e14:(op==14)=false:=by simpa using(show ¬op=14 by omega)
 have e15:(op==15)=false:=by simpa using(show ¬op=15 by omega)
 have e16:(op==16)=false:=by simpa using(show ¬op=16 by omega)
 have e28:(op==28)=false:=by simpa using(show ¬op=28 by omega)
 clear ho;have HC:=Hd (fun w'=>tyBranches_any ⟨op,nr,dst,src,u,off,imm,size⟩ w');unfold insV insL at HC ⊢;have BK0:=bk1 w [.int .u8 op,.bool nr,.int .i64 dst,.int .i64 src,.bool u,.int .i64 off,.int .i64 imm,.int .i64 size] 55;go_enter Tryz.func88,Tryz.ntmps88;go_upto_region 1 with fail;generalize w.heap.size=X at *;refine wp_hid BK0 (fun w1 BK0=>?_);obtain⟨i0,i1,i2,i3,i4,i5,i6,i7⟩:=BK0.o.q8 0 rfl;go_wp2_with fail;refine(HC.o _).mono ?_;rintro e w2 ⟨I,rfl,hs,hi⟩;have S:=Hd (BK0.o.since.add hs);clear hs;go_wp2;go_ret;exact⟨I,rfl,S.o,hi⟩
set_option maxRecDepth 100000
set_option maxHeartbeats 4000000
def OptA(M:List Acc)(o:Option T.Pl)(v:Value):Prop:=(o=none/\v=deadV/\M=[])\/∃z:PV,o=some z.p/\v=PlV z/\M=[z.regA,z.byA]
def RuleT(w:World)(ah af:Option T.Pl)(e:Ending)(w':World):Prop:=∃v1 v2 M1 M2,e=.returned (.tuple #[v1,v2,.nilIface])/\Bank w w' (M1++M2)/\OptA M1 ah v1/\OptA M2 af v2
theorem optA_form{M:List Acc}{o:Option T.Pl}{v:Value}(h:OptA M o v):∃(lv:Bool) (A:Option Addr) (n c:Nat) (B:Option Addr) (m d:Nat) (l:Int),v=.agg #[.bool lv,.slice A n c,.slice B m d,.int .i64 l]/\(o=none->lv=false)/\(o≠none->lv=true):=by
 rcases h with⟨h0,rfl,_⟩|⟨z,h0,rfl,_⟩
 ·exact⟨_,_,_,_,_,_,_,_,rfl,fun _=>rfl,fun h=>absurd h0 h⟩
 ·exact⟨_,_,_,_,_,_,_,_,rfl,fun h=>(by rw[h0]at h;cases h),fun _=>rfl⟩
theorem bank_tail{w0 w w':World}{L M:List Acc}(h:Bank w0 w L)(h2:Bank w w' M):Bank w0 w' (L++M):=(bank_join h h2).permB List.perm_append_comm
theorem prd_of{w0 w:World}{L:List Acc}(h:Bank w0 w L){z:PV}(h1:z.regA∈L)(h2:z.byA∈L):PRd w z:=by
 obtain⟨q,hq⟩:=List.mem_iff_getElem?.1 h2;exact⟨regA_rd h h1,byA_rd h h2,h.rcap q hq⟩
theorem tyJump_ok(y:PV)(w:World)(hw:y.p.Wf)(hr:PRd w y):Calls Tryz.prog 137 #[PlV y] w (RuleT w none (some y.p)):=by
 have HC:=Hd (fun w' (h:PRd w' y)=>tyOwn_any y w' hw.rl hw.bl h.1 h.2.1);have HR:=Hd hr;clear hw hr;unfold PlV at HC ⊢;have BK0:=bk3 w [.bool true,.slice (some ⟨y.gr,0,none⟩) 11 y.cr,.slice (some ⟨y.gb,0,none⟩) 512 y.cb,.int .i64 y.p.least] 87 [.bool false,.slice none 0 0,.slice none 0 0,.int .i64 0] 87 [.bool false,.slice none 0 0,.slice none 0 0,.int .i64 0] 87;go_enter Tryz.func137,Tryz.ntmps137;go_upto_region 1 with fail;generalize w.heap.size=X at *;refine wp_hid BK0 (fun w1 BK0=>?_);obtain⟨p0,p1,p2,p3⟩:=BK0.o.q4 2 rfl;go_wp2_with fail;refine(HC.o _ (HR.o.since BK0.o.since)).mono ?_;rintro e w2 ⟨z,hz,rfl,hb⟩;have BK1:=Hd (bank_join BK0.o hb);have HZ:=Hd hz;clear hb hz BK0 p0 p1 p2 p3;unfold PlV;obtain⟨a0,a1,a2,a3,fa0,fa1,fa2,fa3⟩:=BK1.o.r4 3 rfl;obtain⟨b0,b1,b2,b3,fb0,fb1,fb2,fb3⟩:=BK1.o.r4 2 rfl;have BK2:=Hd ((((BK1.o.bs 3 0 (.bool false)).bs 3 1 (.slice none 0 0)).bs 3 2 (.slice none 0 0)).bs 3 3 (.int .i64 0));have BK3:=Hd ((((BK2.o.bs 2 0 (.bool true)).bs 2 1 (.slice (some ⟨z.gr,0,none⟩) 11 z.cr)).bs 2 2 (.slice (some ⟨z.gb,0,none⟩) 512 z.cb)).bs 2 3 (.int .i64 z.p.least));go_wp2;clear a0 a1 a2 a3 fa0 fa1 fa2 fa3 b0 b1 b2 b3 fb0 fb1 fb2 fb3;obtain⟨a0,a1,a2,a3⟩:=BK3.o.q4 3 rfl;obtain⟨b0,b1,b2,b3⟩:=BK3.o.q4 2 rfl;refine bodyPost_ret (v:=.tuple #[.agg #[.bool false,.slice none 0 0,.slice none 0 0,.int .i64 0],.agg #[.bool true,.slice (some ⟨z.gr,0,none⟩) 11 z.cr,.slice (some ⟨z.gb,0,none⟩) 512 z.cb,.int .i64 z.p.least],.nilIface]) ?_ rfl ⟨_,_,[],[z.regA,z.byA],rfl,BK3.o.sub (.cons_cons _ (.cons_cons _ (List.nil_sublist _))),.inl ⟨rfl,rfl,rfl⟩,.inr ⟨z,by rw[HZ.o],rfl,rfl⟩⟩;simp[results,Tryz.results137,go_sem,a0,a1,a2,a3,b0,b1,b2,b3]
set_option maxRecDepth 100000
set_option maxHeartbeats 2000000
theorem asks_ok(M:Nat)(m:T.Mc)(pk vd:Value)(A:Option Addr)(n c:Nat)(rs:List Nat)(w:World)(hok:Mok m)(hM:RdC w M (mcL m pk vd))(hl:rs.length=n)(hn:n<=100)
  (hA:∀(j r:Nat),rs[j]?=some r->∃b o,A=some ⟨b,o,none⟩/\w.cell? ⟨b,o+j,none⟩=some (.int .i64 (r:Int))) (hr:∀r∈rs,r<11/\(m.reg (r:Int)).1≠0) :
  Calls Tryz.prog 96 #[.pointer (some ⟨M,0,none⟩),.slice A n c] w fun e w'=>e=.returned (.int .i64 0)/\w'=w:=by
 have HM:=Hd hM;have HL:=Hd hl;have HA:=Hd hA;have HR:=Hd hr;clear hM hl hA hr;go_enter Tryz.func96,Tryz.ntmps96;go_wp2;go_loopw [6,9] (fun v i wr=>∃j:Nat,j<=n/\i=.int .i64 (j:Int)/\wr=w) (fun _ i _=>n-(intOf i).toNat)
 case atStart=>exact⟨0,Nat.zero_le _,rfl,rfl⟩
 case round =>
  obtain⟨j,hj,rfl,rfl⟩:=hrel;have j0:(0:Int)<=(j:Int):=by omega
  by_cases hlt:j<n
  ·have i1:(j:Int)<(n:Int):=by omega
   obtain⟨r,hr⟩:∃r,rs[j]?=some r:=⟨_,List.getElem?_eq_getElem (by have:=HL.o;omega)⟩
   obtain⟨b,o,rfl,hc⟩:=HA.o j r hr;obtain⟨r1,r2⟩:=HR.o r (List.mem_of_getElem? hr);have m0:=HM.o _ _ (mcL_reg hok pk vd r r1).1;have k0:(0:Int)<=(r:Int):=by omega
   have k1:(r:Int)<(11:Int):=by omega
   obtain⟨q,hq⟩:∃q,(m.reg (r:Int)).1=q:=⟨_,rfl⟩
   rw[hq]at m0 r2;have eq:(q==0)=false:=by simpa using r2
   clear hr hq r2;go_wp2;go_round
   case rel=>exact⟨j+1,by omega,by go_num,by first|rfl|trivial⟩
   case measure=>simp[intOf];omega
  ·have i1:¬(j:Int)<(n:Int):=by omega
   go_wp2;go_ret;exact⟨rfl,by first|rfl|trivial⟩
theorem frameErr_in{z:T.U}{i:T.Ins}(h:T.frameErr z i=0):0<=(z+T.wide i.off).toInt+512/\(z+T.wide i.off).toInt+512<=512-i.size:=by
 unfold T.frameErr at h;split at h
 ·cases h
 ·omega
theorem exFrame_ok(z:T.U)(i:T.Ins)(w:World)(h:T.frameErr z i=0)(hs:T.sized i.size=true):Calls Tryz.prog 100 #[W64 z,insV i] w (Ret w (.tuple #[.int .i64 ((z+T.wide i.off).toInt+512),.int .i64 0])):=by
 obtain⟨h1,h2⟩:=frameErr_in h;have h3:=T.sized_cases hs;obtain⟨K,hK⟩:∃K,(z+T.wide i.off).toInt+512=K:=⟨_,rfl⟩
 have hadd:∀t,binOp .add t (S64 (z+T.wide i.off)) (.int .i64 512)=pure (.int .i64 K):=fun t=>by
  have hw:IntKind.i64.wrap ((z+T.wide i.off).toInt+512)=K:=by rw[IntWalk.i64_in _ (by omega),hK]
  simp only[S64,binOp_add,Op.intArith,hw]
 rw[hK]at h1 h2 ⊢;have kw:IntKind.i64.wrap (512-i.size)=512-i.size:=IntWalk.i64_in _ (by omega);have hgt:¬K > 512-i.size:=by omega
 have hlt:¬K<0:=by omega
 have hcv:=fun w (y:BitVec 64)=>conv_W64_S64 (P:=Tryz.prog) (src:=39) (dst:=2) (w:=w) y Tryz.underlying39 Tryz.underlying2
 clear h hs h3 hK;unfold insV insL;have BK0:=Hd ((Bank.nil (Below.refl w.heap.size w)).bx [.int .u8 i.op,.bool i.narrow,.int .i64 i.dst,.int .i64 i.src,.bool i.useImm,.int .i64 i.off,.int .i64 i.imm,.int .i64 i.size] 55);go_enter Tryz.func100,Tryz.ntmps100;go_upto_region 1 with fail;generalize w.heap.size=X at *;refine wp_hid BK0 (fun w1 BK0=>?_);have i5:=BK0.o.cl 0 5;have i7:=BK0.o.cl 0 7;go_wp2_with fail;refine(aluWide_any w1 i.off).mono ?_;rintro e w2 ⟨rfl,rfl⟩;go_wp2
 go_ret2
 exact⟨rfl,BK0.o.since⟩
set_option maxRecDepth 100000
set_option maxHeartbeats 2000000
def ExP(w0:World)(M:Nat)(m:T.Mc)(pk vd:Value)(L:List Acc)(e:Ending)(w':World):Prop:=e=.returned (.int .i64 0)/\Bank w0 w' (boxAcc M 70 (mcL m pk vd)::L)
theorem exJump_ok{M:Nat}{m:T.Mc}{pk vd:Value}{w0 w:World}{L:List Acc}(i:T.Ins)(hB:Bank w0 w (boxAcc M 70 (mcL m pk vd)::L))(hok:Mok m)(h0:0<=i.off)(hb:(m.at':Int)+i.off<100000):Calls Tryz.prog 59 #[.pointer (some ⟨M,0,none⟩),insV i] w (ExP w0 M { m with at':=m.at'+i.off.toNat } pk vd L):=by
 obtain⟨t,ht⟩:∃t:Nat,i.off=(t:Int):=⟨i.off.toNat,by omega⟩
 have htn:i.off.toNat=t:=by rw[ht];rfl
 have kw:IntKind.i64.wrap ((m.at':Int)+(t:Int))=((m.at'+t:Nat):Int):=by rw[IntWalk.i64_in _ (by omega)];omega
 rw[htn];clear h0 hb htn;unfold insV insL;rw[ht];clear ht;have BK0:=Hd (hB.bx [.int .u8 i.op,.bool i.narrow,.int .i64 i.dst,.int .i64 i.src,.bool i.useImm,.int .i64 (t:Int),.int .i64 i.imm,.int .i64 i.size] 55);clear hB;go_enter Tryz.func59,Tryz.ntmps59;go_upto_region 1 with fail;generalize w.heap.size=X at *;refine wp_hid BK0 (fun w1 BK0=>?_);have m1:=BK0.o.cell 1 rfl 1047 (mcL_end hok pk vd 1);have f1:=BK0.o.free 1 rfl 1047;have i5:=BK0.o.cl 0 5;refine WL.begin 9 (fun w'=>w'.cell? ⟨M,1047,none⟩=some (.int .i64 (m.at':Int))/\w'.cell? ⟨X,5,none⟩=some (.int .i64 (t:Int))) (fun _=>True) (by kernel_rfl) ⟨m1,i5⟩ trivial (fun hs=>?_);refine WL.tk [(0,[]),(1,[]),(2,[]),(3,[3]),(4,[]),(5,[5]),(6,[]),(7,[]),(8,[])] hs ?_;clear hs
 iterate 9
  (first|refine WLp ?_ ?_ ?_|refine WLl ?_ ?_ ?_);rotate_left
  ·intro w hc;go_simp<;>rfl
  simp only[Act.put,sA,sZ,sS]
 refine TKs.mk ?_;intro hs;refine WLo 9 hs ?_;clear hs;intro K hK;go_simp;refine hK.o _ _ SaF ?_;clear hK K;intro hs;try simp only[Act.put]
 clear hs;refine WLd ?_ _;try simp only[Exit.then]
 have BK1:=Hd (BK0.o.bs 1 1047 (.int .i64 ((m.at'+t:Nat):Int))).drew;go_wp2;go_ret;refine⟨rfl,?_⟩;have h:=BK1.o.drop;rw[mcL_at hok]at h;exact h
theorem exExit_ok{M:Nat}{m:T.Mc}{pk vd:Value}{w0 w:World}{L:List Acc}(i:T.Ins)(hB:Bank w0 w (boxAcc M 70 (mcL m pk vd)::L))(hok:Mok m)(h0:(m.reg 0).1=1):Calls Tryz.prog 60 #[.pointer (some ⟨M,0,none⟩),insV i] w (ExP w0 M m pk (.pointer (some ⟨M,1,none⟩)) L):=by
 unfold insV insL;have BK0:=Hd (hB.bx [.int .u8 i.op,.bool i.narrow,.int .i64 i.dst,.int .i64 i.src,.bool i.useImm,.int .i64 i.off,.int .i64 i.imm,.int .i64 i.size] 55);clear hB;go_enter Tryz.func60,Tryz.ntmps60;go_upto_region 1 with fail;generalize w.heap.size=X at *;refine wp_hid BK0 (fun w1 BK0=>?_);have m0:=BK0.o.cell 1 rfl 0 (h0▸(mcL_reg hok pk vd 0 (by decide)).1);have f0:=BK0.o.free 1 rfl 1048;go_wp2_with fail;have BK1:=Hd (BK0.o.bx [.int .i64 0] 3);have n0:=(BK1.o.cl 0 0)
 have hM:=fun j v (hj:(mcL m pk vd)[j]?=some v)=>BK1.o.cell 2 rfl j hj
 generalize w1.heap.size=Y at *;generalize w1.alloc (.cells #[.int .i64 0] 3)=w2 at *;refine(asks_ok M m pk vd (some ⟨Y,0,none⟩) 1 1 [0] w2 hok (fun j v hj=>hM j v hj) rfl (by decide) (fun j r hr=>⟨Y,0,rfl,by cases j with|zero=>cases hr;exact n0|succ j=>cases hr⟩) (fun r hr=>by cases hr with|head=>exact⟨by decide,by rw[show((0:Nat):Int)=0 from rfl,h0];decide⟩|tail _ h=>cases h)).mono ?_;rintro e w3 ⟨rfl,rfl⟩;clear m0 f0;have m0:=BK1.o.cell 2 rfl 0 (h0▸(mcL_reg hok pk vd 0 (by decide)).1);have f0:=BK1.o.free 2 rfl 1048;have m8:=BK1.o.cell 2 rfl 1048 (mcL_end hok pk vd 2);have BK2:=Hd (BK1.o.bs 2 1048 (.pointer (some ⟨M,1,none⟩)));go_wp2;go_ret;refine⟨rfl,?_⟩;have h:=BK2.o.drop.drop;rw[mcL_vd hok]at h;exact h
theorem aluDo_ret(w:World)(op:Int)(nr:Bool)(a b:BitVec 64)(h:1<=op/\op<=13)(he:T.aerr op nr b=0):Calls Tryz.prog 97 #[.int .u8 op,.bool nr,W64 a,W64 b] w (Ret w (.tuple #[W64 (T.ado op nr a b),.int .i64 0])):=by
 have e:aluV op nr a b=T.ado op nr a b:=by
  unfold aluV T.ado T.aluR;unfold T.aerr at he;cases nr<;>simp_all
 have H:=aluDo_any w op nr a b h;rw[he,e]at H;exact H
theorem set_sameV{l:List Value}{j:Nat}{v:Value}(h:l[j]?=some v):l.set j v=l:=by
 obtain⟨hi,rfl⟩:=List.getElem?_eq_some_iff.1 h;exact List.set_getElem_self hi
theorem mcL_put1{m:T.Mc}(hok:Mok m)(pk vd:Value)(r:Nat)(hr:r<11)(v:Int×T.U)(hv:(m.reg (r:Int)).1=v.1):(mcL m pk vd).set (r*2+1) (W64 v.2)=mcL (m.put (r:Int) v) pk vd:=by
 rw[<-mcL_put hok pk vd r hr v,set_sameV (j:=r*2) (v:=.int .u8 v.1) (hv▸(mcL_reg hok pk vd r hr).1)]
theorem exTurn_ok{M:Nat}{m:T.Mc}{pk vd:Value}{w0 w:World}{L:List Acc}(i:T.Ins)(hB:Bank w0 w (boxAcc M 70 (mcL m pk vd)::L))(hok:Mok m)(hd:0<=i.dst/\i.dst<=10)(ho:i.op=13)(h0:(m.reg i.dst).1=1):Calls Tryz.prog 56 #[.pointer (some ⟨M,0,none⟩),insV i] w (ExP w0 M (m.put i.dst (1,T.ado 13 i.narrow (m.reg i.dst).2 0)) pk vd L):=by
 obtain⟨op,nr,dst,src,u,off,imm,size⟩:=i;obtain⟨s,rfl⟩:=Int.eq_ofNat_of_zero_le hd.1;have s1:s<11:=by have:=hd.2;simp only at this;omega
 have j0:(0:Int)<=(s:Int):=by omega
 have j1:(s:Int)<(11:Int):=by omega
 clear hd;simp only at h0 ho ⊢;subst ho;obtain⟨z,hz⟩:∃z,(m.reg (s:Int)).2=z:=⟨_,rfl⟩
 rw[hz];unfold insV insL;have BK0:=Hd (hB.bx [.int .u8 13,.bool nr,.int .i64 (s:Int),.int .i64 src,.bool u,.int .i64 off,.int .i64 imm,.int .i64 size] 55);clear hB;go_enter Tryz.func56,Tryz.ntmps56;go_upto_region 1 with fail;generalize w.heap.size=X at *;refine wp_hid BK0 (fun w1 BK0=>?_);have i2:=BK0.o.cl 0 2;go_wp2_with fail;have BK1:=Hd (BK0.o.bx [.int .i64 (s:Int)] 3);have n0:=(BK1.o.cl 0 0)
 have hM:=fun j v (hj:(mcL m pk vd)[j]?=some v)=>BK1.o.cell 2 rfl j hj
 generalize w1.heap.size=Y at *;generalize w1.alloc (.cells #[.int .i64 (s:Int)] 3)=w2 at *;refine(asks_ok M m pk vd (some ⟨Y,0,none⟩) 1 1 [s] w2 hok (fun j v hj=>hM j v hj) rfl (by decide) (fun j r hr=>⟨Y,0,rfl,by cases j with|zero=>cases hr;exact n0|succ j=>cases hr⟩) (fun r hr=>by cases hr with|head=>exact⟨s1,by rw[h0];decide⟩|tail _ h=>cases h)).mono ?_;rintro e w3 ⟨rfl,rfl⟩;clear i2 n0 hM;have m0:=BK1.o.cell 2 rfl (s*2) (h0▸(mcL_reg hok pk vd s s1).1);have m1:=BK1.o.cell 2 rfl (s*2+1) (hz▸(mcL_reg hok pk vd s s1).2);have f1:=BK1.o.free 2 rfl (s*2+1);obtain⟨i0,i1,i2⟩:=BK1.o.q3 1 rfl;go_wp2_with fail;refine WL.begin 99 (fun _=>True) (fun w'=>w'.cell? ⟨X,2,none⟩=some (.int .i64 (s:Int))) (by kernel_rfl) trivial i2 (fun hs=>?_);refine WL.tk [(0,[]),(1,[]),(2,[]),(3,[]),(4,[]),(5,[]),(6,[])] hs ?_;clear hs
 iterate 7
  (first|refine WLp ?_ ?_ ?_|refine WLl ?_ ?_ ?_);rotate_left
  ·intro w hc;go_simp<;>rfl
  simp only[Act.put,sA,sZ,sS]
 refine TKs.mk ?_;intro hs;clear hs;refine WLd ?_ _;try simp only[Exit.then]
 have BK1:=Hd BK1.o.drew;generalize w3.drew=w4 at *;clear m0 m1 f1 i0 i1 i2;have m0:=BK1.o.cell 2 rfl (s*2) (h0▸(mcL_reg hok pk vd s s1).1);have m1:=BK1.o.cell 2 rfl (s*2+1) (hz▸(mcL_reg hok pk vd s s1).2);have f1:=BK1.o.free 2 rfl (s*2+1);obtain⟨i0,i1⟩:=BK1.o.q2 1 rfl;go_wp2_with fail;have BK1:=Hd BK1.o.drew;refine WL.begin 8 (fun w'=>w'.cell? ⟨X,0,none⟩=some (.int .u8 13)/\w'.cell? ⟨X,1,none⟩=some (.bool nr)/\w'.cell? ⟨M,s*2+1,none⟩=some (W64 z)) (fun _=>True) (by kernel_rfl) ⟨i0,i1,m1⟩ trivial (fun hs=>?_);generalize w4.drew=w5 at *;refine WL.tk [(0,[]),(1,[1]),(2,[]),(3,[3]),(4,[]),(5,[]),(6,[]),(7,[7])] hs ?_;clear hs
 iterate 8
  (first|refine WLp ?_ ?_ ?_|refine WLl ?_ ?_ ?_);rotate_left
  ·intro w hc;go_simp<;>rfl
  simp only[Act.put,sA,sZ,sS]
 refine TKs.mk ?_;intro hs;refine WLo 8 hs ?_;clear hs;intro K hK;go_simp;refine(aluDo_ret _ 13 nr z 0 (by decide) (by unfold T.aerr;cases nr<;>rfl)).mono ?_;rintro e wk ⟨rfl,hs⟩;have BK2:=Hd (BK1.o.call hs);clear hs;refine hK.o _ _ SaF ?_;clear hK K;intro hs;try simp only[Act.put,sA,sZ,sS]
 refine WL.tk [(9,[]),(10,[]),(11,[]),(12,[]),(13,[])] hs ?_;clear hs
 iterate 5
  (first|refine WLp ?_ ?_ ?_|refine WLl ?_ ?_ ?_);rotate_left
  ·intro w hc;go_simp<;>rfl
  simp only[Act.put,sA,sZ,sS]
 refine TKs.mk ?_;intro hs;clear hs;refine WLd ?_ _;try simp only[Exit.then]
 clear m0 m1 f1 i0 i1;try generalize wk.drew=wz at *
 have m1:=BK2.o.cell 2 rfl (s*2+1) (hz▸(mcL_reg hok pk vd s s1).2);have f1:=BK2.o.free 2 rfl (s*2+1);have BK3:=Hd (BK2.o.boxSet 2 rfl (s*2+1) (W64 (T.ado 13 nr z 0)));go_wp2;rw[run_storeCells_W64];go_simp;go_wp2;go_ret;refine⟨rfl,?_⟩;have h:=BK3.o.drop.drop;rw[mcL_put1 hok pk vd s s1 (1,T.ado 13 nr z 0) h0]at h;exact h
theorem step_append_grows{P:Program}{ops:Array Oper}{o:Oper}{a:Act}{w:World}{K:Act->World->Prop}{Q:Exit->Act->World->Prop}{E:Prop}(hgd:o.guard=Option.none)(s y:Operand)(t:TypeId)
  (ho:o.op=.call { callee:=.builtin .append,args:=#[s,y],argTypes:=#[t,t] })
  (e:TypeId) (z:Value) (size bytes:Nat) (hz:(P.info? e).map (fun i=>(i.zero,i.size,i.bytes))=some (some z,size,bytes)) (ht:P.underlying t=some (.slice e)) (hzs:z.cells.size=size) (hsz:0<size)
  (ao:Option Addr) (k:Nat) (olds:List Value) (hs:a.eval s=.slice ao k k) (hnone:ao=Option.none->k=0) (hlo:olds.length=k*size) (holds:∀b,ao=some b->∀j u,olds[j]?=some u->w.cell? (b.add j)=some u)
  (ad:Addr) (m c:Nat) (news:List Value) (hx:a.eval y=.slice (some ad) m c) (hl:news.length=m*size) (hnews:∀j u,news[j]?=some u->w.cell? (ad.add j)=some u) (h1:∀u∈news,u.oneCell'=true)
  (hm:0<m) (h63:k+m<=maxLen) (hbytes:(k+m)*bytes<=140737488355328)
  (hK:∀A' n' c' w',n'=k+m->w'.ownsRow w.heap.size e size (.slice A' n' c') n' (olds++news)->Below w.heap.size w w'->K (a.put o.dst (.slice A' n' c')) w') :
  if Region.wanted o (yielded ops a.tmps)=true then Oper.wp P o a w K Q else E:=by
 have hw:Region.wanted o (yielded ops a.tmps)=true:=by simp[Region.wanted,hgd]
 rw[if_pos hw];obtain⟨i0,hi,hz0,hz1,hz2⟩:=info_parts hz
 have key:∃v' w',(Builtin.append_ #[t,t] o.type #[.slice ao k k,.slice (some ad) m c]).run P w=.ok v' w'/\w'.ownsRow w.heap.size e size v' (k+m) (olds++news)/\w.grownBy w' Option.none:=by
  cases ao with
  | some b=>exact run_append_arg_grows (P:=P) w t o.type e i0 z size bytes ht hi hz0 hz1 hz2 hzs hsz b k k olds hlo (holds b rfl) ad m c news hl hnews (by omega) h63 hbytes
  | none =>
    obtain rfl:=hnone rfl;obtain rfl:olds=[]:=List.eq_nil_of_length_eq_zero (by simpa using hlo);obtain⟨v',w',hrun,r1,r2,_⟩:=run_append_own (P:=P) w w.heap.size t o.type e i0 z size bytes ht hi hz0 hz1 hz2 hzs hsz (.slice Option.none 0 0) 0 [] (World.ownsRow_nil w _ e size) ad m c news hl hnews h1 h63 hbytes (Nat.le_refl _);exact⟨v',w',hrun,r1,r2⟩
 obtain⟨v',w',hrun,r1,r2⟩:=key;obtain⟨A',c',rfl⟩:=row_slice r1;unfold Oper.wp execOp;simp only[ho,resolve,invoke,builtin,Sem.run_bind,Sem.run_pure,Result.andThen_ok,List.map_toArray,List.map_cons,List.map_nil,hs,hx,hrun];exact hK A' _ c' w' rfl r1 ⟨r2.os,r2.tape,r2.output,r2.size,fun k hk=>r2.block k hk (by simp)⟩
end Go.Proofs.YtfeipbgnjainlaaGreatDoor.K
