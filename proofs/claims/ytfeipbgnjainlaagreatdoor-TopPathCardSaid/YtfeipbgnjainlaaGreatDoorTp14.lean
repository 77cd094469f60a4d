/- TSpE, TStF, TSpF, TSpO -/
import Derived.Test.YtfeipbgnjainlaaGreatDoorTp10
import Derived.Test.YtfeipbgnjainlaaGreatDoorTp4
import Derived.Test.YtfeipbgnjainlaaGreatDoorTp2
import Derived.Test.YtfeipbgnjainlaaGreatDoorTp13
import Derived.Deep.DeepCutAuto
import Derived.Laws.Pointers
import Derived.Test.YtfeipbgnjainlaaGreatDoorTp12
set_option linter.unusedVariables false
set_option linter.unusedSimpArgs false
set_option maxRecDepth 100000
set_option maxHeartbeats 4000000
namespace Go.Proofs.YtfeipbgnjainlaaGreatDoor.K
open Go Go.RowKit Go.Maps Go.Sort
def ruleL:List (Int×Value):=[(1,fnC 247 #[]),(2,fnC 248 #[]),(3,fnC 249 #[]),(4,fnC 250 #[]),(5,fnC 251 #[]),(6,fnC 252 #[]),(7,fnC 253 #[]),(8,fnC 254 #[]),(9,fnC 255 #[]),(10,fnC 256 #[]),(11,fnC 257 #[]),(12,fnC 258 #[]),(13,fnC 259 #[])]
theorem rules_any(w:World):Calls Tryz.prog 230 #[] w fun e w'=>e=.returned (.map (some w.heap.size))/\w'=w.alloc (.map (mes ruleL) 13):=by
 have ht:=Tryz.underlying280;have hk:=Tryz.underlying53;obtain⟨v1,hv1⟩:∃v,v=fnC 247 #[]:=⟨_,rfl⟩
 obtain⟨v2,hv2⟩:∃v,v=fnC 248 #[]:=⟨_,rfl⟩
 obtain⟨v3,hv3⟩:∃v,v=fnC 249 #[]:=⟨_,rfl⟩
 obtain⟨v4,hv4⟩:∃v,v=fnC 250 #[]:=⟨_,rfl⟩
 obtain⟨v5,hv5⟩:∃v,v=fnC 251 #[]:=⟨_,rfl⟩
 obtain⟨v6,hv6⟩:∃v,v=fnC 252 #[]:=⟨_,rfl⟩
 obtain⟨v7,hv7⟩:∃v,v=fnC 253 #[]:=⟨_,rfl⟩
 obtain⟨v8,hv8⟩:∃v,v=fnC 254 #[]:=⟨_,rfl⟩
 obtain⟨v9,hv9⟩:∃v,v=fnC 255 #[]:=⟨_,rfl⟩
 obtain⟨v10,hv10⟩:∃v,v=fnC 256 #[]:=⟨_,rfl⟩
 obtain⟨v11,hv11⟩:∃v,v=fnC 257 #[]:=⟨_,rfl⟩
 obtain⟨v12,hv12⟩:∃v,v=fnC 258 #[]:=⟨_,rfl⟩
 obtain⟨v13,hv13⟩:∃v,v=fnC 259 #[]:=⟨_,rfl⟩
 have p1:=put_mes ht hk w [] 1 v1 (by decide) (by decide) (by simp);have p2:=put_mes ht hk w [(1,v1)] 2 v2 (by decide) (by decide) (by simp);have p3:=put_mes ht hk w [(1,v1),(2,v2)] 3 v3 (by decide) (by decide) (by simp);have p4:=put_mes ht hk w [(1,v1),(2,v2),(3,v3)] 4 v4 (by decide) (by decide) (by simp);have p5:=put_mes ht hk w [(1,v1),(2,v2),(3,v3),(4,v4)] 5 v5 (by decide) (by decide) (by simp);have p6:=put_mes ht hk w [(1,v1),(2,v2),(3,v3),(4,v4),(5,v5)] 6 v6 (by decide) (by decide) (by simp);have p7:=put_mes ht hk w [(1,v1),(2,v2),(3,v3),(4,v4),(5,v5),(6,v6)] 7 v7 (by decide) (by decide) (by simp);have p8:=put_mes ht hk w [(1,v1),(2,v2),(3,v3),(4,v4),(5,v5),(6,v6),(7,v7)] 8 v8 (by decide) (by decide) (by simp);have p9:=put_mes ht hk w [(1,v1),(2,v2),(3,v3),(4,v4),(5,v5),(6,v6),(7,v7),(8,v8)] 9 v9 (by decide) (by decide) (by simp);have p10:=put_mes ht hk w [(1,v1),(2,v2),(3,v3),(4,v4),(5,v5),(6,v6),(7,v7),(8,v8),(9,v9)] 10 v10 (by decide) (by decide) (by simp);have p11:=put_mes ht hk w [(1,v1),(2,v2),(3,v3),(4,v4),(5,v5),(6,v6),(7,v7),(8,v8),(9,v9),(10,v10)] 11 v11 (by decide) (by decide) (by simp);have p12:=put_mes ht hk w [(1,v1),(2,v2),(3,v3),(4,v4),(5,v5),(6,v6),(7,v7),(8,v8),(9,v9),(10,v10),(11,v11)] 12 v12 (by decide) (by decide) (by simp);have p13:=put_mes ht hk w [(1,v1),(2,v2),(3,v3),(4,v4),(5,v5),(6,v6),(7,v7),(8,v8),(9,v9),(10,v10),(11,v11),(12,v12)] 13 v13 (by decide) (by decide) (by simp);simp only[List.cons_append,List.nil_append,List.length_cons,List.length_nil,Nat.reduceAdd]at p1 p2 p3 p4 p5 p6 p7 p8 p9 p10 p11 p12 p13;have HF:Hid (ruleL=[(1,v1),(2,v2),(3,v3),(4,v4),(5,v5),(6,v6),(7,v7),(8,v8),(9,v9),(10,v10),(11,v11),(12,v12),(13,v13)]):=Hd (by unfold ruleL;subst hv1 hv2 hv3 hv4 hv5 hv6 hv7 hv8 hv9 hv10 hv11 hv12 hv13;rfl);have e0:mes [] = #[]:=rfl;rw[e0]at p1;clear e0;generalize hE1:mes [(1,v1)]=E1 at p1 p2;clear hE1;generalize hE2:mes [(1,v1),(2,v2)]=E2 at p2 p3;clear hE2;generalize hE3:mes [(1,v1),(2,v2),(3,v3)]=E3 at p3 p4;clear hE3;generalize hE4:mes [(1,v1),(2,v2),(3,v3),(4,v4)]=E4 at p4 p5;clear hE4;generalize hE5:mes [(1,v1),(2,v2),(3,v3),(4,v4),(5,v5)]=E5 at p5 p6;clear hE5;generalize hE6:mes [(1,v1),(2,v2),(3,v3),(4,v4),(5,v5),(6,v6)]=E6 at p6 p7;clear hE6;generalize hE7:mes [(1,v1),(2,v2),(3,v3),(4,v4),(5,v5),(6,v6),(7,v7)]=E7 at p7 p8;clear hE7;generalize hE8:mes [(1,v1),(2,v2),(3,v3),(4,v4),(5,v5),(6,v6),(7,v7),(8,v8)]=E8 at p8 p9;clear hE8;generalize hE9:mes [(1,v1),(2,v2),(3,v3),(4,v4),(5,v5),(6,v6),(7,v7),(8,v8),(9,v9)]=E9 at p9 p10;clear hE9;generalize hE10:mes [(1,v1),(2,v2),(3,v3),(4,v4),(5,v5),(6,v6),(7,v7),(8,v8),(9,v9),(10,v10)]=E10 at p10 p11;clear hE10;generalize hE11:mes [(1,v1),(2,v2),(3,v3),(4,v4),(5,v5),(6,v6),(7,v7),(8,v8),(9,v9),(10,v10),(11,v11)]=E11 at p11 p12;clear hE11;generalize hE12:mes [(1,v1),(2,v2),(3,v3),(4,v4),(5,v5),(6,v6),(7,v7),(8,v8),(9,v9),(10,v10),(11,v11),(12,v12)]=E12 at p12 p13;clear hE12;generalize hE13:mes [(1,v1),(2,v2),(3,v3),(4,v4),(5,v5),(6,v6),(7,v7),(8,v8),(9,v9),(10,v10),(11,v11),(12,v12),(13,v13)]=E13 at p13;have HE:=Hd hE13;clear hE13;subst hv1;subst hv2;subst hv3;subst hv4;subst hv5;subst hv6;subst hv7;subst hv8;subst hv9;subst hv10;subst hv11;subst hv12;subst hv13;unfold fnC at p1 p2 p3 p4 p5 p6 p7 p8 p9 p10 p11 p12 p13;have hmm:=run_makeMap (P:=Tryz.prog) 280 w;clear ht hk;go_enter Tryz.func230,Tryz.ntmps230;go_wp2;go_ret;exact⟨rfl,by rw[HF.o,<-HE.o]⟩
theorem rule_of(op:Int)(h:1<=op/\op<=13):∃f,(op,fnC f #[])∈ruleL/\(∀args w,(callFunc f args).run Tryz.prog w=.ok (.enter f args) w)/\∀(x:T.Wk) (w:World),Calls Tryz.prog f #[wkv x] w (RuleP w (x.rule op)):=by
 have hc:op=1\/op=2\/op=3\/op=4\/op=5\/op=6\/op=7\/op=8\/op=9\/op=10\/op=11\/op=12\/op=13:=by omega
 rcases hc with rfl|rfl|rfl|rfl|rfl|rfl|rfl|rfl|rfl|rfl|rfl|rfl|rfl
 ·exact⟨247,by simp[ruleL],fun _ _=>by kernel_rfl,fun x w=>wadd_any x w⟩
 ·exact⟨248,by simp[ruleL],fun _ _=>by kernel_rfl,fun x w=>wsub_any x w⟩
 ·exact⟨249,by simp[ruleL],fun _ _=>by kernel_rfl,fun x w=>wmul_any x w⟩
 ·exact⟨250,by simp[ruleL],fun _ _=>by kernel_rfl,fun x w=>wdiv_any x w⟩
 ·exact⟨251,by simp[ruleL],fun _ _=>by kernel_rfl,fun x w=>wmod_any x w⟩
 ·exact⟨252,by simp[ruleL],fun _ _=>by kernel_rfl,fun x w=>wand_any x w⟩
 ·exact⟨253,by simp[ruleL],fun _ _=>by kernel_rfl,fun x w=>wor_any x w⟩
 ·exact⟨254,by simp[ruleL],fun _ _=>by kernel_rfl,fun x w=>wxor_any x w⟩
 ·exact⟨255,by simp[ruleL],fun _ _=>by kernel_rfl,fun x w=>wshl_any x w⟩
 ·exact⟨256,by simp[ruleL],fun _ _=>by kernel_rfl,fun x w=>wshr_any x w⟩
 ·exact⟨257,by simp[ruleL],fun _ _=>by kernel_rfl,fun x w=>wsar_any x w⟩
 ·exact⟨258,by simp[ruleL],fun _ _=>by kernel_rfl,fun x w=>wmov_any x w⟩
 ·exact⟨259,by simp[ruleL],fun _ _=>by kernel_rfl,fun x w=>wneg_any x w⟩
theorem tmps18(a b x:Value):(#[a,b]++((Array.replicate 16 undef).setIfInBounds 3 x).setIfInBounds 0 x) = #[a,b,x,undef,undef,x,undef,undef,undef,undef,undef,undef,undef,undef,undef,undef,undef,undef]:=by
 apply Array.toList_inj.1;simp[List.replicate]
theorem catchS_idle(p q:Addr)(w:World):
  CallsD Tryz.prog 231 #[.pointer (some p),.pointer (some q)] .returning w fun e u' w'=>e=.returned (.tuple #[])/\u'=.returning/\w'=w:=by
 refine callsD_of_wpS Tryz.func231 rfl fun c₀ cs hu=>?_
 apply wpS_seq;apply wpS_region;simp[wpOpsS,go_sem,recoverD,hu,Tryz.ntmps231,Exit.thenS];refine wpS_of_wp ?_;rw[tmps18];go_wp2;cases c₀
 simp_all [bodyPostS,results,Tryz.results231]
theorem spAll_agg(b:Bool)(w:World):Calls Tryz.prog 229 #[.bool b] w (Ret w (.agg #[W64 (T.Sp.all b).lo,W64 (T.Sp.all b).hi])):=spAll_any b w
theorem catchS_panicking(B R:Nat)(nr:Bool)(u v:Value)(w:World)(hb:w.cell? ⟨B,0,none⟩=some (.bool nr))(hr:w.heap[R]?=some (.cells #[u,v] 122 (0,0))):
  CallsD Tryz.prog 231 #[.pointer (some ⟨B,0,none⟩),.pointer (some ⟨R,0,none⟩)] (.panicking nothingP) w fun e u' w' =>
   e=.returned (.tuple #[])/\u'=.panicking [{ v:=.iface 226 (.agg #[]),recovered:=true }]/\∃w1,Since w w1/\w'=(w1.setCell ⟨R,0,none⟩ (W64 (T.Sp.all nr).lo)).setCell ⟨R,1,none⟩ (W64 (T.Sp.all nr).hi):=by
 have hta:∀w,(Instr.typeAssert (.iface 226 (.agg #[])) 20 226 true).run Tryz.prog w=.ok (.tuple #[.agg #[],.bool true]) w:=fun _=>by kernel_rfl
 have S1:=Hd (Since.alloc (Below.refl w.heap.size w) (.cells #[] 226));have hbc:=cell_old (.cells #[] 226) hb;have hrw:=Hd (S1.o.at hr);refine callsD_of_wpS Tryz.func231 rfl fun c₀ cs hu=>?_
 unfold nothingP at hu;clear hb hr;apply wpS_seq;apply wpS_region;simp[wpOpsS,go_sem,recoverD,hu,Tryz.ntmps231,Exit.thenS];refine wpS_of_wp ?_;rw[tmps18];go_wp2_with fail;generalize w.alloc (.cells #[] 226)=w1 at *;refine(spAll_agg nr w1).mono ?_;rintro e w2 ⟨rfl,hs⟩;have h2:=hs.at hrw.o;have d0:w2.cell? ⟨R,0,none⟩=some u:=block_cell (xs:=[u,v]) h2 rfl;have d1:w2.cell? ⟨R,1,none⟩=some v:=block_cell (xs:=[u,v]) h2 rfl;have f0:w2.frozen? ⟨R,0,none⟩=false:=frozen_of_row w2 R 0 _ _ h2;have f1:w2.frozen? ⟨R,1,none⟩=false:=frozen_of_row w2 R 1 _ _ h2;have S2:=Hd (S1.o.add hs);clear hs h2 hrw S1 hbc hta;go_wp2;cases c₀
 have HS:=S2.o
 simp_all [bodyPostS,results,Tryz.results231]
 exact⟨w2,HS,rfl⟩
theorem spRight_agg(lo hi:BitVec 64)(w:World):Calls Tryz.prog 132 #[.agg #[W64 lo,W64 hi]] w (Ret w (.bool (T.Sp.right ⟨lo,hi⟩))):=spRight_any ⟨lo,hi⟩ w
theorem do_cells{w w':World}{nr:Bool}{X Y Z R:Nat}{lo hi lo2 hi2:BitVec 64}{u v:Value}(h:Bank w w' [boxAcc R 122 [u,v],boxAcc Z 122 [W64 lo2,W64 hi2],boxAcc Y 122 [W64 lo,W64 hi],boxAcc X 4 [.bool nr]]):
  w'.cell? ⟨X,0,none⟩=some (.bool nr)/\w'.cell? ⟨Y,0,none⟩=some (W64 lo)/\w'.cell? ⟨Y,1,none⟩=some (W64 hi)/\w'.cell? ⟨Z,0,none⟩=some (W64 lo2)/\w'.cell? ⟨Z,1,none⟩=some (W64 hi2) /\
  w'.cell? ⟨R,0,none⟩=some u/\w'.cell? ⟨R,1,none⟩=some v/\w'.frozen? ⟨R,0,none⟩=false/\w'.frozen? ⟨R,1,none⟩=false :=
 ⟨h.cl 3 0,h.cl 2 0,h.cl 2 1,h.cl 1 0,h.cl 1 1,h.cl 0 0,h.cl 0 1,h.free 0 rfl 0,h.free 0 rfl 1⟩
theorem do_since{w w':World}{g:Nat}{t:TypeId}{L:List Acc}{u v:Value}(h:Bank w w' (boxAcc g t [u,v]::L))(a b:Value):Bank w ((w'.setCell ⟨g,0,none⟩ a).setCell ⟨g,1,none⟩ b) (boxAcc g t [a,b]::L):=(h.bs 0 0 a).bs 0 1 b
theorem spover_agg(nr:Bool)(lo hi lo2 hi2:BitVec 64)(w:World):Calls Tryz.prog 170 #[.bool nr,.agg #[W64 lo,W64 hi],.agg #[W64 lo2,W64 hi2]] w (Ret w (wkv (T.Wk.over nr ⟨lo,hi⟩ ⟨lo2,hi2⟩))):=spover_any nr ⟨lo,hi⟩ ⟨lo2,hi2⟩ w
theorem spDo_any(op:Int)(nr:Bool)(s t:T.Sp)(w:World)(hop:1<=op/\op<=13):Calls Tryz.prog 168 #[.int .u8 op,.bool nr,spv s,spv t] w (Ret w (spv (T.sdo op nr s t))):=by
 have hmf:=hmfT;obtain⟨lo,hi⟩:=s;obtain⟨lo2,hi2⟩:=t;have HOP:=Hd hop;obtain⟨fr,hmem,hcf,hrule⟩:=rule_of op hop;have HR:=Hd hrule;clear hrule hop;unfold spv;have BK:=bk4 w [.bool nr] 4 [W64 lo,W64 hi] 122 [W64 lo2,W64 hi2] 122 [W64 0#64,W64 0#64] 122
 go_enter_defers Tryz.func168,Tryz.ntmps168
 go_upto_region 1 with fail;generalize w.heap.size=X at *;refine wp_hid BK (fun w1 BK=>?_);go_wp2_with fail;refine(rules_any w1).mono ?_;rintro e w2 ⟨rfl,rfl⟩;have hl:=look_mes Tryz.underlying280 Tryz.underlying53 (heap_alloc_new w1 (.map (mes ruleL) 13)) op (fnC fr #[]) (by have:=HOP.o;omega) (by have:=HOP.o;omega) hmem (by simp[ruleL]);unfold fnC at hl;have BK2:=Hd (BK.o.alloc (.map (mes ruleL) 13));clear BK hmem;generalize w1.alloc (.map (mes ruleL) 13)=w2 at *;obtain⟨c0,c1,c2,c3,c4,d0,d1,f0,f1⟩:=do_cells BK2.o;go_wp2_with fail;refine(spRight_agg lo hi _).mono ?_;rintro e w3 ⟨rfl,hs⟩;have BK3:=Hd (BK2.o.call hs);clear c0 c1 c2 c3 c4 d0 d1 f0 f1;clear hs BK2;obtain⟨c0,c1,c2,c3,c4,d0,d1,f0,f1⟩:=do_cells BK3.o;clear hl;cases hq:T.Sp.right ⟨lo,hi⟩
 case false =>
  go_wp2_with fail;refine(spAll_agg nr _).mono ?_;rintro e w4 ⟨rfl,hs⟩;have BK4:=Hd (BK3.o.call hs);clear c0 c1 c2 c3 c4 d0 d1 f0 f1;clear hs BK3;obtain⟨c0,c1,c2,c3,c4,d0,d1,f0,f1⟩:=do_cells BK4.o;have HFIN:=Hd (do_since BK4.o (W64 (T.Sp.all nr).lo) (W64 (T.Sp.all nr).hi));have HSD:=Hd (show T.sdo op nr ⟨lo,hi⟩ ⟨lo2,hi2⟩=T.Sp.all nr by unfold T.sdo;exact if_neg (fun e=>Bool.noConfusion (hq.symm.trans e.2.1)));go_wp2;obtain⟨r0,r1⟩:=HFIN.o.q2 0 rfl;exact⟨.agg #[W64 (T.Sp.all nr).lo,W64 (T.Sp.all nr).hi],by simp[results,Tryz.results168,go_sem,r0,r1],⟨by rw[HSD.o],HFIN.o.since⟩⟩
 case true =>
  go_wp2_with fail;refine(spRight_agg lo2 hi2 _).mono ?_;rintro e w4 ⟨rfl,hs⟩;have BK4:=Hd (BK3.o.call hs);clear c0 c1 c2 c3 c4 d0 d1 f0 f1;clear hs BK3;obtain⟨c0,c1,c2,c3,c4,d0,d1,f0,f1⟩:=do_cells BK4.o;cases hq2:T.Sp.right ⟨lo2,hi2⟩
  case false =>
   have HSD:=Hd (show T.sdo op nr ⟨lo,hi⟩ ⟨lo2,hi2⟩=T.Sp.all nr by unfold T.sdo;exact if_neg (fun e=>Bool.noConfusion (hq2.symm.trans e.2.2)));go_wp2_with fail;refine(spAll_agg nr _).mono ?_;rintro e w5 ⟨rfl,hs⟩;have BK5:=Hd (BK4.o.call hs);clear c0 c1 c2 c3 c4 d0 d1 f0 f1;clear hs BK4;obtain⟨c0,c1,c2,c3,c4,d0,d1,f0,f1⟩:=do_cells BK5.o;have HFIN:=Hd (do_since BK5.o (W64 (T.Sp.all nr).lo) (W64 (T.Sp.all nr).hi));go_wp2;obtain⟨r0,r1⟩:=HFIN.o.q2 0 rfl;exact⟨.agg #[W64 (T.Sp.all nr).lo,W64 (T.Sp.all nr).hi],by simp[results,Tryz.results168,go_sem,r0,r1],⟨by rw[HSD.o],HFIN.o.since⟩⟩
  case true =>
   have HSD:=Hd (show T.sdo op nr ⟨lo,hi⟩ ⟨lo2,hi2⟩=((T.Wk.over nr ⟨lo,hi⟩ ⟨lo2,hi2⟩).rule op).getD (T.Sp.all nr)by unfold T.sdo;exact if_pos ⟨HOP.o,hq,hq2⟩);go_wp2_with fail;refine(spover_agg nr lo hi lo2 hi2 _).mono ?_;rintro e w5 ⟨rfl,hs⟩;have BK5:=Hd (BK4.o.call hs);clear c0 c1 c2 c3 c4 d0 d1 f0 f1;clear hs BK4;obtain⟨c0,c1,c2,c3,c4,d0,d1,f0,f1⟩:=do_cells BK5.o;go_wp2_with fail;refine(HR.o (T.Wk.over nr ⟨lo,hi⟩ ⟨lo2,hi2⟩) _).mono ?_;rintro e w6 (⟨r,hr,rfl,hs⟩|⟨hr,rfl,hs⟩)
   case inl =>
    have HRR:=Hd hr;clear hr;have BK6:=Hd (BK5.o.call hs);clear c0 c1 c2 c3 c4 d0 d1 f0 f1;clear hs BK5;obtain⟨c0,c1,c2,c3,c4,d0,d1,f0,f1⟩:=do_cells BK6.o;have HFIN:=Hd (do_since BK6.o (W64 r.lo) (W64 r.hi));unfold spv;go_wp2;refine leaves_cons (f:=231) (args:=#[.pointer (some ⟨X,0,none⟩),.pointer (some ⟨X+1+1+1,0,none⟩)]) (by simp) (by simp[go_sem]) ?_;refine(catchS_idle _ _ _).mono ?_;rintro e u' w'' ⟨rfl,rfl,rfl⟩;obtain⟨r0,r1⟩:=HFIN.o.q2 0 rfl;exact⟨.agg #[W64 r.lo,W64 r.hi],by simp[results,Tryz.results168,go_sem,r0,r1],⟨by rw[HSD.o,HRR.o];rfl,HFIN.o.since⟩⟩
   case inr =>
    have HRR:=Hd hr;clear hr;have BK6:=Hd (BK5.o.call hs);clear c0 c1 c2 c3 c4 d0 d1 f0 f1;clear hs BK5;obtain⟨c0,c1,c2,c3,c4,d0,d1,f0,f1⟩:=do_cells BK6.o;have hrow:=Hd (BK6.o.boxAt 0 rfl).2;go_wp2;refine leaves_cons (f:=231) (args:=#[.pointer (some ⟨X,0,none⟩),.pointer (some ⟨X+1+1+1,0,none⟩)]) (by simp) (by simp[go_sem]) ?_;refine(catchS_panicking _ _ nr _ _ _ c0 hrow.o).mono ?_;rintro e u' w'' ⟨rfl,rfl,w7,hs,rfl⟩;have HFIN:=Hd (do_since (BK6.o.call hs) (W64 (T.Sp.all nr).lo) (W64 (T.Sp.all nr).hi));obtain⟨r0,r1⟩:=HFIN.o.q2 0 rfl;exact⟨.agg #[W64 (T.Sp.all nr).lo,W64 (T.Sp.all nr).hi],by simp[results,Tryz.results168,go_sem,r0,r1],⟨by rw[HSD.o,HRR.o];rfl,HFIN.o.since⟩⟩
set_option maxRecDepth 100000
set_option maxHeartbeats 4000000
def joinTo(us bs:List Bool)(j:Nat):List Bool:=us.mapIdx fun i x=>if i<j then x&&bs.getD i false else x
theorem joinTo_zero(us bs:List Bool):joinTo us bs 0=us:=by
 unfold joinTo;apply List.ext_getElem?;intro i;rw[List.getElem?_mapIdx];cases us[i]? <;> simp
theorem joinTo_get(us bs:List Bool)(j:Nat)(h:j<us.length)(_h2:j<bs.length):((joinTo us bs j).map Value.bool)[j]?=some (.bool us[j]):=by
 rw[List.getElem?_map,joinTo,List.getElem?_mapIdx,List.getElem?_eq_getElem h];simp
theorem joinTo_succ(us bs:List Bool)(j:Nat)(h:j<us.length)(h2:j<bs.length):((joinTo us bs j).map Value.bool).set j (.bool (us[j]&&bs[j]))=(joinTo us bs (j+1)).map Value.bool:=by
 rw[<-List.map_set]
 congr 1
 apply List.ext_getElem?;intro i;rw[List.getElem?_set,joinTo,joinTo,List.getElem?_mapIdx,List.getElem?_mapIdx,List.length_mapIdx];by_cases e:j=i
 ·subst e
  rw[if_pos rfl,if_pos h,List.getElem?_eq_getElem h];simp[List.getD_eq_getElem?_getD,List.getElem?_eq_getElem h2]
 ·rw[if_neg e]
  cases us[i]? with
  | none=>rfl
  | some x =>
    simp only[Option.map];by_cases h1:i<j
    ·rw[if_pos h1,if_pos (by omega)]
    ·rw[if_neg h1,if_neg (by omega)]
theorem joinTo_all(us bs:List Bool)(h:us.length=512)(h2:bs.length=512):joinTo us bs 512=List.zipWith (· && ·) us bs:=by
 apply List.ext_getElem?;intro i;rw[joinTo,List.getElem?_mapIdx,List.getElem?_zipWith];by_cases hi:i<512
 ·rw[List.getElem?_eq_getElem (by omega),List.getElem?_eq_getElem (by omega)]
  simp[hi,List.getD_eq_getElem?_getD,List.getElem?_eq_getElem (show i<bs.length by omega)]
 ·rw[List.getElem?_eq_none (by omega)]
  rfl
theorem BoRd.drew{w:World}{b o:Nat}{bs:List Bool}(h:BoRd w b o bs):BoRd w.drew b o bs:=h
theorem stkJoin1_any(A B b o c b2 o2 c2:Nat)(us bs:List Bool)(w:World)(hla:us.length=512)(hlb:bs.length=512)(hc:512<=c)(hc2:512<=c2)(hra:BoRd w b o us)(hrb:BoRd w b2 o2 bs)
  (hA:w.cell? ⟨A,0,none⟩=some (.slice (some ⟨b,o,none⟩) 512 c)) (hB:w.cell? ⟨B,0,none⟩=some (.slice (some ⟨b2,o2,none⟩) 512 c2)) :
  Calls Tryz.prog 246 #[.pointer (some ⟨A,0,none⟩),.pointer (some ⟨B,0,none⟩)] w (CloRow w (List.zipWith (· && ·) us bs) 0):=by
 have HRA:=Hd hra;have HLA:=Hd hla;have HRB:=Hd hrb;have HLB:=Hd hlb;have S0:=Hd (show Since w w from Below.refl _ _);have KEEP:∀w',Since w w'->(w'.cell? ⟨A,0,none⟩=some (.slice (some ⟨b,o,none⟩) 512 c)/\w'.cell? ⟨B,0,none⟩=some (.slice (some ⟨b2,o2,none⟩) 512 c2)/\w'.rangeAt b o (us.map Value.bool)):=fun w' hs=>⟨hs.keep hA,hs.keep hB,(HRA.o.since hs).range⟩
 have HK:=Hd KEEP;have hlen:(Tryz.prog.info? 186).map (·.size)=some (us.map Value.bool).length:=by rw[List.length_map,HLA.o];kernel_rfl
 have hund:=Tryz.underlying186;have hst:(storeCells ⟨w.heap.size,0,none⟩ (us.map Value.bool)).run Tryz.prog (w.alloc (.cells Tryz.zeroCells186 186)).drew=.ok () (w.alloc (.cells (us.map Value.bool).toArray 186)).drew:=tr_store w.drew us HLA.o;have hlu:=HLA.o;clear KEEP hra hrb hla hlb;go_enter Tryz.func246,Tryz.ntmps246;go_upto_region 1 with fail;refine wp_region_held_drew (S:=fun w'=>w'.cell? ⟨A,0,none⟩=some (.slice (some ⟨b,o,none⟩) 512 c)/\w'.cell? ⟨B,0,none⟩=some (.slice (some ⟨b2,o2,none⟩) 512 c2)/\w'.rangeAt b o (us.map Value.bool)) (by kernel_rfl) (HK.o _ S0.o.drew) (fun hHeld=>?_);refine wpAnyH_take (i:=0) (v:=.slice (some ⟨b,o,none⟩) 512 c) rfl (by kernel_rfl) (by kernel_rfl) (by kernel_rfl) (fun _ _ _ h=>h) (Or.inl ⟨by rfl,?_⟩) (by assumption) ?_
 ·intro w hSw
  obtain⟨s1,s2,s3⟩:=hSw;go_simp
 (try simp only[Act.put,sA,sZ,sS])
 refine wpAnyH_take (i:=4) (v:=.slice (some ⟨b2,o2,none⟩) 512 c2) rfl (by kernel_rfl) (by kernel_rfl) (by kernel_rfl) (fun _ _ _ h=>h) (Or.inl ⟨by rfl,?_⟩) (by assumption) ?_
 ·intro w hSw
  obtain⟨s1,s2,s3⟩:=hSw;go_simp
 (try simp only[Act.put,sA,sZ,sS])
 refine wpAnyH_ready (rs:=[1,6]) (by kernel_rfl) (by simp) ?_;refine AllReadyH.cons rfl (fun K hK=>?_) ?_
 ·go_simp
  refine(stkOf_any b o c hc _).mono ?_;rintro e wh ⟨rfl,rfl⟩;refine hK.o _ _ (by assumption) (fun hHeld=>?_);clear hK K
  (try simp only[Act.put,sA,sZ,sS])
  refine wpAnyH_take (i:=2) (v:=.pointer (some ⟨b,o,none⟩)) rfl (by kernel_rfl) (by kernel_rfl) (by kernel_rfl) (fun _ _ _ h=>h) (Or.inl ⟨by rfl,?_⟩) (by assumption) ?_
  ·intro w hSw
   obtain⟨s1,s2,s3⟩:=hSw;go_simp
  (try simp only[Act.put,sA,sZ,sS])
  refine wpAnyH_take (i:=3) (v:=.agg (us.map Value.bool).toArray) rfl (by kernel_rfl) (by kernel_rfl) (by kernel_rfl) (fun _ _ _ h=>h) (yieldsIf_load_mid (by rfl) 186 _ rfl b o rfl (us.map Value.bool) _ (fun w hSw=>hSw.2.2) hund rfl hlen) (by assumption) ?_
  (try simp only[Act.put,sA,sZ,sS])
  refine wpAnyH_ready (rs:=[5,6]) (by kernel_rfl) (by simp) ?_;refine AllReadyH.cons rfl (fun K hK=>?_) ?_
  ·go_simp
   refine(stkOf_any b2 o2 c2 hc2 _).mono ?_;rintro e wh ⟨rfl,rfl⟩;refine hK.o _ _ (by assumption) (fun hHeld=>?_);clear hK K
   (try simp only[Act.put,sA,sZ,sS])
   refine wpAnyH_ready (rs:=[6]) (by kernel_rfl) (by simp) ?_;refine AllReadyH.cons rfl (fun K hK=>?_) AllReadyH.nil;go_simp;refine hK.o _ _ (HK.o _ (S0.o.drew.alloc _)) (fun hHeld=>?_);clear hK K
   (try simp only[Act.put,sA,sZ,sS])
   refine wpAnyH_ready (rs:=[7]) (by kernel_rfl) (by simp) ?_;refine AllReadyH.cons rfl (fun K hK=>?_) AllReadyH.nil;go_simp;refine hK.o _ _ (HK.o _ (S0.o.drew.alloc _)) (fun hHeld=>?_);clear hK K
   (try simp only[Act.put,sA,sZ,sS])
   refine wpAnyH_take (i:=8) (v:=.pointer (some ⟨b2,o2,none⟩)) rfl (by kernel_rfl) (by kernel_rfl) (by kernel_rfl) (fun _ _ _ h=>h) (Or.inl ⟨by rfl,?_⟩) (by assumption) ?_
   ·intro w hSw
    obtain⟨s1,s2,s3⟩:=hSw;go_simp
   (try simp only[Act.put,sA,sZ,sS])
   refine wpAnyH_done (by kernel_rfl) ?_ _;have BK:=Hd ((Bank.nil S0.o).boxL (us.map Value.bool) 186 (by rw[List.length_map,HLA.o];decide));clear hst hund hlen HK hlu;go_wp2;go_loopw [5,12] (fun v i wr=>∃j:Nat,j<=512/\i=.int .i64 (j:Int)/\Bank w wr [boxAcc w.heap.size 186 ((joinTo us bs j).map Value.bool)]) (fun _ i _=>512-(intOf i).toNat)
   case atStart=>exact⟨0,by omega,rfl,by rw[joinTo_zero];exact BK.o.drew⟩
   case round =>
    obtain⟨j,hj,rfl,hB⟩:=hrel;have HB:=Hd hB;clear hB;have j0:(0:Int)<=(j:Int):=by omega
    by_cases hlt:j<512
    ·have i1:(j:Int)<(512:Int):=by omega
     have hju:j<us.length:=by rw[HLA.o];exact hlt
     have hjb:j<bs.length:=by rw[HLB.o];exact hlt
     obtain⟨x,hx⟩:∃x,us[j]=x:=⟨_,rfl⟩
     obtain⟨y,hy⟩:∃y,bs[j]=y:=⟨_,rfl⟩
     have hcell:=HB.o.cell 0 rfl j (joinTo_get us bs j hju hjb);rw[hx]at hcell;have hfree:=HB.o.free 0 rfl j;have hcb:=(HRB.o.since HB.o.since) j y (by rw[List.getElem?_eq_getElem hjb,hy]);have HB2:=Hd (HB.o.boxSet 0 rfl j (.bool (x&&y)));have HSU:=Hd (joinTo_succ us bs j hju hjb);rw[hx,hy]at HSU;clear hx hy hju hjb;cases x<;>cases y
     all_goals
      go_wp2;go_round
      case rel=>exact⟨j+1,by omega,by go_num,by rw[<-HSU.o];exact HB2.o⟩
      case measure=>simp[intOf];omega
    ·have i1:¬(j:Int)<(512:Int):=by omega
     obtain rfl:j=512:=by omega
     have hal:=fun v=>tr_all ⟨w.heap.size,0,none⟩ v
     have HE:=Hd (joinTo_all us bs HLA.o HLB.o);go_wp2;go_ret;exact .inl ⟨rfl,_,rfl,by rw[<-HE.o];exact HB.o⟩
  refine AllReadyH.cons rfl (fun K hK=>?_) ?_
  ·go_simp
   refine hK.o _ _ (HK.o _ (S0.o.drew.alloc _)) (fun hHeld=>?_);clear hK K
   (try simp only[Act.put,sA,sZ,sS])
   refine wpAnyH_ready (rs:=[5]) (by kernel_rfl) (by simp) ?_;refine AllReadyH.cons rfl (fun K hK=>?_) AllReadyH.nil;go_simp;refine(stkOf_any b2 o2 c2 hc2 _).mono ?_;rintro e wh ⟨rfl,rfl⟩;refine hK.o _ _ (by assumption) (fun hHeld=>?_);clear hK K
   (try simp only[Act.put,sA,sZ,sS])
   refine wpAnyH_ready (rs:=[7]) (by kernel_rfl) (by simp) ?_;refine AllReadyH.cons rfl (fun K hK=>?_) AllReadyH.nil;go_simp;refine hK.o _ _ (HK.o _ (S0.o.drew.alloc _)) (fun hHeld=>?_);clear hK K
   (try simp only[Act.put,sA,sZ,sS])
   refine wpAnyH_take (i:=8) (v:=.pointer (some ⟨b2,o2,none⟩)) rfl (by kernel_rfl) (by kernel_rfl) (by kernel_rfl) (fun _ _ _ h=>h) (Or.inl ⟨by rfl,?_⟩) (by assumption) ?_
   ·intro w hSw
    obtain⟨s1,s2,s3⟩:=hSw;go_simp
   (try simp only[Act.put,sA,sZ,sS])
   refine wpAnyH_done (by kernel_rfl) ?_ _;have BK:=Hd ((Bank.nil S0.o).boxL (us.map Value.bool) 186 (by rw[List.length_map,HLA.o];decide));clear hst hund hlen HK hlu;go_wp2;go_loopw [5,12] (fun v i wr=>∃j:Nat,j<=512/\i=.int .i64 (j:Int)/\Bank w wr [boxAcc w.heap.size 186 ((joinTo us bs j).map Value.bool)]) (fun _ i _=>512-(intOf i).toNat)
   case atStart=>exact⟨0,by omega,rfl,by rw[joinTo_zero];exact BK.o.drew⟩
   case round =>
    obtain⟨j,hj,rfl,hB⟩:=hrel;have HB:=Hd hB;clear hB;have j0:(0:Int)<=(j:Int):=by omega
    by_cases hlt:j<512
    ·have i1:(j:Int)<(512:Int):=by omega
     have hju:j<us.length:=by rw[HLA.o];exact hlt
     have hjb:j<bs.length:=by rw[HLB.o];exact hlt
     obtain⟨x,hx⟩:∃x,us[j]=x:=⟨_,rfl⟩
     obtain⟨y,hy⟩:∃y,bs[j]=y:=⟨_,rfl⟩
     have hcell:=HB.o.cell 0 rfl j (joinTo_get us bs j hju hjb);rw[hx]at hcell;have hfree:=HB.o.free 0 rfl j;have hcb:=(HRB.o.since HB.o.since) j y (by rw[List.getElem?_eq_getElem hjb,hy]);have HB2:=Hd (HB.o.boxSet 0 rfl j (.bool (x&&y)));have HSU:=Hd (joinTo_succ us bs j hju hjb);rw[hx,hy]at HSU;clear hx hy hju hjb;cases x<;>cases y
     all_goals
      go_wp2;go_round
      case rel=>exact⟨j+1,by omega,by go_num,by rw[<-HSU.o];exact HB2.o⟩
      case measure=>simp[intOf];omega
    ·have i1:¬(j:Int)<(512:Int):=by omega
     obtain rfl:j=512:=by omega
     have hal:=fun v=>tr_all ⟨w.heap.size,0,none⟩ v
     have HE:=Hd (joinTo_all us bs HLA.o HLB.o);go_wp2;go_ret;exact .inl ⟨rfl,_,rfl,by rw[<-HE.o];exact HB.o⟩
  exact AllReadyH.nil
 refine AllReadyH.cons rfl (fun K hK=>?_) ?_
 ·go_simp
  refine hK.o _ _ (HK.o _ (S0.o.drew.alloc _)) (fun hHeld=>?_);clear hK K
  (try simp only[Act.put,sA,sZ,sS])
  refine wpAnyH_ready (rs:=[1]) (by kernel_rfl) (by simp) ?_;refine AllReadyH.cons rfl (fun K hK=>?_) AllReadyH.nil;go_simp;refine(stkOf_any b o c hc _).mono ?_;rintro e wh ⟨rfl,rfl⟩;refine hK.o _ _ (by assumption) (fun hHeld=>?_);clear hK K
  (try simp only[Act.put,sA,sZ,sS])
  refine wpAnyH_take (i:=2) (v:=.pointer (some ⟨b,o,none⟩)) rfl (by kernel_rfl) (by kernel_rfl) (by kernel_rfl) (fun _ _ _ h=>h) (Or.inl ⟨by rfl,?_⟩) (by assumption) ?_
  ·intro w hSw
   obtain⟨s1,s2,s3⟩:=hSw;go_simp
  (try simp only[Act.put,sA,sZ,sS])
  refine wpAnyH_take (i:=3) (v:=.agg (us.map Value.bool).toArray) rfl (by kernel_rfl) (by kernel_rfl) (by kernel_rfl) (fun _ _ _ h=>h) (yieldsIf_load_mid (by rfl) 186 _ rfl b o rfl (us.map Value.bool) _ (fun w hSw=>hSw.2.2) hund rfl hlen) (by assumption) ?_
  (try simp only[Act.put,sA,sZ,sS])
  refine wpAnyH_ready (rs:=[5]) (by kernel_rfl) (by simp) ?_;refine AllReadyH.cons rfl (fun K hK=>?_) AllReadyH.nil;go_simp;refine(stkOf_any b2 o2 c2 hc2 _).mono ?_;rintro e wh ⟨rfl,rfl⟩;refine hK.o _ _ (by assumption) (fun hHeld=>?_);clear hK K
  (try simp only[Act.put,sA,sZ,sS])
  refine wpAnyH_ready (rs:=[7]) (by kernel_rfl) (by simp) ?_;refine AllReadyH.cons rfl (fun K hK=>?_) AllReadyH.nil;go_simp;refine hK.o _ _ (HK.o _ (S0.o.drew.alloc _)) (fun hHeld=>?_);clear hK K
  (try simp only[Act.put,sA,sZ,sS])
  refine wpAnyH_take (i:=8) (v:=.pointer (some ⟨b2,o2,none⟩)) rfl (by kernel_rfl) (by kernel_rfl) (by kernel_rfl) (fun _ _ _ h=>h) (Or.inl ⟨by rfl,?_⟩) (by assumption) ?_
  ·intro w hSw
   obtain⟨s1,s2,s3⟩:=hSw;go_simp
  (try simp only[Act.put,sA,sZ,sS])
  refine wpAnyH_done (by kernel_rfl) ?_ _;have BK:=Hd ((Bank.nil S0.o).boxL (us.map Value.bool) 186 (by rw[List.length_map,HLA.o];decide));clear hst hund hlen HK hlu;go_wp2;go_loopw [5,12] (fun v i wr=>∃j:Nat,j<=512/\i=.int .i64 (j:Int)/\Bank w wr [boxAcc w.heap.size 186 ((joinTo us bs j).map Value.bool)]) (fun _ i _=>512-(intOf i).toNat)
  case atStart=>exact⟨0,by omega,rfl,by rw[joinTo_zero];exact BK.o.drew⟩
  case round =>
   obtain⟨j,hj,rfl,hB⟩:=hrel;have HB:=Hd hB;clear hB;have j0:(0:Int)<=(j:Int):=by omega
   by_cases hlt:j<512
   ·have i1:(j:Int)<(512:Int):=by omega
    have hju:j<us.length:=by rw[HLA.o];exact hlt
    have hjb:j<bs.length:=by rw[HLB.o];exact hlt
    obtain⟨x,hx⟩:∃x,us[j]=x:=⟨_,rfl⟩
    obtain⟨y,hy⟩:∃y,bs[j]=y:=⟨_,rfl⟩
    have hcell:=HB.o.cell 0 rfl j (joinTo_get us bs j hju hjb);rw[hx]at hcell;have hfree:=HB.o.free 0 rfl j;have hcb:=(HRB.o.since HB.o.since) j y (by rw[List.getElem?_eq_getElem hjb,hy]);have HB2:=Hd (HB.o.boxSet 0 rfl j (.bool (x&&y)));have HSU:=Hd (joinTo_succ us bs j hju hjb);rw[hx,hy]at HSU;clear hx hy hju hjb;cases x<;>cases y
    all_goals
     go_wp2;go_round
     case rel=>exact⟨j+1,by omega,by go_num,by rw[<-HSU.o];exact HB2.o⟩
     case measure=>simp[intOf];omega
   ·have i1:¬(j:Int)<(512:Int):=by omega
    obtain rfl:j=512:=by omega
    have hal:=fun v=>tr_all ⟨w.heap.size,0,none⟩ v
    have HE:=Hd (joinTo_all us bs HLA.o HLB.o);go_wp2;go_ret;exact .inl ⟨rfl,_,rfl,by rw[<-HE.o];exact HB.o⟩
 exact AllReadyH.nil
theorem triedJoin_any(A B:Nat)(bs:List Bool)(n:Int)(w:World)(hc:Calls Tryz.prog 246 #[.pointer (some ⟨A,0,none⟩),.pointer (some ⟨B,0,none⟩)] (w.alloc (.cells #[.int .i64 0] 25)) (CloRow (w.alloc (.cells #[.int .i64 0] 25)) bs n)):
  Calls Tryz.prog 165 #[.func (.func 246) #[] #[.pointer (some ⟨A,0,none⟩),.pointer (some ⟨B,0,none⟩)]] w (TriedRow w bs n):=by
 have hmf:=hmfT;have BK0:=Hd ((Bank.nil (Below.refl w.heap.size w)).bx [.int .i64 0] 25);have HC:=Hd hc;clear hc
 go_enter_defers Tryz.func165,Tryz.ntmps165
 go_wp2_with fail;generalize hw1:w.alloc (.cells #[.int .i64 0] 25)=w1 at *;clear hw1;refine HC.o.mono ?_;rintro e w2 (⟨rfl,⟨g,rfl,hb⟩⟩|⟨hn,rfl,hs⟩)
 ·have BK2:=Hd (bank_join BK0.o hb)
  obtain⟨c0,f0⟩:=BK2.o.r1 1 rfl;have BK3:=Hd (BK2.o.bs 1 0 (.int .i64 0));clear hb BK0 BK2;go_wp2;refine leaves_cons (f:=227) (args:=#[.pointer (some ⟨w.heap.size,0,none⟩)]) (by simp) (by simp[go_sem]) ?_;refine(catchR_idle _ _).mono ?_;rintro e u' w'' ⟨rfl,rfl,rfl⟩;have r0:=BK3.o.cl 1 0;exact⟨.tuple #[.slice (some ⟨g,0,none⟩) 512 512,.int .i64 0],by simp[results,Tryz.results165,go_sem,r0],.inl ⟨rfl,_,rfl,g,_,rfl,BK3.o.sub (.cons_cons _ (.cons _ .slnil))⟩⟩
 ·have HN:=Hd hn
  have BK2:=Hd (BK0.o.call hs);obtain⟨c0,f0⟩:=BK2.o.r1 0 rfl;have BK3:=Hd (BK2.o.bs 0 0 (.int .i64 n));have HC0:=Hd c0;have HF0:=Hd f0;clear hs BK0 BK2 c0 f0 hn;go_wp2;refine leaves_cons (f:=227) (args:=#[.pointer (some ⟨w.heap.size,0,none⟩)]) (by simp) (by simp[go_sem]) ?_;refine(catchR_panicking w.heap.size _ _ _ HC0.o HF0.o).mono ?_;rintro e u' w'' ⟨rfl,rfl,rfl⟩;have r0:=BK3.o.cl 0 0;exact⟨.tuple #[.slice none 0 0,.int .i64 n],by simp[results,Tryz.results165,go_sem,r0],.inr ⟨HN.o,rfl,BK3.o.since⟩⟩
theorem stkJoin_any(b o c b2 o2 c2:Nat)(us bs:List Bool)(w:World)(hla:us.length=512)(hlb:bs.length=512)(hc:512<=c)(hc2:512<=c2)(hra:BoRd w b o us)(hrb:BoRd w b2 o2 bs):
  Calls Tryz.prog 226 #[.slice (some ⟨b,o,none⟩) 512 c,.slice (some ⟨b2,o2,none⟩) 512 c2] w fun e w'=>∃v,e=.returned v/\OwnBo w w' v (List.zipWith (· && ·) us bs):=by
 have hmf:=hmfT;have HRA:=Hd hra;have HLA:=Hd hla;have HRB:=Hd hrb;have HLB:=Hd hlb;clear hra hla hrb hlb;have BK0:=bk2 w [.slice (some ⟨b,o,none⟩) 512 c] 85 [.slice (some ⟨b2,o2,none⟩) 512 c2] 85;go_enter Tryz.func226,Tryz.ntmps226;go_upto_region 1 with fail;generalize w.heap.size=X at *;refine wp_hid BK0 (fun w1 BK0=>?_);have a0:=BK0.o.cl 1 0;have b0:=BK0.o.cl 0 0;have BKE:=Hd (BK0.o.bx [.int .i64 0] 25);have a9:=BKE.o.cl 2 0;have b9:=BKE.o.cl 1 0;have HCL:=Hd (stkJoin1_any X (X+1) b o c b2 o2 c2 us bs _ HLA.o HLB.o hc hc2 (HRA.o.since BKE.o.since) (HRB.o.since BKE.o.since) a9 b9);clear a9 b9 BKE;go_wp2_with fail;refine(triedJoin_any X (X+1) _ _ _ HCL.o).mono ?_;rintro e w2 (⟨hz,⟨v,rfl,g,t,rfl,hb⟩⟩|⟨hz,rfl,hs⟩)
 case inr=>exact absurd rfl hz
 have BK2:=Hd (bank_join BK0.o hb);clear hb HCL hz;go_wp2;go_ret;exact⟨_,rfl,g,t,rfl,BK2.o.sub (.cons_cons _ (List.nil_sublist _))⟩
set_option maxHeartbeats 4000000
theorem b4_cells{w w':World}{X Y R:Nat}{a b c d u v:Value}(h:Bank w w' [boxAcc R 122 [u,v],boxAcc Y 122 [c,d],boxAcc X 122 [a,b]]):
  w'.cell? ⟨X,0,none⟩=some a/\w'.cell? ⟨X,1,none⟩=some b/\w'.cell? ⟨Y,0,none⟩=some c/\w'.cell? ⟨Y,1,none⟩=some d/\w'.cell? ⟨R,0,none⟩=some u/\w'.cell? ⟨R,1,none⟩=some v/\w'.frozen? ⟨R,0,none⟩=false/\w'.frozen? ⟨R,1,none⟩=false :=
 ⟨h.cl 2 0,h.cl 2 1,h.cl 1 0,h.cl 1 1,h.cl 0 0,h.cl 0 1,h.free 0 rfl 0,h.free 0 rfl 1⟩
def meetV(s t:T.Sp):T.Sp×Bool:=match s.meet t with
 | some m=>(m,true)
 | none=>(⟨0#64,0#64⟩,false)
theorem meetV_t{lo hi lo2 hi2:BitVec 64}(h:T.Sp.right ⟨T.umax lo lo2,T.umin hi hi2⟩=true):meetV ⟨lo,hi⟩ ⟨lo2,hi2⟩=(⟨T.umax lo lo2,T.umin hi hi2⟩,true):=by unfold meetV T.Sp.meet;rw[if_pos h]
theorem meetV_f{lo hi lo2 hi2:BitVec 64}(h:T.Sp.right ⟨T.umax lo lo2,T.umin hi hi2⟩=false):meetV ⟨lo,hi⟩ ⟨lo2,hi2⟩=(⟨0#64,0#64⟩,false):=by unfold meetV T.Sp.meet;rw[if_neg (fun e=>Bool.noConfusion (h.symm.trans e))]
theorem spMeet_any(s t:T.Sp)(w:World):Calls Tryz.prog 264 #[spv s,spv t] w (Ret w (.tuple #[spv (meetV s t).1,.bool (meetV s t).2])):=by
 obtain⟨lo,hi⟩:=s;obtain⟨lo2,hi2⟩:=t;unfold spv;have BK:=bk4 w [W64 lo,W64 hi] 122 [W64 lo2,W64 hi2] 122 [W64 0#64,W64 0#64] 122 [W64 (T.umax lo lo2),W64 (T.umin hi hi2)] 122;go_enter Tryz.func264,Tryz.ntmps264;go_upto_region 2 with fail;generalize w.heap.size=X at *;refine wp_hid BK (fun w1 BK=>?_);obtain⟨c0,c1⟩:=BK.o.q2 0 rfl;go_wp2_with fail;refine(spRight_agg _ _ _).mono ?_;rintro e w2 ⟨rfl,hs⟩;clear c0 c1;have BK2:=Hd (BK.o.call hs);clear BK hs;obtain⟨c0,c1⟩:=BK2.o.q2 0 rfl;obtain⟨d0,d1,f0,f1⟩:=BK2.o.r2 1 rfl;cases hq:T.Sp.right ⟨T.umax lo lo2,T.umin hi hi2⟩
 case false =>
  have HM:=Hd (meetV_f hq);go_wp2;refine bodyPost_ret (v:=.tuple #[.agg #[W64 0#64,W64 0#64],.bool false]) ?_ rfl ⟨by rw[HM.o],((BK2.o.bs 1 0 _).bs 1 1 _).since⟩;simp[results,Tryz.results264,go_sem,d0,d1]
 case true =>
  have HM:=Hd (meetV_t hq);go_wp2;refine bodyPost_ret (v:=.tuple #[.agg #[W64 (T.umax lo lo2),W64 (T.umin hi hi2)],.bool true]) ?_ rfl ⟨by rw[HM.o],((BK2.o.bs 1 0 _).bs 1 1 _).since⟩;simp[results,Tryz.results264,go_sem,d0,d1]
theorem without_s{lo hi lo2 hi2:BitVec 64}(h:T.Sp.one ⟨lo,hi⟩=true):T.Sp.without ⟨lo,hi⟩ ⟨lo2,hi2⟩=⟨lo,hi⟩:=by unfold T.Sp.without;rw[h];rfl
theorem without_n{lo hi lo2 hi2:BitVec 64}(h2:T.Sp.one ⟨lo2,hi2⟩=false):T.Sp.without ⟨lo,hi⟩ ⟨lo2,hi2⟩=⟨lo,hi⟩:=by unfold T.Sp.without;rw[h2];simp
theorem without_w{lo hi lo2 hi2:BitVec 64}{p q:Bool}(h:T.Sp.one ⟨lo,hi⟩=false)(h2:T.Sp.one ⟨lo2,hi2⟩=true)(hp:(lo==lo2)=p)(hq:(hi==lo2)=q):T.Sp.without ⟨lo,hi⟩ ⟨lo2,hi2⟩=⟨bif p then lo+1#64 else lo,bif q then hi-1#64 else hi⟩:=by
 unfold T.Sp.without;rw[h,h2,hp,hq];cases p<;>cases q<;>rfl
theorem spwithout_any(s t:T.Sp)(w:World):Calls Tryz.prog 265 #[spv s,spv t] w (Ret w (spv (s.without t))):=by
 obtain⟨lo,hi⟩:=s;obtain⟨lo2,hi2⟩:=t;unfold spv;have BK:=bk3 w [W64 lo,W64 hi] 122 [W64 lo2,W64 hi2] 122 [W64 0#64,W64 0#64] 122;go_enter Tryz.func265,Tryz.ntmps265;go_upto_region 1 with fail;generalize w.heap.size=X at *;refine wp_hid BK (fun w1 BK=>?_);obtain⟨c0,c1,c2,c3,d0,d1,f0,f1⟩:=b4_cells BK.o;go_wp2_with fail;refine(spone_agg _ _ _).mono ?_;rintro e w2 ⟨rfl,hs⟩;have BK2:=Hd (BK.o.call hs);clear c0 c1 c2 c3 d0 d1 f0 f1;clear BK hs;obtain⟨c0,c1,c2,c3,d0,d1,f0,f1⟩:=b4_cells BK2.o;cases hq:T.Sp.one ⟨lo,hi⟩
 case true =>
  have HQ:=Hd hq;go_wp2;refine bodyPost_ret (v:=.agg #[W64 (lo),W64 (hi)]) ?_ rfl ⟨by rw[without_s HQ.o],((BK2.o.bs 0 0 _).bs 0 1 _).since⟩;simp[results,Tryz.results265,go_sem,d0,d1]
 case false =>
  have HQ:=Hd hq;go_wp2_with fail;refine(spone_agg _ _ _).mono ?_;rintro e w3 ⟨rfl,hs⟩;have BK3:=Hd (BK2.o.call hs);clear c0 c1 c2 c3 d0 d1 f0 f1;clear BK2 hs;obtain⟨c0,c1,c2,c3,d0,d1,f0,f1⟩:=b4_cells BK3.o;have g0:=BK3.o.free 2 rfl 0;have g1:=BK3.o.free 2 rfl 1;cases hq2:T.Sp.one ⟨lo2,hi2⟩
  case false =>
   have HQ2:=Hd hq2;go_wp2;refine bodyPost_ret (v:=.agg #[W64 (lo),W64 (hi)]) ?_ rfl ⟨by rw[without_n HQ2.o],((BK3.o.bs 0 0 _).bs 0 1 _).since⟩;simp[results,Tryz.results265,go_sem,d0,d1]
  case true =>
   have HQ2:=Hd hq2;cases hp:lo==lo2<;>cases hp2:hi==lo2
   all_goals
    have HP:=Hd hp;have HP2:=Hd hp2;go_wp2_with fail
    iterate 2
     try(rw[run_storeCells_W64];go_simp;go_wp2)
   ·refine bodyPost_ret (v:=.agg #[W64 lo,W64 hi]) ?_ rfl ⟨by first|(rw[without_w HQ.o HQ2.o HP.o HP2.o];done)|(rw[without_w HQ.o HQ2.o HP.o HP2.o];rfl),((BK3.o.bs 0 0 _).bs 0 1 _).since⟩
    simp[results,Tryz.results265,go_sem,d0,d1]
   ·refine bodyPost_ret (v:=.agg #[W64 lo,W64 (hi-1#64)]) ?_ rfl ⟨by first|(rw[without_w HQ.o HQ2.o HP.o HP2.o];done)|(rw[without_w HQ.o HQ2.o HP.o HP2.o];rfl),(((BK3.o.bs 2 1 _).bs 0 0 _).bs 0 1 _).since⟩
    simp[results,Tryz.results265,go_sem,d0,d1]
   ·refine bodyPost_ret (v:=.agg #[W64 (lo+1#64),W64 hi]) ?_ rfl ⟨by first|(rw[without_w HQ.o HQ2.o HP.o HP2.o];done)|(rw[without_w HQ.o HQ2.o HP.o HP2.o];rfl),(((BK3.o.bs 2 0 _).bs 0 0 _).bs 0 1 _).since⟩
    simp[results,Tryz.results265,go_sem,d0,d1]
   ·refine bodyPost_ret (v:=.agg #[W64 (lo+1#64),W64 (hi-1#64)]) ?_ rfl ⟨by first|(rw[without_w HQ.o HQ2.o HP.o HP2.o];done)|(rw[without_w HQ.o HQ2.o HP.o HP2.o];rfl),((((BK3.o.bs 2 0 _).bs 2 1 _).bs 0 0 _).bs 0 1 _).since⟩
    simp[results,Tryz.results265,go_sem,d0,d1]
theorem results_cell1{fn:Func}{p:Tmp}{ty:TypeId}{P:Program}(h:fn.results = #[.cell p ty])(tmps:Array Value)(w:World)(g:Nat)(u:Value)
  (hp:tmps.getD p undef=.pointer (some ⟨g,0,none⟩)) (hrun:(loadVar ty ⟨g,0,none⟩).run P w=.ok u w):(results fn tmps).run P w=.ok u w:=by
 have hp':tmps[p]?.getD undef=.pointer (some ⟨g,0,none⟩):=by simpa using hp
 simp[results,h,hp',asAddr,hrun]
def oppA:Array Value:=#[.int .u8 0,.int .u8 0,.int .u8 0,.int .u8 0,.int .u8 0,.int .u8 0,.int .u8 0,.int .u8 0,.int .u8 0,.int .u8 0,.int .u8 0,.int .u8 0,.int .u8 0,.int .u8 0,.int .u8 0,.int .u8 0,.int .u8 0,.int .u8 18,.int .u8 17,.int .u8 22,.int .u8 21,.int .u8 20,.int .u8 19,.int .u8 26,.int .u8 25,.int .u8 24,.int .u8 23,.int .u8 27]
theorem opposites_any(w:World):Calls Tryz.prog 234 #[] w (Ret w (.agg oppA)):=by
 have BK0:=(Bank.nil (Below.refl w.heap.size w)).box #[.int .u8 0,.int .u8 0,.int .u8 0,.int .u8 0,.int .u8 0,.int .u8 0,.int .u8 0,.int .u8 0,.int .u8 0,.int .u8 0,.int .u8 0,.int .u8 0,.int .u8 0,.int .u8 0,.int .u8 0,.int .u8 0,.int .u8 0,.int .u8 0,.int .u8 0,.int .u8 0,.int .u8 0,.int .u8 0,.int .u8 0,.int .u8 0,.int .u8 0,.int .u8 0,.int .u8 0,.int .u8 0] 284 (by decide);have S1:=Hd (BK0.boxRow 0 rfl oppA.toList rfl (by decide)).since;clear BK0;go_enter Tryz.func234,Tryz.ntmps234;go_upto_region 1 with fail;have hg:=heap_alloc_new w (.cells #[.int .u8 0,.int .u8 0,.int .u8 0,.int .u8 0,.int .u8 0,.int .u8 0,.int .u8 0,.int .u8 0,.int .u8 0,.int .u8 0,.int .u8 0,.int .u8 0,.int .u8 0,.int .u8 0,.int .u8 0,.int .u8 0,.int .u8 0,.int .u8 0,.int .u8 0,.int .u8 0,.int .u8 0,.int .u8 0,.int .u8 0,.int .u8 0,.int .u8 0,.int .u8 0,.int .u8 0,.int .u8 0] 284);have hg2:((w.alloc (.cells #[.int .u8 0,.int .u8 0,.int .u8 0,.int .u8 0,.int .u8 0,.int .u8 0,.int .u8 0,.int .u8 0,.int .u8 0,.int .u8 0,.int .u8 0,.int .u8 0,.int .u8 0,.int .u8 0,.int .u8 0,.int .u8 0,.int .u8 0,.int .u8 0,.int .u8 0,.int .u8 0,.int .u8 0,.int .u8 0,.int .u8 0,.int .u8 0,.int .u8 0,.int .u8 0,.int .u8 0,.int .u8 0] 284)).setRow w.heap.size oppA).heap[w.heap.size]?=some (.cells oppA 284 (0,0)):=setRow_heap _ _ _ _ _ _ hg;go_wp2_with (refine wpList_store_row rfl 284 (.tmp 0) (.tmp 1) rfl w.heap.size oppA rfl rfl 284 _ hg (by kernel_rfl) rfl (by kernel_rfl) ?_);refine bodyPost_ret (v:=.agg oppA) ?_ rfl ⟨rfl,S1.o⟩;exact results_cell1 rfl _ _ w.heap.size _ rfl (run_loadVar_row _ w.heap.size _ _ _ (0,0) _ hg2 Tryz.underlying284 rfl (by kernel_rfl))
end Go.Proofs.YtfeipbgnjainlaaGreatDoor.K
