/- TShA, TInC, TClo, TShB, TShC, TShD, TOpen -/
import Derived.Test.YtfeipbgnjainlaaGreatDoorTp2
import Derived.Test.YtfeipbgnjainlaaGreatDoorTp11
import Derived.Test.YtfeipbgnjainlaaGreatDoorTp20
import Derived.Test.YtfeipbgnjainlaaGreatDoorTp10
import Derived.Test.YtfeipbgnjainlaaGreatDoorTp4
import Derived.Sort.OwnSortedInts
import Derived.Test.YtfeipbgnjainlaaGreatDoorTp8
import Derived.Laws.OwnMore
set_option linter.unusedVariables false
set_option linter.unusedSimpArgs false
set_option maxHeartbeats 2000000
namespace Go.Proofs.YtfeipbgnjainlaaGreatDoor.K
open Go Go.RowKit Go.Maps Go.Sort
def InsRd(w:World)(b o:Nat)(l:List T.Ins):Prop:=∀j i,l[j]?=some i->∀k v,(insL i)[k]?=some v->w.cell? ⟨b,o+j*8+k,none⟩=some v
theorem InsRd.since{w w':World}{b o:Nat}{l:List T.Ins}(h:InsRd w b o l)(hs:Since w w'):InsRd w' b o l:=fun j i hi k v hv=>hs.keep (h j i hi k v hv)
theorem InsRd.cells{w:World}{b o:Nat}{l:List T.Ins}(h:InsRd w b o l){j:Nat}{i:T.Ins}(hi:l[j]?=some i):w.cell? ⟨b,o+j*8,none⟩=some (.int .u8 i.op)/\w.cell? ⟨b,o+j*8+1,none⟩=some (.bool i.narrow)/\w.cell? ⟨b,o+j*8+2,none⟩=some (.int .i64 i.dst)/\w.cell? ⟨b,o+j*8+3,none⟩=some (.int .i64 i.src)/\w.cell? ⟨b,o+j*8+4,none⟩=some (.bool i.useImm)/\w.cell? ⟨b,o+j*8+5,none⟩=some (.int .i64 i.off)/\w.cell? ⟨b,o+j*8+6,none⟩=some (.int .i64 i.imm)/\w.cell? ⟨b,o+j*8+7,none⟩=some (.int .i64 i.size) :=
 ⟨h j i hi 0 _ rfl,h j i hi 1 _ rfl,h j i hi 2 _ rfl,h j i hi 3 _ rfl,h j i hi 4 _ rfl,h j i hi 5 _ rfl,h j i hi 6 _ rfl,h j i hi 7 _ rfl⟩
theorem when_any(is:Bool)(n:Int)(w:World):Calls Tryz.prog 49 #[.bool is,.int .i64 n] w fun e w'=>e=.returned (.int .i64 (if is then n else 0))/\w'=w:=by
 cases is
 all_goals
  go_enter Tryz.func49,Tryz.ntmps49;go_wp2;go_ret;exact⟨rfl,rfl⟩
theorem ask1_any(b o c A n:Nat)(l:List T.Ins)(j:Nat)(w:World)(hA:w.cell? ⟨A,0,none⟩=some (.slice (some ⟨b,o,none⟩) n c))(hr:InsRd w b o l)(hl:l.length=n)(hn:n<=4096)(hj:j<n):Calls Tryz.prog 48 #[.int .i64 (j:Int),.pointer (some ⟨A,0,none⟩)] w (Ret w (.int .i64 (T.q1 l j))):=by
 have hjl:j<l.length:=by omega
 obtain⟨i,hi⟩:∃i,l[j]?=some i:=⟨l[j],List.getElem?_eq_getElem hjl⟩
 have HAT:=Hd (T.insAt_get hi);obtain⟨c0,c1,c2,c3,c4,c5,c6,c7⟩:=hr.cells hi;have j0:(0:Int)<=(j:Int):=by omega
 have j1:(j:Int)<(n:Int):=by omega
 clear hi hr hjl;have HV:=Hd (show T.q1 l j=if i.right then 0 else 4 by unfold T.q1;rw[HAT.o]);go_enter Tryz.func48,Tryz.ntmps48;go_wp2_with fail;refine(insRight_any i _).mono ?_;rintro e w2 ⟨rfl,hs⟩;have S2:=Hd hs;clear hs c0 c1 c2 c3 c4 c5 c6 c7 hA;cases hri:i.right
 all_goals
  have HV2:=Hd (HV.o.trans (by rw[hri]));clear hri;go_wp2_with fail;refine(when_any _ _ _).mono ?_;rintro e w3 ⟨rfl,rfl⟩;go_wp2;go_ret;exact⟨by rw[HV2.o];rfl,S2.o⟩
theorem ask2_any(b o c A n:Nat)(l:List T.Ins)(j:Nat)(w:World)(hA:w.cell? ⟨A,0,none⟩=some (.slice (some ⟨b,o,none⟩) n c))(hr:InsRd w b o l)(hl:l.length=n)(hn:n<=4096)(hj:j<n)(hof : -32768<=(T.insAt l j).off/\(T.insAt l j).off<=32767):Calls Tryz.prog 51 #[.int .i64 (j:Int),.pointer (some ⟨A,0,none⟩)] w (Ret w (.int .i64 (T.q2 l j))):=by
 have hjl:j<l.length:=by omega
 obtain⟨i,hi⟩:∃i,l[j]?=some i:=⟨l[j],List.getElem?_eq_getElem hjl⟩
 have HAT:=Hd (T.insAt_get hi);obtain⟨c0,c1,c2,c3,c4,c5,c6,c7⟩:=hr.cells hi;have j0:(0:Int)<=(j:Int):=by omega
 have j1:(j:Int)<(n:Int):=by omega
 clear hi hr hjl;rw[HAT.o]at hof;have HV:=Hd (show T.q2 l j=if i.jumps=false then 0 else if i.off<0 then 100 else if(n:Int)<=j+1+i.off then 101 else 0 by unfold T.q2;rw[HAT.o,hl]);go_enter Tryz.func51,Tryz.ntmps51;go_wp2_with fail;refine(jumps_any i _).mono ?_;rintro e w2 ⟨rfl,hs⟩;have hA2:=hs.keep hA;have S2:=Hd hs;clear hs c0 c1 c2 c3 c4 c5 c6 c7 hA;cases hjp:i.jumps
 case false =>
  have HJ:=Hd hjp;go_wp2;go_ret;exact⟨by rw[HV.o,if_pos HJ.o];rfl,S2.o⟩
 case true =>
  have HJ:=Hd hjp;by_cases hb:i.off<0
  ·have HV2:=Hd (show T.q2 l j=100 by rw[HV.o,if_neg (by rw[hjp];decide),if_pos hb])
   have hle:(j:Int)+1+i.off<=(j:Int):=by omega
   go_wp2;go_ret;exact⟨by rw[HV2.o];rfl,S2.o⟩
  ·have hle:¬(j:Int)+1+i.off<=(j:Int):=by omega
   by_cases hfr:(n:Int)<=(j:Int)+1+i.off
   all_goals
    have HV2:=Hd (HV.o.trans ((if_neg (by rw[hjp];decide)).trans ((if_neg hb).trans (by first|exact if_pos hfr|exact if_neg hfr))));go_wp2_with fail;refine(when_any _ _ _).mono ?_;rintro e w3 ⟨rfl,rfl⟩;go_wp2;go_ret;exact⟨by rw[HV2.o];first|rfl|simp[hfr],S2.o⟩
theorem ask3_any(b o c A n:Nat)(l:List T.Ins)(j:Nat)(w:World)(hA:w.cell? ⟨A,0,none⟩=some (.slice (some ⟨b,o,none⟩) n c))(hr:InsRd w b o l)(hl:l.length=n)(hn:n<=4096)(hj:j<n):Calls Tryz.prog 52 #[.int .i64 (j:Int),.pointer (some ⟨A,0,none⟩)] w (Ret w (.int .i64 (T.q3 l j))):=by
 have hjl:j<l.length:=by omega
 obtain⟨i,hi⟩:∃i,l[j]?=some i:=⟨l[j],List.getElem?_eq_getElem hjl⟩
 have HAT:=Hd (T.insAt_get hi);obtain⟨c0,c1,c2,c3,c4,c5,c6,c7⟩:=hr.cells hi;have j0:(0:Int)<=(j:Int):=by omega
 have j1:(j:Int)<(n:Int):=by omega
 clear hi hr hjl;have HV:=Hd (show T.q3 l j=if j+1=n/\i.op≠28/\i.op≠16 then 102 else 0 by unfold T.q3;rw[HAT.o,hl]);have S1:=Hd (show Since w w from Below.refl _ _);by_cases he:j+1=n
 case neg =>
  have HV2:=Hd (HV.o.trans (if_neg (fun q=>he q.1)));have hq:((j:Int)==(n:Int)-1)=false:=by simp;omega
  go_enter Tryz.func52,Tryz.ntmps52;go_wp2_with fail;refine(when_any _ _ _).mono ?_;rintro e w3 ⟨rfl,rfl⟩;go_wp2;go_ret;exact⟨by rw[HV2.o];rfl,S1.o⟩
 case pos =>
  have hq:((j:Int)==(n:Int)-1)=true:=by simp;omega
  by_cases h28:i.op=28
  ·have HV2:=Hd (HV.o.trans (if_neg (fun q=>q.2.1 h28)))
   go_enter Tryz.func52,Tryz.ntmps52;go_wp2_with fail;refine(when_any _ _ _).mono ?_;rintro e w3 ⟨rfl,rfl⟩;go_wp2;go_ret;exact⟨by rw[HV2.o];rfl,S1.o⟩
  ·by_cases h16:i.op=16
   ·have HV2:=Hd (HV.o.trans (if_neg (fun q=>q.2.2 h16)))
    go_enter Tryz.func52,Tryz.ntmps52;go_wp2_with fail;refine(when_any _ _ _).mono ?_;rintro e w3 ⟨rfl,rfl⟩;go_wp2;go_ret;exact⟨by rw[HV2.o];rfl,S1.o⟩
   ·have HV2:=Hd (HV.o.trans (if_pos ⟨he,h28,h16⟩))
    go_enter Tryz.func52,Tryz.ntmps52;go_wp2_with fail;refine(when_any _ _ _).mono ?_;rintro e w3 ⟨rfl,rfl⟩;go_wp2;go_ret;exact⟨by rw[HV2.o];rfl,S1.o⟩
set_option maxRecDepth 100000
set_option maxHeartbeats 4000000
theorem own_at{w:World}{base:Nat}{e:TypeId}{g n c:Nat}{xs:List Value}(h:w.ownsRow base e 1 (.slice (some ⟨g,0,none⟩) n c) n xs)(j:Nat)(v:Value)(hv:xs[j]?=some v):w.cell? ⟨g,j,none⟩=some v/\w.frozen? ⟨g,j,none⟩=false:=by
 rcases h.2 with⟨e1,_⟩|⟨g',cap,cur,e1,_,hc,_,_,_,ht⟩
 ·cases e1
 ·cases e1
  have h2:cur.toList[j]?=some v:=by
   rw[<-ht]at hv;rw[List.getElem?_take]at hv;split at hv
   ·exact hv
   ·cases hv
  exact⟨block_cell (xs:=cur.toList) (by rw[Array.toArray_toList];exact hc) h2,frozen_of_row w g j _ _ hc⟩
theorem holds_own{w:World}{base:Nat}{e:TypeId}{g n c:Nat}{zs:List Int}(h:w.ownsRow base e 1 (.slice (some ⟨g,0,none⟩) n c) n (zs.map (Value.int .i64)))(k:Nat):Holds (Value.int .i64) w g k (zs.drop k).toArray:=fun j hj=>by
 rw[List.size_toArray,List.length_drop]at hj
 have h2:(zs.map (Value.int .i64))[k+j]?=some (.int .i64 (zs.drop k)[j]!):=by
  rw[List.getElem?_map,List.getElem?_eq_getElem (by omega),Option.map_some,List.getElem!_eq_getElem?_getD,List.getElem?_drop,List.getElem?_eq_getElem (by omega)];rfl
 have h3:=own_at h (k+j) _ h2;rw[List.getElem!_toArray];exact h3
theorem sort1(a:Int):[a].mergeSort (fun x y=>decide (x<=y))=[a]:=by simp
theorem sort2{a b:Int}(h:a<=b):[a,b].mergeSort (fun x y=>decide (x<=y))=[a,b]:=by
 simp[List.mergeSort,List.MergeSort.Internal.splitInTwo,List.merge,h]
theorem compact1(a:Int):Lib.compact [a]=[a]:=by simp[Lib.compact,Lib.compactUpTo,Lib.keeps,List.range_succ]
theorem compact2{a b:Int}(h:a≠b):Lib.compact [a,b]=[a,b]:=by simp[Lib.compact,Lib.compactUpTo,Lib.keeps,List.range_succ,h,h.symm]
theorem compact3(a:Int):Lib.compact [a,a]=[a]:=by simp[Lib.compact,Lib.compactUpTo,Lib.keeps,List.range_succ]
def NextP(w:World)(zs:List Nat)(e:Ending)(w':World):Prop:=∃A n c,e=.returned (.slice A n c)/\n=zs.length/\Since w w'/\((zs=[]/\A=none)\/∃b o,A=some ⟨b,o,none⟩/\w.heap.size<=b/\∀(k z:Nat),zs[k]?=some z->w'.cell? ⟨b,o+k,none⟩=some (.int .i64 (z:Int)))
theorem infoInt:(Tryz.prog.info? 3).map (fun i=>(i.zero,i.size,i.bytes))=some (some (.int .i64 0),1,8):=by kernel_rfl
theorem cell_one(w:World)(x:Value)(t:TypeId):∀j u,[x][j]?=some u->(w.alloc (.cells #[x] t)).cell? ((⟨w.heap.size,0,none⟩:Addr).add j)=some u:=by
 intro j u hu
 match j,hu with
 | 0,hu=>simp at hu;subst hu;simp[Addr.add]
theorem slice_one(g c:Nat)(hc:¬c=1)(W:World):(Instr.slice 48 (.slice (some ⟨g,0,none⟩) 2 c) (some (.int .i64 1)) none none).run Tryz.prog W=.ok (.slice (some ⟨g,1,none⟩) 1 (c-1)) W:=by
 have h:(Instr.sliceBound (.int .i64 1) 2 BoundsCode.sliceB).run Tryz.prog W=.ok 1 W:=by
  have h0:=run_sliceBound (P:=Tryz.prog) (w:=W) IntKind.i64 1 2 BoundsCode.sliceB (by omega) (by omega);simpa using h0
 simp[Instr.slice,run_underlying Tryz.underlying48,Instr.sliceBounds,h,Tryz.sizeOf3,hc,Addr.add]
theorem Since.frozen{w w':World}(h:Since w w'){p:Addr}{v:Value}(c:w.cell? p=some v):w'.frozen? p=w.frozen? p:=World.frozen?_of_block (h.block p.block (block_lt_of_cell c))
theorem next_cell{w:World}{blk off:Nat}{zs:List Int}{ns:List Nat}(hH:∀q,q<zs.toArray.size->w.cell? ⟨blk,off+q,none⟩=some (.int .i64 zs.toArray[q]!))(he:zs=ns.map (fun(x:Nat)=>(x:Int))){k z:Nat}(hz:ns[k]?=some z):w.cell? ⟨blk,off+k,none⟩=some (.int .i64 (z:Int)):=by
 have hk:=(List.getElem?_eq_some_iff.1 hz)
 obtain⟨hk1,hk2⟩:=hk;have h1:=hH k (by rw[he];simpa using hk1);rw[h1,he];simp[hk1,hk2]
theorem next_any(b o c n:Nat)(l:List T.Ins)(j:Nat)(w:World)(hr:InsRd w b o l)(hl:l.length=n)(hn:n<=4096)(hj:j<n)(hR:(T.insAt l j).right=true)(hf:(T.insAt l j).jumps=true->0<=(T.insAt l j).off)(hof : -32768<=(T.insAt l j).off/\(T.insAt l j).off<=32767):
  Calls Tryz.prog 54 #[.slice (some ⟨b,o,none⟩) n c,.int .i64 (j:Int)] w (NextP w (T.nexts l j)):=by
 have hjl:j<l.length:=by omega
 obtain⟨i,hi⟩:∃i,l[j]?=some i:=⟨l[j],List.getElem?_eq_getElem hjl⟩
 have HAT:=Hd (T.insAt_get hi);rw[HAT.o]at hR hf hof;have HI:=Hd hi;have HRD:=Hd hr;have HRT:=Hd hR;have HF:=Hd hf;have HNX:=Hd (show T.nexts l j=if i.op=28 then[]else if i.op=16 then[j+1+i.off.toNat]else if i.jumps=false\/i.off=0 then[j+1]else[j+1,j+1+i.off.toNat]by unfold T.nexts;rw[HAT.o]);obtain⟨c0,c1,c2,c3,c4,c5,c6,c7⟩:=hr.cells hi;have j0:(0:Int)<=(j:Int):=by omega
 have jn:¬(j:Int)<0:=by omega
 have j1:(j:Int)<(n:Int):=by omega
 have j2:¬(n:Int)<=(j:Int):=by omega
 clear hi hr hjl hR hf;go_enter Tryz.func54,Tryz.ntmps54;go_wp2_with fail;refine(insRight_any i _).mono ?_;rintro e w2 ⟨rfl,hs⟩;rw[HRT.o];have S2:=Hd hs;clear hs c0 c1 c2 c3 c4 c5 c6 c7;obtain⟨c0,c1,c2,c3,c4,c5,c6,c7⟩:=(HRD.o.since S2.o).cells HI.o;by_cases h28:i.op=28
 ·have HN:=Hd (HNX.o.trans (if_pos h28))
  go_wp2;go_ret;exact⟨none,0,0,rfl,by rw[HN.o];rfl,S2.o,.inl ⟨HN.o,rfl⟩⟩
 have HN1:=Hd (HNX.o.trans (if_neg h28));have e28:(i.op==28)=false:=by simpa using h28
 go_upto_region 4 with fail;obtain⟨D,hD⟩:∃D,D=w2.heap.size:=⟨_,rfl⟩
 rw[<-hD];refine wp_gen [boxAcc D 3 [.int .i64 ((j:Int)+1)]] (by rw[hD];exact(Bank.nil S2.o).bx [.int .i64 ((j:Int)+1)] 3) (fun w3 hz=>?_);have BK3:=Hd hz;clear hz hD c0 c1 c2 c3 c4 c5 c6 c7;obtain⟨c0,c1,c2,c3,c4,c5,c6,c7⟩:=(HRD.o.since BK3.o.since).cells HI.o;go_wp2_with fail;refine(jumps_any i _).mono ?_;rintro e w4 ⟨rfl,hs⟩;have BK4:=Hd (BK3.o.call hs);clear hs BK3 c0 c1 c2 c3 c4 c5 c6 c7;obtain⟨c0,c1,c2,c3,c4,c5,c6,c7⟩:=(HRD.o.since BK4.o.since).cells HI.o;cases hjp:i.jumps
 case false =>
  have h16:¬i.op=16:=fun e=>by unfold T.Ins.jumps at hjp;rw[e]at hjp;simp at hjp
  have e16:(i.op==16)=false:=by simpa using h16
  have HN2:=Hd (HN1.o.trans ((if_neg h16).trans (if_pos (.inl hjp))));have HH:=Hd (show Holds (Value.int .i64) w4 D 0 ([(j:Int)+1]:List Int).toArray from fun k hk=>by have h0:k=0:=(by simpa using hk);subst h0;exact⟨BK4.o.cl 0 0,BK4.o.free 0 rfl 0⟩);go_wp2_with fail;refine(sort_sorted D 0 1 [(j:Int)+1] _ HH.o ((BK4.o.lt (List.mem_cons_self ..) rfl).2) (by simp) (sort1 _)).mono ?_;rintro e ws ⟨rfl,hs⟩;have HH2:=Hd (show Holds (Value.int .i64) ws D 0 ([(j:Int)+1]:List Int).toArray from fun k hk=>⟨hs.keep (HH.o k hk).1,(hs.frozen (HH.o k hk).1).trans (HH.o k hk).2⟩);have SS:=Hd (BK4.o.since.add hs);clear hs HH;go_wp2_with fail;refine(compact_self D 0 1 [(j:Int)+1] _ HH2.o (by simp) (by simp) (compact1 _)).mono ?_;rintro e wt ⟨rfl,hs⟩;have SU:=Hd (SS.o.add hs);have HH3:=Hd (fun k hk=>hs.keep (HH2.o k hk).1);clear hs;go_wp2;go_ret
  exact⟨_,_,_,rfl,by rw[HN2.o]<;>rfl,SU.o,.inr ⟨D,0,rfl,(BK4.o.lt (List.mem_cons_self ..) rfl).1,fun k z hz=>by
   rw[HN2.o]at hz
   exact next_cell (zs:=[(j:Int)+1]) (fun q hq=>HH3.o q hq) (by simp) hz⟩⟩
 case true =>
  have hp0:=HF.o hjp;obtain⟨u,hu⟩:∃u:Nat,i.off=(u:Int):=⟨i.off.toNat,by omega⟩
  have HU:=Hd hu;rw[hu]at c5;have HJ:=Hd hjp;clear hjp hp0;go_upto_region 6 with(at_builtin;refine wpList_append_bankG (BK4.o.alloc _) rfl (.tmp 38) (.tmp 47) 48 rfl 3 (.int .i64 0) 1 8 infoInt Tryz.underlying48 rfl (by decide) 0 (some ⟨D,0,none⟩) 1 1 [.int .i64 ((j:Int)+1)] rfl rfl ⟨w4.heap.size,0,none⟩ 1 1 [.int .i64 ((j:Int)+1+(u:Int))] rfl rfl (cell_one _ _ _) (by intro u hu;simp at hu;subst hu;rfl) (by unfold maxLen;omega) (by omega) ?_;intro A' n' c' w5 hn' hB5 _ _)
  obtain rfl:n'=2:=hn';have BK5:=Hd hB5;clear hB5 BK4 c0 c1 c2 c3 c4 c5 c6 c7;have HOW:=Hd (show w5.ownsRow w.heap.size 3 1 (.slice A' 2 c') 2 ([(j:Int)+1,(j:Int)+1+(u:Int)].map (Value.int .i64))from BK5.o.at 0 rfl);obtain⟨g,rfl⟩:=own_someB HOW.o (by decide);have hgl:=(BK5.o.lt (List.mem_cons_self ..) rfl).2;have hgb:=(BK5.o.lt (List.mem_cons_self ..) rfl).1;have hcap:=(row_room HOW.o).1;obtain⟨c0,c1,c2,c3,c4,c5,c6,c7⟩:=(HRD.o.since BK5.o.since).cells HI.o;by_cases h16:i.op=16
  ·have HN2:=Hd (show T.nexts l j=[j+1+u]by rw[HN1.o,if_pos h16,HU.o];rfl)
   have hc1:¬c'=1:=by omega
   have hsl:∀W,(Instr.slice 48 (.slice (some ⟨g,0,none⟩) 2 c') (some (.int .i64 1)) none none).run Tryz.prog W=.ok (.slice (some ⟨g,1,none⟩) 1 (c'-1)) W:=fun W=>slice_one g c' hc1 W
   have HH:=Hd (show Holds (Value.int .i64) w5 g 1 ([(j:Int)+1+(u:Int)]:List Int).toArray from holds_own HOW.o 1);go_wp2_with fail;refine(sort_sorted g 1 (c'-1) [(j:Int)+1+(u:Int)] _ HH.o (hgl) (by simp) (sort1 _)).mono ?_;rintro e ws ⟨rfl,hs⟩;have HH2:=Hd (show Holds (Value.int .i64) ws g 1 ([(j:Int)+1+(u:Int)]:List Int).toArray from fun k hk=>⟨hs.keep (HH.o k hk).1,(hs.frozen (HH.o k hk).1).trans (HH.o k hk).2⟩);have SS:=Hd (BK5.o.since.add hs);clear hs HH;go_wp2_with fail;refine(compact_self g 1 (c'-1) [(j:Int)+1+(u:Int)] _ HH2.o (by simp) (by simp;omega) (compact1 _)).mono ?_;rintro e wt ⟨rfl,hs⟩;have SU:=Hd (SS.o.add hs);have HH3:=Hd (fun k hk=>hs.keep (HH2.o k hk).1);clear hs;go_wp2;go_ret
   exact⟨_,_,_,rfl,by rw[HN2.o]<;>rfl,SU.o,.inr ⟨g,1,rfl,hgb,fun k z hz=>by
    rw[HN2.o]at hz
    exact next_cell (zs:=[(j:Int)+1+(u:Int)]) (fun q hq=>HH3.o q hq) (by simp) hz⟩⟩
  ·have e16:(i.op==16)=false:=by simpa using h16
   have HN2:=Hd (HN1.o.trans (if_neg h16));by_cases h0:u=0
   ·subst h0
    have HN3:=Hd (show T.nexts l j=[j+1]by rw[HN2.o,if_pos (.inr HU.o)]);have HH:=Hd (show Holds (Value.int .i64) w5 g 0 ([(j:Int)+1,(j:Int)+1]:List Int).toArray from by have h5:=holds_own HOW.o 0;simpa using h5);go_wp2_with fail;refine(sort_sorted g 0 c' [(j:Int)+1,(j:Int)+1] _ HH.o hgl (by simp) (sort2 (Int.le_refl _))).mono ?_;rintro e ws ⟨rfl,hs⟩;have HH2:=Hd (show Holds (Value.int .i64) ws g 0 ([(j:Int)+1,(j:Int)+1]:List Int).toArray from fun k hk=>⟨hs.keep (HH.o k hk).1,(hs.frozen (HH.o k hk).1).trans (HH.o k hk).2⟩);have SS:=Hd (BK5.o.since.add hs);clear hs HH;go_wp2_with fail;refine(Tryz.slices_Compact_int g 0 c' [(j:Int)+1,(j:Int)+1] _ HH2.o (by simp) (by simpa using hcap)).mono ?_;rintro e wt ⟨rfl,q,rfl⟩;rw[compact3]
    have SU:=Hd (show Since w (putRow (Value.int .i64) (Sort.ahead ws q) g 0 ([(j:Int)+1]++List.replicate ([(j:Int)+1,(j:Int)+1].length - [(j:Int)+1].length) 0).toArray)from by
     have hg:=grownBy_sortedI (w:=ws) (g:=g) (n:=q) (os:=#[]) ([(j:Int)+1]++List.replicate ([(j:Int)+1,(j:Int)+1].length - [(j:Int)+1].length) 0).toArray;rw[grow_empty]at hg
     exact SS.o.grown hg SS.o.size (fun k e=>by cases e;exact hgb))
    have HC:=Hd (cell?_putRow (Value.int .i64) (Sort.ahead ws q) g 0 _ ([(j:Int)+1]++List.replicate ([(j:Int)+1,(j:Int)+1].length - [(j:Int)+1].length) 0).toArray (holds_ahead HH2.o) (by simp) 0 (by simp));generalize putRow (Value.int .i64) (Sort.ahead ws q) g 0 ([(j:Int)+1]++List.replicate ([(j:Int)+1,(j:Int)+1].length - [(j:Int)+1].length) 0).toArray=wz at *;go_wp2;go_ret
    exact⟨_,_,_,rfl,by rw[HN3.o]<;>rfl,SU.o,.inr ⟨g,0,rfl,hgb,fun k z hz=>by
     rw[HN3.o]at hz
     have hk:k=0:=by
      have:=(List.getElem?_eq_some_iff.1 hz).1;simpa using this
     subst hk;have hz2:j+1=z:=by simpa using hz
     subst hz2
     exact HC.o⟩⟩
   ·have HN3:=Hd (show T.nexts l j=[j+1,j+1+u]by rw[HN2.o,if_neg (by rw[HJ.o,HU.o];simp;omega),HU.o];rfl)
    have HH:=Hd (show Holds (Value.int .i64) w5 g 0 ([(j:Int)+1,(j:Int)+1+(u:Int)]:List Int).toArray from holds_own HOW.o 0);go_wp2_with fail;refine(sort_sorted g 0 c' [(j:Int)+1,(j:Int)+1+(u:Int)] _ HH.o (hgl) (by simp) (sort2 (by omega))).mono ?_;rintro e ws ⟨rfl,hs⟩;have HH2:=Hd (show Holds (Value.int .i64) ws g 0 ([(j:Int)+1,(j:Int)+1+(u:Int)]:List Int).toArray from fun k hk=>⟨hs.keep (HH.o k hk).1,(hs.frozen (HH.o k hk).1).trans (HH.o k hk).2⟩);have SS:=Hd (BK5.o.since.add hs);clear hs HH;go_wp2_with fail;refine(compact_self g 0 c' [(j:Int)+1,(j:Int)+1+(u:Int)] _ HH2.o (by simp) (by simpa using hcap) (compact2 (by omega))).mono ?_;rintro e wt ⟨rfl,hs⟩;have SU:=Hd (SS.o.add hs);have HH3:=Hd (fun k hk=>hs.keep (HH2.o k hk).1);clear hs;go_wp2;go_ret
    exact⟨_,_,_,rfl,by rw[HN3.o]<;>rfl,SU.o,.inr ⟨g,0,rfl,hgb,fun k z hz=>by
     rw[HN3.o]at hz
     exact next_cell (zs:=[(j:Int)+1,(j:Int)+1+(u:Int)]) (fun q hq=>HH3.o q hq) (by simp) hz⟩⟩
set_option maxRecDepth 100000
set_option maxHeartbeats 2000000
theorem Bank.lit0G{w0 w:World}{L:List Acc}(h:Bank w0 w L)(e:TypeId)(size:Nat):Bank w0 (w.alloc (.cells #[] e)) (⟨.slice (some ⟨w.heap.size,0,Option.none⟩) 0 0,0,e,size,[]⟩::L) :=
 h.made ((Below.refl _ _).alloc (Nat.le_refl _) _) ⟨by simp,.inr ⟨w.heap.size,0,#[],rfl,Nat.le_refl _,heap_alloc_new _ _,by decide,by decide,by simp,by simp⟩⟩
theorem infoKn:(Tryz.prog.info? 124).map (fun i=>(i.zero,i.size,i.bytes))=some (some (.agg #[.int .u8 0,.int .u64 0,.int .u64 0]),3,24):=by kernel_rfl
theorem cloneKn_any(b o n c:Nat)(news:List Value)(w:World)(hl:news.length=n*3)(hn:n<=100)(hc:∀j u,news[j]?=some u->w.cell? ⟨b,o+j,none⟩=some u)(h1:∀u∈news,u.oneCell'=true):
  Calls Tryz.prog 74 #[.slice (some ⟨b,o,none⟩) n c] w fun e w'=>∃A n' c',e=.returned (.slice A n' c')/\n'=n/\Bank w w' [⟨.slice A n' c',n',124,3,news⟩]:=by
 have BK:=Hd ((Bank.nil (Below.refl w.heap.size w)).lit0G 124 3);have HC:=Hd (fun j u hj=>(BK.o.since.keep (hc j u hj)));have HL:=Hd hl;have HO:=Hd h1;have hnil:∀w,(binOp .eql 84 (.slice (some ⟨b,o,none⟩) n c) (.slice none 0 0)).run Tryz.prog w=.ok (.bool false) w:=fun _=>by kernel_rfl
 clear hc hl h1;go_enter Tryz.func74,Tryz.ntmps74;go_wp2_with (at_builtin;refine wpList_append_bankG BK.o rfl (.tmp 5) (.tmp 6) 84 rfl 124 (.agg #[.int .u8 0,.int .u64 0,.int .u64 0]) 3 24 infoKn Tryz.underlying84 rfl (by decide) 0 (some ⟨w.heap.size,0,none⟩) 0 0 [] rfl rfl ⟨b,o,none⟩ n c news rfl (by rw[HL.o]) (fun j u hj=>by rw[Addr.add_mid];exact HC.o j u hj) HO.o (by unfold maxLen;omega) (by omega) ?_;intro A' n' c' w5 hn' hB5 _ _;have HN:=Hd hn';have BK5:=Hd hB5;clear hn' hB5);go_ret;exact⟨A',n',c',rfl,by rw[HN.o,Nat.zero_add],BK5.o⟩
theorem infoBo1:(Tryz.prog.info? 4).map (fun i=>(i.zero,i.size,i.bytes))=some (some (.bool false),1,1):=by kernel_rfl
theorem cloneBo_any(b o n c:Nat)(news:List Value)(w:World)(hl:news.length=n*1)(hn:n<=1000)(hc:∀j u,news[j]?=some u->w.cell? ⟨b,o+j,none⟩=some u)(h1:∀u∈news,u.oneCell'=true):
  Calls Tryz.prog 75 #[.slice (some ⟨b,o,none⟩) n c] w fun e w'=>∃A n' c',e=.returned (.slice A n' c')/\n'=n/\Bank w w' [⟨.slice A n' c',n',4,1,news⟩]:=by
 have BK:=Hd ((Bank.nil (Below.refl w.heap.size w)).lit0G 4 1);have HC:=Hd (fun j u hj=>(BK.o.since.keep (hc j u hj)));have HL:=Hd hl;have HO:=Hd h1;have hnil:∀w,(binOp .eql 85 (.slice (some ⟨b,o,none⟩) n c) (.slice none 0 0)).run Tryz.prog w=.ok (.bool false) w:=fun _=>by kernel_rfl
 clear hc hl h1;go_enter Tryz.func75,Tryz.ntmps75;go_wp2_with (at_builtin;refine wpList_append_bankG BK.o rfl (.tmp 5) (.tmp 6) 85 rfl 4 (.bool false) 1 1 infoBo1 Tryz.underlying85 rfl (by decide) 0 (some ⟨w.heap.size,0,none⟩) 0 0 [] rfl rfl ⟨b,o,none⟩ n c news rfl (by rw[HL.o]) (fun j u hj=>by rw[Addr.add_mid];exact HC.o j u hj) HO.o (by unfold maxLen;omega) (by omega) ?_;intro A' n' c' w5 hn' hB5 _ _;have HN:=Hd hn';have BK5:=Hd hB5;clear hn' hB5);go_ret;exact⟨A',n',c',rfl,by rw[HN.o,Nat.zero_add],BK5.o⟩
set_option maxRecDepth 100000
set_option maxHeartbeats 4000000
theorem nexts_len(l:List T.Ins)(j:Nat):(T.nexts l j).length<=2:=by
 unfold T.nexts
 repeat' split
 all_goals simp
theorem set_same'{α:Type _}:∀ {L:List α} {i:Nat} {x:α},L[i]?=some x->L.set i x=L
 | [],_,_,h=>by simp at h
 | y::L,0,x,h=>by simp at h;subst h;rfl
 | y::L,i+1,x,h=>by rw[List.set_cons_succ,set_same' (by simpa using h)]
def markAll(c:List Bool)(j:Nat)(ts:List Nat):List Bool:=ts.foldl (fun c t=>T.markTo c j t) c
theorem markTo_length(c:List Bool)(j t:Nat):(T.markTo c j t).length=c.length:=by unfold T.markTo;rw[List.length_set]
theorem markAll_length(j:Nat)(ts:List Nat):∀c:List Bool,(markAll c j ts).length=c.length:=by
 induction ts with
 | nil=>intro c;rfl
 | cons t ts ih=>intro c;show(markAll (T.markTo c j t) j ts).length=_;rw[ih,markTo_length]
theorem markAll_take(c:List Bool)(j:Nat)(ts:List Nat)(k:Nat)(t:Nat)(h:ts[k]?=some t):markAll c j (ts.take (k+1))=T.markTo (markAll c j (ts.take k)) j t:=by
 have hk:=(List.getElem?_eq_some_iff.1 h).1;have e:ts[k]=t:=(List.getElem?_eq_some_iff.1 h).2;rw[List.take_succ_eq_append_getElem hk,e];unfold markAll;rw[List.foldl_append];rfl
theorem comeStep_all(l:List T.Ins)(c:List Bool)(j:Nat):T.comeStep l c j=markAll c j (T.nexts l j):=rfl
theorem boolAt(c:List Bool)(j:Nat)(h:j<c.length):(c.map Value.bool)[j]?=some (.bool (c.getD j false)):=by
 rw[List.getElem?_map,List.getElem?_eq_getElem h,List.getD_eq_getElem?_getD,List.getElem?_eq_getElem h];rfl
theorem ask4_any(b o c A C G n:Nat)(l:List T.Ins)(come:List Bool)(j:Nat){w0 w:World}{L:List Acc}(i ia ic:Nat)(hB:Bank w0 w L)(hr:InsRd w0 b o l)(hl:l.length=n)(hn:n<=4096)(hj:j<n)(hR:(T.insAt l j).right=true)(hf:(T.insAt l j).jumps=true->0<=(T.insAt l j).off)(hof : -32768<=(T.insAt l j).off/\(T.insAt l j).off<=32767)
  (hto:∀t∈T.nexts l j,t<n) (hcl:come.length=n) (hi:L[i]?=some (boxAcc G 4 (come.map Value.bool))) (hia:L[ia]?=some (boxAcc A 22 [.slice (some ⟨b,o,none⟩) n c])) (hic:L[ic]?=some (boxAcc C 85 [.slice (some ⟨G,0,none⟩) n n])) (h1:i≠ia) (h2:i≠ic) :
  Calls Tryz.prog 53 #[.int .i64 (j:Int),.pointer (some ⟨A,0,none⟩),.pointer (some ⟨C,0,none⟩)] w fun e w'=>e=.returned (.int .i64 (if(T.comeStep l come j).getD j false=false then 103 else 0))/\Bank w0 w' (L.set i (boxAcc G 4 ((T.comeStep l come j).map Value.bool))):=by
 rw[comeStep_all];obtain⟨ts,hts⟩:∃ts,T.nexts l j=ts:=⟨_,rfl⟩
 have HNP:=Hd (fun(w:World) (hr:InsRd w b o l)=>next_any b o c n l j w hr hl hn hj hR hf hof);have hnb:ts.length<=2:=by rw[<-hts];exact nexts_len l j
 rw[hts]at hto HNP ⊢;obtain⟨res,hres⟩:∃r:Int,(if(markAll come j ts).getD j false=false then 103 else 0)=r:=⟨_,rfl⟩
 rw[hres];have HRES:=Hd hres;clear hres;have HTO:=Hd hto;have HR:=Hd hr;have HCL:=Hd hcl;clear hto hr hcl hf hR;have BK0:=Hd hB;clear hB;have HIA:=Hd (fun x=>show(L.set i x)[ia]?=some (boxAcc A 22 [.slice (some ⟨b,o,none⟩) n c])by rw[List.getElem?_set_ne h1];exact hia);have HIC:=Hd (fun x=>show(L.set i x)[ic]?=some (boxAcc C 85 [.slice (some ⟨G,0,none⟩) n n])by rw[List.getElem?_set_ne h2];exact hic);have HID:=Hd (fun x=>show(L.set i x)[i]?=some x from List.getElem?_set_self (List.getElem?_eq_some_iff.1 hi).1);have hset:L.set i (boxAcc G 4 (come.map Value.bool))=L:=set_same' hi;have hGlt:=(BK0.o.boxAt i hi).2;have hGl:G<w.heap.size:=(Array.getElem?_eq_some_iff.1 hGlt).1;clear hGlt;have a0:=BK0.o.cell ia hia 0 rfl;have j0:(0:Int)<=(j:Int):=by omega
 have j1:(j:Int)<(n:Int):=by omega
 go_enter Tryz.func53,Tryz.ntmps53;go_wp2_with fail;refine(HNP.o _ (HR.o.since BK0.o.since)).mono ?_;rintro e w2 ⟨A',n',c',rfl,hn',hs,hrow⟩;have BK1:=Hd (BK0.o.call hs)
 have HROW:=Hd (show ∀(k t:Nat),ts[k]?=some t->∃b' o',A'=some ⟨b',o',none⟩/\b'≠G/\w2.cell? ⟨b',o'+k,none⟩=some (.int .i64 (t:Int))from fun k t hk=>by
  rcases hrow with⟨e,_⟩|⟨b',o',e1,e2,e3⟩
  ·subst e;simp at hk
  ·exact⟨b',o',e1,by omega,e3 k t hk⟩)
 have HN:=Hd hn';have hnb2:n'<=2:=by omega
 clear hs hrow a0 BK0 hn';go_wp2;go_loopw [6,11] (fun v x wr=>∃k:Nat,k<=n'/\x=.int .i64 (k:Int)/\Bank w0 wr (L.set i (boxAcc G 4 ((markAll come j (ts.take k)).map Value.bool)))/\(∀(q t:Nat),ts[q]?=some t->∃b' o',A'=some ⟨b',o',none⟩/\b'≠G/\wr.cell? ⟨b',o'+q,none⟩=some (.int .i64 (t:Int)))) (fun _ x _=>n'-(intOf x).toNat)
 case atStart=>exact⟨0,Nat.zero_le _,rfl,by show Bank w0 w2 (L.set i (boxAcc G 4 (come.map Value.bool)));rw[hset];exact BK1.o,HROW.o⟩
 case round =>
  obtain⟨k,hk,rfl,hB,hrw⟩:=hrel;have HB:=Hd hB;have HRW:=Hd hrw;clear hB hrw;have k0:(0:Int)<=(k:Int):=by omega
  by_cases hlt:k<n'
  ·have i1:(k:Int)<(n':Int):=by omega
   obtain⟨t,ht⟩:∃t,ts[k]?=some t:=⟨ts[k]'(by have:=HN.o;omega),List.getElem?_eq_getElem _⟩
   have htn:t<n:=HTO.o t (List.mem_of_getElem? ht);obtain⟨b',o',rfl,hbG,hct⟩:=HRW.o k t ht;have HMT:=Hd (markAll_take come j ts k t ht);obtain⟨cm,hcm⟩:∃cm,markAll come j (ts.take k)=cm:=⟨_,rfl⟩
   have hcml:cm.length=n:=by rw[<-hcm,markAll_length];exact HCL.o
   have HB':=Hd (show Bank w0 wr (L.set i (boxAcc G 4 (cm.map Value.bool)))by rw[<-hcm];exact HB.o);rw[hcm]at HMT;have HCM:=Hd hcml;clear hcm HB;have t0:(0:Int)<=(t:Int):=by omega
   have t1:(t:Int)<(n:Int):=by omega
   have d0:=HB'.o.cell ic (HIC.o _) 0 rfl;have e0:=HB'.o.cell i (HID.o _) t (boolAt cm t (by omega));have e1:=HB'.o.cell i (HID.o _) j (boolAt cm j (by omega));have e2:=HB'.o.free i (HID.o _) t;obtain⟨x,hx⟩:∃x,cm.getD t false=x:=⟨_,rfl⟩
   obtain⟨y,hy⟩:∃y,cm.getD j false=y:=⟨_,rfl⟩
   rw[hx]at e0;rw[hy]at e1
   have HFB:=Hd (show Bank w0 (wr.drew.setCell ⟨G,t,none⟩ (.bool (x||y))) (L.set i (boxAcc G 4 ((T.markTo cm j t).map Value.bool)))by
    have h:=HB'.o.drew.boxSet i (HID.o _) t (.bool (x||y));rw[List.set_set,<-List.map_set]at h;unfold T.markTo;rw[hx,hy]
    exact h)
   have HRW2:=Hd (show ∀(q t':Nat),ts[q]?=some t'->∃b'' o'',some ⟨b',o',none⟩=some (⟨b'',o'',none⟩:Addr)/\b''≠G/\(wr.drew.setCell ⟨G,t,none⟩ (.bool (x||y))).cell? ⟨b'',o''+q,none⟩=some (.int .i64 (t':Int))from fun q t' hq=>by
    obtain⟨b2,o2,e1,e2,e3⟩:=HRW.o q t' hq;refine⟨b2,o2,e1,e2,?_⟩;rw[World.cell?_setCell_other _ _ _ _ (fun e=>e2 (by injection e with h1 _;exact h1.symm))]
    exact e3)
   clear hx hy;cases x
   case false =>
    go_upto_region 4 with fail;refine WL.region (SApp 13 (fun w'=>w'.cell? ⟨C,0,none⟩=some (.slice (some ⟨G,0,none⟩) n n)/\w'.cell? ⟨G,t,none⟩=some (.bool false)/\w'.cell? ⟨G,j,none⟩=some (.bool y)) (fun _=>True)) (by kernel_rfl) ?_;intro hsh;have hS:SApp 13 (fun w'=>w'.cell? ⟨C,0,none⟩=some (.slice (some ⟨G,0,none⟩) n n)/\w'.cell? ⟨G,t,none⟩=some (.bool false)/\w'.cell? ⟨G,j,none⟩=some (.bool y)) (fun _=>True) (Array.replicate 14 false) wr.drew:=⟨fun _=>⟨d0,e0,e1⟩,trivial⟩
    refine WL.take (i:=0) (v:=.slice (some ⟨G,0,none⟩) n n) rfl (by kernel_rfl) (by kernel_rfl) (by kernel_rfl) (fun _ _ _ h=>h) (SApp.hm (by decide)) (SApp.both (by kernel_rfl)) hsh (Or.inl ⟨by kernel_rfl,?_⟩) hS ?_
    ·intro w hSw
     obtain⟨⟨s1,s2,s3⟩,_⟩:=hSw;go_simp
    clear hsh hS;intro hsh hS
    (try simp only[Act.put,sA,sZ,sS])
    refine WL.take (i:=1) (v:=.int .i64 (t:Int)) (S0:=fun _=>True) rfl (by kernel_rfl) (by kernel_rfl) (by kernel_rfl) (fun _ _ _ h=>h) (SApp.hm (by decide)) (SApp.any) hsh (Or.inl ⟨by kernel_rfl,?_⟩) hS ?_
    ·intro w hSw
     clear hSw;go_simp
    clear hsh hS;intro hsh hS
    (try simp only[Act.put,sA,sZ,sS])
    refine WL.take (i:=2) (v:=.slice (some ⟨G,0,none⟩) n n) rfl (by kernel_rfl) (by kernel_rfl) (by kernel_rfl) (fun _ _ _ h=>h) (SApp.hm (by decide)) (SApp.both (by kernel_rfl)) hsh (Or.inl ⟨by kernel_rfl,?_⟩) hS ?_
    ·intro w hSw
     obtain⟨⟨s1,s2,s3⟩,_⟩:=hSw;go_simp
    clear hsh hS;intro hsh hS
    (try simp only[Act.put,sA,sZ,sS])
    refine WL.take (i:=3) (v:=.int .i64 (t:Int)) (S0:=fun _=>True) rfl (by kernel_rfl) (by kernel_rfl) (by kernel_rfl) (fun _ _ _ h=>h) (SApp.hm (by decide)) (SApp.any) hsh (Or.inl ⟨by kernel_rfl,?_⟩) hS ?_
    ·intro w hSw
     clear hSw;go_simp
    clear hsh hS;intro hsh hS
    (try simp only[Act.put,sA,sZ,sS])
    refine WL.take (i:=4) (v:=.pointer (some ⟨G,t,none⟩)) (S0:=fun _=>True) rfl (by kernel_rfl) (by kernel_rfl) (by kernel_rfl) (fun _ _ _ h=>h) (SApp.hm (by decide)) (SApp.any) hsh (Or.inl ⟨by kernel_rfl,?_⟩) hS ?_
    ·intro w hSw
     clear hSw;go_simp
    clear hsh hS;intro hsh hS
    (try simp only[Act.put,sA,sZ,sS])
    refine WL.take (i:=5) (v:=.bool false) rfl (by kernel_rfl) (by kernel_rfl) (by kernel_rfl) (fun _ _ _ h=>h) (SApp.hm (by decide)) (SApp.both (by kernel_rfl)) hsh (Or.inl ⟨by kernel_rfl,?_⟩) hS ?_
    ·intro w hSw
     obtain⟨⟨s1,s2,s3⟩,_⟩:=hSw;go_simp
    clear hsh hS;intro hsh hS
    (try simp only[Act.put,sA,sZ,sS])
    refine WL.take (i:=6) (v:=.bool false) (S0:=fun _=>True) rfl (by kernel_rfl) (by kernel_rfl) (by kernel_rfl) (fun _ _ _ h=>h) (SApp.hm (by decide)) (SApp.any) hsh (Or.inl ⟨by kernel_rfl,?_⟩) hS ?_
    ·intro w hSw
     clear hSw;go_simp
    clear hsh hS;intro hsh hS
    (try simp only[Act.put,sA,sZ,sS])
    refine WL.take (i:=7) (v:=.slice (some ⟨G,0,none⟩) n n) rfl (by kernel_rfl) (by kernel_rfl) (by kernel_rfl) (fun _ _ _ h=>h) (SApp.hm (by decide)) (SApp.both (by kernel_rfl)) hsh (Or.inl ⟨by kernel_rfl,?_⟩) hS ?_
    ·intro w hSw
     obtain⟨⟨s1,s2,s3⟩,_⟩:=hSw;go_simp
    clear hsh hS;intro hsh hS
    (try simp only[Act.put,sA,sZ,sS])
    refine WL.take (i:=8) (v:=.int .i64 (j:Int)) (S0:=fun _=>True) rfl (by kernel_rfl) (by kernel_rfl) (by kernel_rfl) (fun _ _ _ h=>h) (SApp.hm (by decide)) (SApp.any) hsh (Or.inl ⟨by kernel_rfl,?_⟩) hS ?_
    ·intro w hSw
     clear hSw;go_simp
    clear hsh hS;intro hsh hS
    (try simp only[Act.put,sA,sZ,sS])
    refine WL.take (i:=9) (v:=.pointer (some ⟨G,j,none⟩)) (S0:=fun _=>True) rfl (by kernel_rfl) (by kernel_rfl) (by kernel_rfl) (fun _ _ _ h=>h) (SApp.hm (by decide)) (SApp.any) hsh (Or.inl ⟨by kernel_rfl,?_⟩) hS ?_
    ·intro w hSw
     clear hSw;go_simp
    clear hsh hS;intro hsh hS
    (try simp only[Act.put,sA,sZ,sS])
    refine WL.take (i:=10) (v:=.bool y) rfl (by kernel_rfl) (by kernel_rfl) (by kernel_rfl) (fun _ _ _ h=>h) (SApp.hm (by decide)) (SApp.both (by kernel_rfl)) hsh (Or.inl ⟨by kernel_rfl,?_⟩) hS ?_
    ·intro w hSw
     obtain⟨⟨s1,s2,s3⟩,_⟩:=hSw;go_simp
    clear hsh hS;intro hsh hS
    (try simp only[Act.put,sA,sZ,sS])
    refine WL.take (i:=11) (v:=.bool y) (S0:=fun _=>True) rfl (by kernel_rfl) (by kernel_rfl) (by kernel_rfl) (fun _ _ _ h=>h) (SApp.hm (by decide)) (SApp.any) hsh (Or.inl ⟨by kernel_rfl,?_⟩) hS ?_
    ·intro w hSw
     clear hSw;go_simp
    clear hsh hS;intro hsh hS
    (try simp only[Act.put,sA,sZ,sS])
    refine WL.take (i:=12) (v:=.pointer (some ⟨G,t,none⟩)) (S0:=fun _=>True) rfl (by kernel_rfl) (by kernel_rfl) (by kernel_rfl) (fun _ _ _ h=>h) (SApp.hm (by decide)) (SApp.any) hsh (Or.inl ⟨by kernel_rfl,?_⟩) hS ?_
    ·intro w hSw
     clear hSw;go_simp
    clear hsh hS;intro hsh hS
    (try simp only[Act.put,sA,sZ,sS])
    have HSH:=Hd hsh;clear hsh hS;refine WL.one (i:=13) HSH.o (by kernel_rfl) rfl ?_;intro K hK;have HK:=Hd hK;clear hK;go_simp;refine HK.o _ _ (SApp.intro (fun h=>(by cases h)) trivial) ?_;clear K HK HSH;intro _ _
    (try simp only[Act.put,sA,sZ,sS])
    refine WL.done (by kernel_rfl) ?_ _;try simp only[Exit.then]
    go_wp2;go_round
    case rel=>exact⟨k+1,by omega,by go_num,by rw[HMT.o];exact HFB.o,HRW2.o⟩
    case measure=>simp[intOf];omega
   case true =>
    go_upto_region 4 with fail;refine WL.region (SApp 13 (fun w'=>w'.cell? ⟨C,0,none⟩=some (.slice (some ⟨G,0,none⟩) n n)/\w'.cell? ⟨G,t,none⟩=some (.bool true)/\w'.cell? ⟨G,j,none⟩=some (.bool y)) (fun _=>True)) (by kernel_rfl) ?_;intro hsh;have hS:SApp 13 (fun w'=>w'.cell? ⟨C,0,none⟩=some (.slice (some ⟨G,0,none⟩) n n)/\w'.cell? ⟨G,t,none⟩=some (.bool true)/\w'.cell? ⟨G,j,none⟩=some (.bool y)) (fun _=>True) (Array.replicate 14 false) wr.drew:=⟨fun _=>⟨d0,e0,e1⟩,trivial⟩
    refine WL.take (i:=0) (v:=.slice (some ⟨G,0,none⟩) n n) rfl (by kernel_rfl) (by kernel_rfl) (by kernel_rfl) (fun _ _ _ h=>h) (SApp.hm (by decide)) (SApp.both (by kernel_rfl)) hsh (Or.inl ⟨by kernel_rfl,?_⟩) hS ?_
    ·intro w hSw
     obtain⟨⟨s1,s2,s3⟩,_⟩:=hSw;go_simp
    clear hsh hS;intro hsh hS
    (try simp only[Act.put,sA,sZ,sS])
    refine WL.take (i:=1) (v:=.int .i64 (t:Int)) (S0:=fun _=>True) rfl (by kernel_rfl) (by kernel_rfl) (by kernel_rfl) (fun _ _ _ h=>h) (SApp.hm (by decide)) (SApp.any) hsh (Or.inl ⟨by kernel_rfl,?_⟩) hS ?_
    ·intro w hSw
     clear hSw;go_simp
    clear hsh hS;intro hsh hS
    (try simp only[Act.put,sA,sZ,sS])
    refine WL.take (i:=2) (v:=.slice (some ⟨G,0,none⟩) n n) rfl (by kernel_rfl) (by kernel_rfl) (by kernel_rfl) (fun _ _ _ h=>h) (SApp.hm (by decide)) (SApp.both (by kernel_rfl)) hsh (Or.inl ⟨by kernel_rfl,?_⟩) hS ?_
    ·intro w hSw
     obtain⟨⟨s1,s2,s3⟩,_⟩:=hSw;go_simp
    clear hsh hS;intro hsh hS
    (try simp only[Act.put,sA,sZ,sS])
    refine WL.take (i:=3) (v:=.int .i64 (t:Int)) (S0:=fun _=>True) rfl (by kernel_rfl) (by kernel_rfl) (by kernel_rfl) (fun _ _ _ h=>h) (SApp.hm (by decide)) (SApp.any) hsh (Or.inl ⟨by kernel_rfl,?_⟩) hS ?_
    ·intro w hSw
     clear hSw;go_simp
    clear hsh hS;intro hsh hS
    (try simp only[Act.put,sA,sZ,sS])
    refine WL.take (i:=4) (v:=.pointer (some ⟨G,t,none⟩)) (S0:=fun _=>True) rfl (by kernel_rfl) (by kernel_rfl) (by kernel_rfl) (fun _ _ _ h=>h) (SApp.hm (by decide)) (SApp.any) hsh (Or.inl ⟨by kernel_rfl,?_⟩) hS ?_
    ·intro w hSw
     clear hSw;go_simp
    clear hsh hS;intro hsh hS
    (try simp only[Act.put,sA,sZ,sS])
    refine WL.take (i:=5) (v:=.bool true) rfl (by kernel_rfl) (by kernel_rfl) (by kernel_rfl) (fun _ _ _ h=>h) (SApp.hm (by decide)) (SApp.both (by kernel_rfl)) hsh (Or.inl ⟨by kernel_rfl,?_⟩) hS ?_
    ·intro w hSw
     obtain⟨⟨s1,s2,s3⟩,_⟩:=hSw;go_simp
    clear hsh hS;intro hsh hS
    (try simp only[Act.put,sA,sZ,sS])
    refine WL.take (i:=6) (v:=.bool true) (S0:=fun _=>True) rfl (by kernel_rfl) (by kernel_rfl) (by kernel_rfl) (fun _ _ _ h=>h) (SApp.hm (by decide)) (SApp.any) hsh (Or.inl ⟨by kernel_rfl,?_⟩) hS ?_
    ·intro w hSw
     clear hSw;go_simp
    clear hsh hS;intro hsh hS
    (try simp only[Act.put,sA,sZ,sS])
    refine WL.take (i:=7) (v:=undef) (S0:=fun _=>True) rfl (by kernel_rfl) (by kernel_rfl) (by kernel_rfl) (fun _ _ _ h=>h) (SApp.hm (by decide)) (SApp.any) hsh (Or.inr ⟨by kernel_rfl,rfl⟩) hS ?_;clear hsh hS;intro hsh hS
    (try simp only[Act.put,sA,sZ,sS])
    refine WL.take (i:=8) (v:=undef) (S0:=fun _=>True) rfl (by kernel_rfl) (by kernel_rfl) (by kernel_rfl) (fun _ _ _ h=>h) (SApp.hm (by decide)) (SApp.any) hsh (Or.inr ⟨by kernel_rfl,rfl⟩) hS ?_;clear hsh hS;intro hsh hS
    (try simp only[Act.put,sA,sZ,sS])
    refine WL.take (i:=9) (v:=undef) (S0:=fun _=>True) rfl (by kernel_rfl) (by kernel_rfl) (by kernel_rfl) (fun _ _ _ h=>h) (SApp.hm (by decide)) (SApp.any) hsh (Or.inr ⟨by kernel_rfl,rfl⟩) hS ?_;clear hsh hS;intro hsh hS
    (try simp only[Act.put,sA,sZ,sS])
    refine WL.take (i:=10) (v:=undef) (S0:=fun _=>True) rfl (by kernel_rfl) (by kernel_rfl) (by kernel_rfl) (fun _ _ _ h=>h) (SApp.hm (by decide)) (SApp.any) hsh (Or.inr ⟨by kernel_rfl,rfl⟩) hS ?_;clear hsh hS;intro hsh hS
    (try simp only[Act.put,sA,sZ,sS])
    refine WL.take (i:=11) (v:=.bool true) (S0:=fun _=>True) rfl (by kernel_rfl) (by kernel_rfl) (by kernel_rfl) (fun _ _ _ h=>h) (SApp.hm (by decide)) (SApp.any) hsh (Or.inl ⟨by kernel_rfl,?_⟩) hS ?_
    ·intro w hSw
     clear hSw;go_simp
    clear hsh hS;intro hsh hS
    (try simp only[Act.put,sA,sZ,sS])
    refine WL.take (i:=12) (v:=.pointer (some ⟨G,t,none⟩)) (S0:=fun _=>True) rfl (by kernel_rfl) (by kernel_rfl) (by kernel_rfl) (fun _ _ _ h=>h) (SApp.hm (by decide)) (SApp.any) hsh (Or.inl ⟨by kernel_rfl,?_⟩) hS ?_
    ·intro w hSw
     clear hSw;go_simp
    clear hsh hS;intro hsh hS
    (try simp only[Act.put,sA,sZ,sS])
    have HSH:=Hd hsh;clear hsh hS;refine WL.one (i:=13) HSH.o (by kernel_rfl) rfl ?_;intro K hK;have HK:=Hd hK;clear hK;go_simp;refine HK.o _ _ (SApp.intro (fun h=>(by cases h)) trivial) ?_;clear K HK HSH;intro _ _
    (try simp only[Act.put,sA,sZ,sS])
    refine WL.done (by kernel_rfl) ?_ _;try simp only[Exit.then]
    go_wp2;go_round
    case rel=>exact⟨k+1,by omega,by go_num,by rw[HMT.o];exact HFB.o,HRW2.o⟩
    case measure=>simp[intOf];omega
  ·have i1:¬(k:Int)<(n':Int):=by omega
   obtain rfl:k=n':=by omega
   have HE:=Hd (show ts.take k=ts from List.take_of_length_le (by have:=HN.o;omega));rw[HE.o]at HB;have HFL:=Hd (show(markAll come j ts).length=n by rw[markAll_length];exact HCL.o);have d0:=HB.o.cell ic (HIC.o _) 0 rfl;have e1:=HB.o.cell i (HID.o _) j (boolAt (markAll come j ts) j (by have:=HFL.o;omega));cases hy:(markAll come j ts).getD j false
   all_goals
    rw[hy]at e1;have HY:=Hd hy;clear hy;go_wp2_with fail;refine(when_any _ _ _).mono ?_;rintro e w9 ⟨rfl,rfl⟩;go_wp2;go_ret;exact⟨by rw[<-HRES.o,HY.o];rfl,HB.o⟩
set_option maxRecDepth 100000
set_option maxHeartbeats 8000000
theorem firstOf_at{f:Nat->Int}{n k:Nat}(h:∀q,q<k->f q=0)(hk:k<n)(hf:f k≠0):T.firstOf f n 0=some (f k,k):=by
 suffices ∀m j,j<=k->k<j+m->T.firstOf f m j=some (f k,k)from this n 0 (Nat.zero_le _) (by omega)
 intro m
 induction m with
 | zero=>intro j h1 h2;omega
 | succ m ih =>
   intro j h1 h2;unfold T.firstOf;by_cases e:j=k
   ·subst e;rw[if_pos hf]
   ·rw[if_neg (fun x=>x (h j (by omega)))]
    exact ih (j+1) (by omega) (by omega)
theorem firstOf_no{f:Nat->Int}{n:Nat}(h:∀q,q<n->f q=0):T.firstOf f n 0=none:=T.firstOf_of fun k _ hk=>h k (by omega)
theorem comes_length(l:List T.Ins)(hn:l ≠ []):∀j,(T.comes l j).length=l.length
 | 0=>by unfold T.comes;rw[List.length_set,List.length_replicate]
 | j+1=>by show(T.comeStep l (T.comes l j) j).length=_;rw[comeStep_all,markAll_length,comes_length l hn j]
theorem q4_eq(l:List T.Ins)(j:Nat):T.q4 l j=if(T.comeStep l (T.comes l j) j).getD j false=false then 103 else 0:=rfl
theorem nexts_lt{l:List T.Ins}(h1:∀j,j<l.length->T.q1 l j=0)(h2:∀j,j<l.length->T.q2 l j=0)(h3:∀j,j<l.length->T.q3 l j=0){j:Nat}(hj:j<l.length):(T.insAt l j).right=true/\((T.insAt l j).jumps=true->0<=(T.insAt l j).off)/\(-32768<=(T.insAt l j).off/\(T.insAt l j).off<=32767)/\∀t∈T.nexts l j,t<l.length:=by
 have hr:(T.insAt l j).right=true:=by
  have:=h1 j hj;unfold T.q1 at this;split at this
  ·assumption
  ·cases this
 have hjf:(T.insAt l j).jumps=true->0<=(T.insAt l j).off/\(j:Int)+1+(T.insAt l j).off<l.length:=fun hjp=>by
  have:=h2 j hj;unfold T.q2 at this;rw[hjp]at this;simp only[Bool.true_eq_false,if_false]at this;split at this
  ·cases this
  ·split at this
   ·cases this
   ·exact⟨by omega,by omega⟩
 have hnx:(T.insAt l j).op≠28->(T.insAt l j).op≠16->j+1<l.length:=fun ha hb=>by
  have:=h3 j hj;unfold T.q3 at this;split at this
  ·cases this
  ·rename_i hc
   rcases Nat.lt_or_ge (j+1) l.length with h|h
   ·exact h
   ·exact absurd ⟨by omega,ha,hb⟩ hc
 refine⟨hr,fun h=>(hjf h).1,(T.right_facts hr).2.2.1,fun t ht=>?_⟩;unfold T.nexts at ht;split at ht
 ·cases ht
 ·rename_i e28
  split at ht
  ·rename_i e16
   have hjp:(T.insAt l j).jumps=true:=by unfold T.Ins.jumps;rw[e16];rfl
   have:=hjf hjp;rw[List.mem_singleton]at ht;omega
  ·rename_i e16
   have hb:=hnx e28 e16;split at ht
   ·rw[List.mem_singleton]at ht;omega
   ·rename_i hq
    have hjp:(T.insAt l j).jumps=true:=by
     cases hx:(T.insAt l j).jumps with
     | true=>rfl
     | false=>exact absurd (.inl hx) hq
    have:=hjf hjp;rcases List.mem_cons.1 ht with rfl|ht
    ·exact hb
    ·rw[List.mem_singleton]at ht;omega
theorem right_off{l:List T.Ins}{j:Nat}(h:T.q1 l j=0): -32768<=(T.insAt l j).off/\(T.insAt l j).off<=32767:=by
 unfold T.q1 at h;split at h
 ·rename_i hr;exact(T.right_facts hr).2.2.1
 ·cases h
def shapeR(l:List T.Ins):Int×Int:=match T.shapeO l with
 | some r=>(r.1,(r.2:Int))
 | none=>(0,0)
theorem first_any(b o c A C G F n:Nat)(l:List T.Ins){w0 w:World}{L:List Acc}(i ia ic jf:Nat)(hB:Bank w0 w L)(hr:InsRd w0 b o l)(hl:l.length=n)(hn:n<=4096)(hne:l ≠ [])
  (hi:L[i]?=some (boxAcc G 4 ((T.comes l 0).map Value.bool))) (hia:L[ia]?=some (boxAcc A 22 [.slice (some ⟨b,o,none⟩) n c])) (hic:L[ic]?=some (boxAcc C 85 [.slice (some ⟨G,0,none⟩) n n])) (hif:L[jf]?=some (boxAcc F 108 [.func (.func 48) #[] #[.pointer (some ⟨A,0,none⟩)],.func (.func 51) #[] #[.pointer (some ⟨A,0,none⟩)],.func (.func 52) #[] #[.pointer (some ⟨A,0,none⟩)],.func (.func 53) #[] #[.pointer (some ⟨A,0,none⟩),.pointer (some ⟨C,0,none⟩)]])) (h1:i≠ia) (h2:i≠ic) (h3:i≠jf) :
  Calls Tryz.prog 47 #[.int .i64 (n:Int),.slice (some ⟨F,0,none⟩) 4 4] w fun e w'=>e=.returned (.agg #[.int .i64 (shapeR l).1,.int .i64 (shapeR l).2])/\∃come:List Bool,Bank w0 w' (L.set i (boxAcc G 4 (come.map Value.bool))):=by
 have HR:=Hd hr;have HNE:=Hd hne;clear hr;have HIA:=Hd (fun x=>show(L.set i x)[ia]?=some (boxAcc A 22 [.slice (some ⟨b,o,none⟩) n c])by rw[List.getElem?_set_ne h1];exact hia);have HIC:=Hd (fun x=>show(L.set i x)[ic]?=some (boxAcc C 85 [.slice (some ⟨G,0,none⟩) n n])by rw[List.getElem?_set_ne h2];exact hic);have HIF:=Hd (fun x=>show(L.set i x)[jf]?=some (boxAcc F 108 [.func (.func 48) #[] #[.pointer (some ⟨A,0,none⟩)],.func (.func 51) #[] #[.pointer (some ⟨A,0,none⟩)],.func (.func 52) #[] #[.pointer (some ⟨A,0,none⟩)],.func (.func 53) #[] #[.pointer (some ⟨A,0,none⟩),.pointer (some ⟨C,0,none⟩)]])by rw[List.getElem?_set_ne h3];exact hif);have HID:=Hd (fun x=>show(L.set i x)[i]?=some x from List.getElem?_set_self (List.getElem?_eq_some_iff.1 hi).1);have hset:L.set i (boxAcc G 4 ((T.comes l 0).map Value.bool))=L:=set_same' hi;have BK0:=hB.bx [.int .i64 0,.int .i64 0] 27;rw[<-hset]at BK0;have BK:=Hd BK0;clear BK0 hB hset hi hia hic hif;obtain⟨D,hD⟩:∃D,D=w.heap.size:=⟨_,rfl⟩
 rw[<-hD]at BK;go_enter Tryz.func47,Tryz.ntmps47;go_upto_region 1 with fail;rw[<-hD];refine wp_hid BK (fun w1 BK=>?_);clear hD;go_wp2;go_loopw [6,7,8,11,16] (fun _ _ _ x _ wr=>∃q:Nat,q<=4/\x=.int .i64 (q:Int)/\(1<=q->∀j,j<n->T.q1 l j=0)/\(2<=q->∀j,j<n->T.q2 l j=0)/\(3<=q->∀j,j<n->T.q3 l j=0)/\(4<=q->∀j,j<n->T.q4 l j=0)/\∃m,(q<=3->m=0)/\Bank w0 wr (boxAcc D 27 [.int .i64 0,.int .i64 0]::L.set i (boxAcc G 4 ((T.comes l m).map Value.bool)))) (fun _ _ _ x _ _=>4-(intOf x).toNat)
 case atStart=>exact⟨0,by decide,rfl,by omega,by omega,by omega,by omega,0,fun _=>rfl,BK.o⟩
 case round =>
  obtain⟨q,hq,rfl,a1,a2,a3,a4,m,hm,hB⟩:=hrel;have HBO:=Hd hB;clear hB;rcases(show q=0\/q=1\/q=2\/q=3\/q=4 by omega)with rfl|rfl|rfl|rfl|rfl
  ·obtain rfl:=hm (by decide)
   have hfc:=HBO.o.cell (jf+1) (HIF.o _) 0 rfl;clear a1 a2 a3 a4 hm hq;rw[show((0:Nat):Int)=0 from rfl];go_wp2;go_loopw [7,8,16] (fun _ _ x wr=>∃k:Nat,k<=n/\x=.int .i64 (k:Int)/\(∀p,p<k->T.q1 l p=0)/\Bank w0 wr (boxAcc D 27 [.int .i64 0,.int .i64 0]::L.set i (boxAcc G 4 ((T.comes l 0).map Value.bool)))) (fun _ _ x _=>n-(intOf x).toNat)
   case atStart=>exact⟨0,Nat.zero_le _,rfl,fun p hp=>absurd hp (Nat.not_lt_zero _),HBO.o⟩
   case round =>
    obtain⟨k,hk,rfl,hno,hB⟩:=hrel;have HB:=Hd hB;have HNO:=Hd hno;clear hB hno;have k0:(0:Int)<=(k:Int):=by omega
    by_cases hlt:k<n
    ·have i1:(k:Int)<(n:Int):=by omega
     have ha:=HB.o.cell (ia+1) (HIA.o _) 0 rfl;go_wp2_with fail;refine(ask1_any b o c A n l k _ ha (HR.o.since HB.o.since) hl hn hlt).mono ?_;rintro e w5 ⟨rfl,hs⟩;have HB5:=Hd (show Bank w0 w5 (boxAcc D 27 [.int .i64 0,.int .i64 0]::L.set i (boxAcc G 4 ((T.comes l 0).map Value.bool)))from HB.o.call hs);clear hs ha;obtain⟨d0,d1,f0,f1⟩:=HB5.o.r2 0 rfl
     skip
     by_cases hq:T.q1 l k=0
     ·have HNO2:=Hd (show ∀p,p<k+1->T.q1 l p=0 from fun p hp=>by
       by_cases e:p=k
       ·rw[e];exact hq
       ·exact HNO.o p (by omega))
      rw[hq];clear hq d0 d1 f0 f1;go_wp2;go_round
      case rel=>exact⟨k+1,by omega,by go_num,HNO2.o,HB5.o⟩
      case measure=>simp[intOf];omega
     ·have HFO:=Hd (firstOf_at (n:=n) HNO.o hlt hq)
      obtain⟨r,hr⟩:∃r,T.q1 l k=r:=⟨_,rfl⟩
      rw[hr]at hq HFO ⊢;have e9:(r != 0)=true:=by simpa using hq
      clear hr hq
      have HRR:=Hd (show shapeR l=(r,(k:Int))by
       unfold shapeR T.shapeO;rw[hl,HFO.o]
       rfl)
      go_wp2;refine bodyPost_ret (v:=.agg #[.int .i64 r,.int .i64 (k:Int)]) ?_ rfl ⟨by rw[HRR.o],T.comes l 0,((HB5.o.bs 0 0 (.int .i64 r)).bs 0 1 (.int .i64 (k:Int))).drop⟩;simp[results,Tryz.results47,go_sem,d0,d1]
    ·have i1:¬(k:Int)<(n:Int):=by omega
     obtain rfl:k=n:=by omega
     go_wp2
     go_roundw
     case rel=>exact⟨1,by decide,by go_num,fun _=>HNO.o,fun h=>absurd h (by decide),fun h=>absurd h (by decide),fun h=>absurd h (by decide),0,fun _=>rfl,HB.o⟩
     case measure=>simp[intOf]
  ·obtain rfl:=hm (by decide)
   have HQ1:=Hd (a1 (by decide));have hfc:=HBO.o.cell (jf+1) (HIF.o _) 1 rfl;clear a1 a2 a3 a4 hm hq;rw[show((1:Nat):Int)=1 from rfl];go_wp2;go_loopw [7,8,16] (fun _ _ x wr=>∃k:Nat,k<=n/\x=.int .i64 (k:Int)/\(∀p,p<k->T.q2 l p=0)/\Bank w0 wr (boxAcc D 27 [.int .i64 0,.int .i64 0]::L.set i (boxAcc G 4 ((T.comes l 0).map Value.bool)))) (fun _ _ x _=>n-(intOf x).toNat)
   case atStart=>exact⟨0,Nat.zero_le _,rfl,fun p hp=>absurd hp (Nat.not_lt_zero _),HBO.o⟩
   case round =>
    obtain⟨k,hk,rfl,hno,hB⟩:=hrel;have HB:=Hd hB;have HNO:=Hd hno;clear hB hno;have k0:(0:Int)<=(k:Int):=by omega
    by_cases hlt:k<n
    ·have i1:(k:Int)<(n:Int):=by omega
     have ha:=HB.o.cell (ia+1) (HIA.o _) 0 rfl;go_wp2_with fail;refine(ask2_any b o c A n l k _ ha (HR.o.since HB.o.since) hl hn hlt (right_off (HQ1.o k hlt))).mono ?_;rintro e w5 ⟨rfl,hs⟩;have HB5:=Hd (show Bank w0 w5 (boxAcc D 27 [.int .i64 0,.int .i64 0]::L.set i (boxAcc G 4 ((T.comes l 0).map Value.bool)))from HB.o.call hs);clear hs ha;obtain⟨d0,d1,f0,f1⟩:=HB5.o.r2 0 rfl
     skip
     by_cases hq:T.q2 l k=0
     ·have HNO2:=Hd (show ∀p,p<k+1->T.q2 l p=0 from fun p hp=>by
       by_cases e:p=k
       ·rw[e];exact hq
       ·exact HNO.o p (by omega))
      rw[hq];clear hq d0 d1 f0 f1;go_wp2;go_round
      case rel=>exact⟨k+1,by omega,by go_num,HNO2.o,HB5.o⟩
      case measure=>simp[intOf];omega
     ·have HFO:=Hd (firstOf_at (n:=n) HNO.o hlt hq)
      obtain⟨r,hr⟩:∃r,T.q2 l k=r:=⟨_,rfl⟩
      rw[hr]at hq HFO ⊢;have e9:(r != 0)=true:=by simpa using hq
      clear hr hq
      have HRR:=Hd (show shapeR l=(r,(k:Int))by
       unfold shapeR T.shapeO;rw[hl,firstOf_no HQ1.o,HFO.o]
       rfl)
      go_wp2;refine bodyPost_ret (v:=.agg #[.int .i64 r,.int .i64 (k:Int)]) ?_ rfl ⟨by rw[HRR.o],T.comes l 0,((HB5.o.bs 0 0 (.int .i64 r)).bs 0 1 (.int .i64 (k:Int))).drop⟩;simp[results,Tryz.results47,go_sem,d0,d1]
    ·have i1:¬(k:Int)<(n:Int):=by omega
     obtain rfl:k=n:=by omega
     go_wp2
     go_roundw
     case rel=>exact⟨2,by decide,by go_num,fun _=>HQ1.o,fun _=>HNO.o,fun h=>absurd h (by decide),fun h=>absurd h (by decide),0,fun _=>rfl,HB.o⟩
     case measure=>simp[intOf]
  ·obtain rfl:=hm (by decide)
   have HQ1:=Hd (a1 (by decide));have HQ2:=Hd (a2 (by decide));have hfc:=HBO.o.cell (jf+1) (HIF.o _) 2 rfl;clear a1 a2 a3 a4 hm hq;rw[show((2:Nat):Int)=2 from rfl];go_wp2;go_loopw [7,8,16] (fun _ _ x wr=>∃k:Nat,k<=n/\x=.int .i64 (k:Int)/\(∀p,p<k->T.q3 l p=0)/\Bank w0 wr (boxAcc D 27 [.int .i64 0,.int .i64 0]::L.set i (boxAcc G 4 ((T.comes l 0).map Value.bool)))) (fun _ _ x _=>n-(intOf x).toNat)
   case atStart=>exact⟨0,Nat.zero_le _,rfl,fun p hp=>absurd hp (Nat.not_lt_zero _),HBO.o⟩
   case round =>
    obtain⟨k,hk,rfl,hno,hB⟩:=hrel;have HB:=Hd hB;have HNO:=Hd hno;clear hB hno;have k0:(0:Int)<=(k:Int):=by omega
    by_cases hlt:k<n
    ·have i1:(k:Int)<(n:Int):=by omega
     have ha:=HB.o.cell (ia+1) (HIA.o _) 0 rfl;go_wp2_with fail;refine(ask3_any b o c A n l k _ ha (HR.o.since HB.o.since) hl hn hlt).mono ?_;rintro e w5 ⟨rfl,hs⟩;have HB5:=Hd (show Bank w0 w5 (boxAcc D 27 [.int .i64 0,.int .i64 0]::L.set i (boxAcc G 4 ((T.comes l 0).map Value.bool)))from HB.o.call hs);clear hs ha;obtain⟨d0,d1,f0,f1⟩:=HB5.o.r2 0 rfl
     skip
     by_cases hq:T.q3 l k=0
     ·have HNO2:=Hd (show ∀p,p<k+1->T.q3 l p=0 from fun p hp=>by
       by_cases e:p=k
       ·rw[e];exact hq
       ·exact HNO.o p (by omega))
      rw[hq];clear hq d0 d1 f0 f1;go_wp2;go_round
      case rel=>exact⟨k+1,by omega,by go_num,HNO2.o,HB5.o⟩
      case measure=>simp[intOf];omega
     ·have HFO:=Hd (firstOf_at (n:=n) HNO.o hlt hq)
      obtain⟨r,hr⟩:∃r,T.q3 l k=r:=⟨_,rfl⟩
      rw[hr]at hq HFO ⊢;have e9:(r != 0)=true:=by simpa using hq
      clear hr hq
      have HRR:=Hd (show shapeR l=(r,(k:Int))by
       unfold shapeR T.shapeO;rw[hl,firstOf_no HQ1.o,firstOf_no HQ2.o,HFO.o]
       rfl)
      go_wp2;refine bodyPost_ret (v:=.agg #[.int .i64 r,.int .i64 (k:Int)]) ?_ rfl ⟨by rw[HRR.o],T.comes l 0,((HB5.o.bs 0 0 (.int .i64 r)).bs 0 1 (.int .i64 (k:Int))).drop⟩;simp[results,Tryz.results47,go_sem,d0,d1]
    ·have i1:¬(k:Int)<(n:Int):=by omega
     obtain rfl:k=n:=by omega
     go_wp2
     go_roundw
     case rel=>exact⟨3,by decide,by go_num,fun _=>HQ1.o,fun _=>HQ2.o,fun _=>HNO.o,fun h=>absurd h (by decide),0,fun _=>rfl,HB.o⟩
     case measure=>simp[intOf]
  ·obtain rfl:=hm (by decide)
   have HQ1:=Hd (a1 (by decide));have HQ2:=Hd (a2 (by decide));have HQ3:=Hd (a3 (by decide));have hfc:=HBO.o.cell (jf+1) (HIF.o _) 3 rfl;clear a1 a2 a3 a4 hm hq;rw[show((3:Nat):Int)=3 from rfl];go_wp2;go_loopw [7,8,16] (fun _ _ x wr=>∃k:Nat,k<=n/\x=.int .i64 (k:Int)/\(∀p,p<k->T.q4 l p=0)/\Bank w0 wr (boxAcc D 27 [.int .i64 0,.int .i64 0]::L.set i (boxAcc G 4 ((T.comes l k).map Value.bool)))) (fun _ _ x _=>n-(intOf x).toNat)
   case atStart=>exact⟨0,Nat.zero_le _,rfl,fun p hp=>absurd hp (Nat.not_lt_zero _),HBO.o⟩
   case round =>
    obtain⟨k,hk,rfl,hno,hB⟩:=hrel;have HB:=Hd hB;have HNO:=Hd hno;clear hB hno;have k0:(0:Int)<=(k:Int):=by omega
    by_cases hlt:k<n
    ·have i1:(k:Int)<(n:Int):=by omega
     have ha:=HB.o.cell (ia+1) (HIA.o _) 0 rfl;have HNX:=Hd (nexts_lt (by rw[hl];exact HQ1.o) (by rw[hl];exact HQ2.o) (by rw[hl];exact HQ3.o) (show k<l.length by omega));rw[hl]at HNX;go_wp2_with fail;refine(ask4_any b o c A C G n l (T.comes l k) k (i+1) (ia+1) (ic+1) HB.o HR.o hl hn hlt HNX.o.1 HNX.o.2.1 HNX.o.2.2.1 HNX.o.2.2.2 (by rw[comes_length l HNE.o,hl]) (HID.o _) (HIA.o _) (HIC.o _) (by omega) (by omega)).mono ?_;rintro e w5 ⟨rfl,hs⟩;have HB5:=Hd (show Bank w0 w5 (boxAcc D 27 [.int .i64 0,.int .i64 0]::L.set i (boxAcc G 4 ((T.comes l (k+1)).map Value.bool)))from(by have h:=hs;rw[List.set_cons_succ,List.set_set]at h;exact h));clear hs ha;obtain⟨d0,d1,f0,f1⟩:=HB5.o.r2 0 rfl;rw[<-q4_eq];by_cases hq:T.q4 l k=0
     ·have HNO2:=Hd (show ∀p,p<k+1->T.q4 l p=0 from fun p hp=>by
       by_cases e:p=k
       ·rw[e];exact hq
       ·exact HNO.o p (by omega))
      rw[hq];clear hq d0 d1 f0 f1;go_wp2;go_round
      case rel=>exact⟨k+1,by omega,by go_num,HNO2.o,HB5.o⟩
      case measure=>simp[intOf];omega
     ·have HFO:=Hd (firstOf_at (n:=n) HNO.o hlt hq)
      obtain⟨r,hr⟩:∃r,T.q4 l k=r:=⟨_,rfl⟩
      rw[hr]at hq HFO ⊢;have e9:(r != 0)=true:=by simpa using hq
      clear hr hq
      have HRR:=Hd (show shapeR l=(r,(k:Int))by
       unfold shapeR T.shapeO;rw[hl,firstOf_no HQ1.o,firstOf_no HQ2.o,firstOf_no HQ3.o,HFO.o]
       rfl)
      go_wp2;refine bodyPost_ret (v:=.agg #[.int .i64 r,.int .i64 (k:Int)]) ?_ rfl ⟨by rw[HRR.o],T.comes l (k+1),((HB5.o.bs 0 0 (.int .i64 r)).bs 0 1 (.int .i64 (k:Int))).drop⟩;simp[results,Tryz.results47,go_sem,d0,d1]
    ·have i1:¬(k:Int)<(n:Int):=by omega
     obtain rfl:k=n:=by omega
     go_wp2
     go_roundw
     case rel=>exact⟨4,by decide,by go_num,fun _=>HQ1.o,fun _=>HQ2.o,fun _=>HQ3.o,fun _=>HNO.o,k,fun h=>absurd h (by decide),HB.o⟩
     case measure=>simp[intOf]
  ·have HRR:=Hd (show shapeR l=(0,0)by
    unfold shapeR T.shapeO;rw[hl,firstOf_no (a1 (by decide)),firstOf_no (a2 (by decide)),firstOf_no (a3 (by decide)),firstOf_no (a4 (by decide))]
    rfl)
   obtain⟨d0,d1,f0,f1⟩:=HBO.o.r2 0 rfl;clear a1 a2 a3 a4 hm hq;rw[show((4:Nat):Int)=4 from rfl];go_wp2;refine bodyPost_ret (v:=.agg #[.int .i64 0,.int .i64 0]) ?_ rfl ⟨by rw[HRR.o],T.comes l m,((HBO.o.bs 0 0 (.int .i64 0)).bs 0 1 (.int .i64 0)).drop⟩;simp[results,Tryz.results47,go_sem,d0,d1]
set_option maxRecDepth 100000
set_option maxHeartbeats 4000000
theorem infoBo:(Tryz.prog.info? 4).map (fun i=>(i.zero,i.size,i.bytes))=some (some (.bool false),1,1):=by kernel_rfl
theorem make_bools(n:Nat)(hn:n<=4096)(W:World):(Instr.makeSlice 85 (.int .i64 (n:Int)) (.int .i64 (n:Int))).run Tryz.prog W=.ok (.slice (some ⟨W.heap.size,0,none⟩) n n) (W.alloc (.cells ((List.replicate n false).map Value.bool).toArray 4)):=by
 obtain⟨i0,hi,hz0,hz1,hz2⟩:=info_parts infoBo;have h:=run_makeSlice (P:=Tryz.prog) W 85 4 i0 (.bool false) Tryz.underlying85 hi hz0 .i64 .i64 (n:Int) (n:Int) (by omega) (by omega) (by rw[hz1];omega) (by rw[hz2];omega) (by omega);rw[h,hz1,Nat.mul_one,Int.toNat_natCast]
 have e:madeCells (Value.bool false).cells n=((List.replicate n false).map Value.bool).toArray:=by
  have h2:=toList_madeCells_one (.bool false) n;rw[List.map_replicate,<-h2,Array.toArray_toList];rfl
 rw[e]
def shapeV(l:List T.Ins):Value:=.agg #[.int .i64 (T.shapeF l).1,.int .i64 ((T.shapeF l).2:Int)]
theorem shapeCheck_any(b o c n:Nat)(l:List T.Ins)(w:World)(hr:InsRd w b o l)(hl:l.length=n)(hn:n<=4096):
  Calls Tryz.prog 20 #[.slice (some ⟨b,o,none⟩) n c] w (Ret w (shapeV l)):=by
 have hmf:=hmfT;have HR:=Hd hr;clear hr;have BK0:=bk2 w [.slice (some ⟨b,o,none⟩) n c] 22 [.int .i64 0,.int .i64 0] 27;go_enter Tryz.func20,Tryz.ntmps20;go_upto_region 1 with fail;generalize w.heap.size=X at *;refine wp_hid BK0 (fun w1 BK0=>?_);have a0:=BK0.o.cl 1 0;obtain⟨r0,r1,fr0,fr1⟩:=BK0.o.r2 0 rfl;by_cases h0:n=0
 ·have HV:=Hd (show T.shapeF l=(6,0)by unfold T.shapeF;rw[if_pos (by omega)])
  subst h0;go_wp2;refine bodyPost_ret (v:=.agg #[.int .i64 6,.int .i64 0]) ?_ rfl ⟨by rw[shapeV,HV.o];rfl,((BK0.o.bs 0 0 (.int .i64 6)).bs 0 1 (.int .i64 0)).since⟩;simp[results,Tryz.results20,go_sem,a0,r0,r1]
 have e0:((n:Int)==0)=false:=by simp;omega
 have e1:¬(4096:Int)<(n:Int):=by omega
 have HNE:=Hd (show l ≠ []from fun e=>by rw[e]at hl;exact h0 (by simpa using hl.symm));have hmk:=fun w=>make_bools n hn w
 go_upto_region 6 with fail;clear a0 r0 r1 fr0 fr1;obtain⟨g,hg⟩:∃g,g=w1.heap.size:=⟨_,rfl⟩
 rw[<-hg]
 refine wp_gen [boxAcc (g+1) 85 [.slice (some ⟨g,0,none⟩) n n],boxAcc g 4 ((List.replicate n false).map Value.bool),boxAcc (X+1) 27 [.int .i64 0,.int .i64 0],boxAcc X 22 [.slice (some ⟨b,o,none⟩) n c]] (by
  have h:=(BK0.o.boxL ((List.replicate n false).map Value.bool) 4 (by simp;omega)).bx [.slice (some ⟨g,0,none⟩) n n] 85;rw[World.size_alloc,<-hg,show((List.replicate n false).map Value.bool).toArray=Array.replicate n (Value.bool false)by simp]at h
  exact h) (fun w2 hz=>?_)
 have BK1:=Hd hz;clear hz hg BK0;have z0:=BK1.o.cl 0 0;have hg0:((List.replicate n false).map Value.bool)[0]?=some (.bool false):=by rw[List.getElem?_map,List.getElem?_replicate,if_pos (by omega)];rfl
 have y0:=BK1.o.cell 1 rfl 0 hg0;have yf:=BK1.o.free 1 rfl 0;have n0:(0:Int)<(n:Int):=by omega
 clear hg0;go_upto_region 7 with fail
 refine wp_gen [boxAcc (g+1) 85 [.slice (some ⟨g,0,none⟩) n n],boxAcc g 4 ((T.comes l 0).map Value.bool),boxAcc (X+1) 27 [.int .i64 0,.int .i64 0],boxAcc X 22 [.slice (some ⟨b,o,none⟩) n c]] (by
  have h:=BK1.o.bs 1 0 (.bool true)
  have e:(T.comes l 0).map Value.bool=((List.replicate n false).map Value.bool).set 0 (.bool true):=by
   unfold T.comes;rw[hl,List.map_set]
  rw[e]
  exact h) (fun w3 hz=>?_)
 have BK2:=Hd hz;clear hz BK1 z0 y0 yf;have a0:=BK2.o.cl 3 0;go_wp2_with fail;obtain⟨D,hD⟩:∃D,D=w3.heap.size:=⟨_,rfl⟩
 have BK3:=Hd (BK2.o.bx [.func (.func 48) #[] #[.pointer (some ⟨X,0,none⟩)],.func (.func 51) #[] #[.pointer (some ⟨X,0,none⟩)],.func (.func 52) #[] #[.pointer (some ⟨X,0,none⟩)],.func (.func 53) #[] #[.pointer (some ⟨X,0,none⟩),.pointer (some ⟨g+1,0,none⟩)]] 108);rw[<-hD]at BK3 ⊢;refine(first_any b o c X (g+1) g D n l 2 4 1 0 BK3.o HR.o hl hn HNE.o rfl rfl rfl rfl (by decide) (by decide) (by decide)).mono ?_;rintro e w5 ⟨rfl,come,hb⟩;have BK4:=Hd hb;clear hb BK3 BK2 hD a0;obtain⟨r0,r1,fr0,fr1⟩:=BK4.o.r2 3 rfl
 have HV:=Hd (show shapeV l=.agg #[.int .i64 (shapeR l).1,.int .i64 (shapeR l).2]by
  unfold shapeV shapeR T.shapeF;rw[if_neg (by omega),if_neg (by omega)]
  cases T.shapeO l<;>rfl)
 go_wp2;refine bodyPost_ret (v:=.agg #[.int .i64 (shapeR l).1,.int .i64 (shapeR l).2]) ?_ rfl ⟨by rw[HV.o],((BK4.o.bs 3 0 (.int .i64 (shapeR l).1)).bs 3 1 (.int .i64 (shapeR l).2)).since⟩;simp[results,Tryz.results20,go_sem,r0,r1]
end Go.Proofs.YtfeipbgnjainlaaGreatDoor.K
namespace Go.Proofs.YtfeipbgnjainlaaGreatDoor.K
open Go Go.RowKit Go.ChangeShapes Go.WideShapes Go.Deep
set_option maxRecDepth 100000
theorem cellsIns:Tryz.prog.cellsOf 55=8:=by kernel_rfl
theorem cellsOp:Tryz.prog.cellsOf 53=1:=by kernel_rfl
structure InI(i:T.Ins):Prop where
 op:0<=i.op/\i.op<256
 dst:M.inI64 i.dst
 src:M.inI64 i.src
 off:M.inI64 i.off
 imm:M.inI64 i.imm
 size:M.inI64 i.size
section
variable{H:Type}{enc:TypeId×Value->H}{W:World}{base b0:Nat}{sp:Nat->Bool}{held:Bool}{r:Reach}
theorem cs_op{fuel:Nat}{v:Value}{x:DataW H×List MemPlace}(h:DataW.trod enc Tryz.prog W base sp held fuel 53 [v]=some x):∃n:Int,v=.int .u8 n/\0<=n/\n<256:=by
 obtain⟨n,hcs,_,hw⟩:=DataW.trod_int Tryz.underlying53 h;obtain rfl:v=.int .u8 n:=by simpa using hcs
 refine⟨n,rfl,?_⟩;simp[Lit.wf,IntKind.min,IntKind.max,IntKind.bits,IntKind.signed]at hw;omega
theorem cs_ins{fuel:Nat}{cs:List Value}{x:DataW H×List MemPlace}(h:DataW.trod enc Tryz.prog W base sp held fuel 55 cs=some x):
  ∃i:T.Ins,cs=insL i/\InI i:=by
 obtain⟨xs,n,_,_,hlen,hxl,hf⟩:=DataW.trod_struct Tryz.underlying55 h;rw[cellsIns]at hlen
 match cs,hlen with
 | [c0,c1,c2,c3,c4,c5,c6,c7],_ =>
   match xs,hxl with
   | [y0,y1,y2,y3,y4,y5,y6,y7],_ =>
     have f0:DataW.trod enc Tryz.prog W base sp held n 53 [c0]=some y0:=by simpa [cellsOp]using hf 0 _ rfl
     have f1:DataW.trod enc Tryz.prog W base sp held n 4 [c1]=some y1:=by simpa [cellsBool]using hf 1 _ rfl
     have f2:DataW.trod enc Tryz.prog W base sp held n 3 [c2]=some y2:=by simpa [cellsInt]using hf 2 _ rfl
     have f3:DataW.trod enc Tryz.prog W base sp held n 3 [c3]=some y3:=by simpa [cellsInt]using hf 3 _ rfl
     have f4:DataW.trod enc Tryz.prog W base sp held n 4 [c4]=some y4:=by simpa [cellsBool]using hf 4 _ rfl
     have f5:DataW.trod enc Tryz.prog W base sp held n 3 [c5]=some y5:=by simpa [cellsInt]using hf 5 _ rfl
     have f6:DataW.trod enc Tryz.prog W base sp held n 3 [c6]=some y6:=by simpa [cellsInt]using hf 6 _ rfl
     have f7:DataW.trod enc Tryz.prog W base sp held n 3 [c7]=some y7:=by simpa [cellsInt]using hf 7 _ rfl
     obtain⟨a,rfl,ha⟩:=cs_op f0;obtain⟨b,rfl⟩:=cs_bool f1;obtain⟨d,rfl,hd⟩:=cs_int f2;obtain⟨s,rfl,hs⟩:=cs_int f3;obtain⟨u,rfl⟩:=cs_bool f4;obtain⟨o,rfl,ho⟩:=cs_int f5;obtain⟨m,rfl,hm⟩:=cs_int f6;obtain⟨z,rfl,hz⟩:=cs_int f7;exact⟨⟨a,b,d,s,u,o,m,z⟩,rfl,ha,hd,hs,ho,hm,hz⟩
theorem open_ins{v:Value}{d:DataW H}{p:List MemPlace}(hv:Value.okWide Tryz.prog W r b0 22 v)(h:DataW.Trod enc Tryz.prog W base sp held 22 v d p):
  ∃A n c l,v=.slice A n c/\l.length=n/\(l=[]\/∃b o,A=some ⟨b,o,none⟩/\InsRd W b o l)/\(∀i∈l,InI i)/\n<=c/\c<=9223372036854775807:=by
 obtain⟨A,l,c,rfl⟩:=okWide_slice Tryz.underlying22 hv;obtain⟨fuel,hf⟩:=h;rcases open_slice Tryz.underlying22 hf with⟨hcs,_⟩|⟨a,len,cap,m,n,D,Pl,hcs,hb,hl,hm,hmm,hx,hi⟩
 ·simp[Value.cells]at hcs
  obtain⟨rfl,rfl,rfl⟩:=hcs;exact⟨none,0,0,[],rfl,rfl,.inl rfl,(fun _ hf=>by cases hf),by omega,by omega⟩
 ·simp[Value.cells]at hcs
  obtain⟨rfl,rfl,rfl⟩:=hcs;unfold maxLen at hm;have hlm:l<=m:=by split at hmm<;>omega
  rw[cellsIns]at hi;by_cases h0:l=0
  ·exact⟨_,_,_,[],rfl,h0.symm,.inl rfl,(fun _ hf=>by cases hf),hl,hm⟩
  obtain⟨cs0,hc0,ht0⟩:=hi 0 (by omega);obtain⟨i0,rfl,_⟩:=cs_ins ht0;obtain⟨_,_,hat0⟩:=World.cells?_some hc0;obtain⟨b,o,s⟩:=a;have hs:s=none:=by simpa [Addr.add]using World.cell?_spot ((hat0 0 (by simp)).trans rfl)
  subst hs
  have hev:∀j:Nat,∃i:T.Ins,j<l->InI i/\∀k v,(insL i)[k]?=some v->W.cell? ⟨b,o+j*8+k,none⟩=some v:=by
   intro j;by_cases hil:j<l
   ·obtain⟨cs',hc,ht⟩:=hi j (by omega)
    obtain⟨i,rfl,hI⟩:=cs_ins ht;obtain⟨_,_,hat⟩:=World.cells?_some hc;refine⟨i,fun _=>⟨hI,fun k v hk=>?_⟩⟩;have h1:=hat k (List.getElem?_eq_some_iff.1 hk).1;rw[hk,Addr.add_lit,Addr.add_lit]at h1;exact h1
   ·exact⟨T.Ins.zero,fun h=>absurd h hil⟩
  obtain⟨f,hf2⟩:=Classical.axiomOfChoice hev;refine⟨_,_,_,(List.range l).map f,rfl,by simp,.inr ⟨b,o,rfl,fun j i hi2=>?_⟩,fun i hi2=>?_,hl,hm⟩
  ·rw[List.getElem?_map]at hi2
   cases hx2:(List.range l)[j]? with
   | none=>rw[hx2]at hi2;cases hi2
   | some k =>
     rw[hx2]at hi2;obtain⟨hj,e⟩:=List.getElem?_eq_some_iff.1 hx2;rw[List.getElem_range]at e;subst e;cases hi2
     exact(hf2 j (by simpa using hj)).2
  ·obtain⟨j,hj,rfl⟩:=List.mem_map.1 hi2
   exact(hf2 j (List.mem_range.1 hj)).1
end
end Go.Proofs.YtfeipbgnjainlaaGreatDoor.K
