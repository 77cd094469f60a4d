/- Al3, TSrt, TStC, TStD, TYc, TPkA -/
import Derived.Test.YtfeipbgnjainlaaGreatDoorTp8
import Derived.Test.YtfeipbgnjainlaaGreatDoorTp4
import Derived.Test.YtfeipbgnjainlaaGreatDoorTp7
import Derived.Test.YtfeipbgnjainlaaGreatDoorTp2
import Derived.Test.YtfeipbgnjainlaaGreatDoorTp9
import Derived.Laws.Pointers
import Derived.Deep.WholeRow
import Derived.RangeFuncNested
import Derived.RangeFuncBound
import Derived.RangeFuncCalls
import Derived.RangeFuncLeaves
import Derived.RangeFuncFrom
import Derived.Shelf.Abstract
import Derived.Shelf.RegionOpen
import Derived.WalkKit
import Derived.OwnWalkIn
import Derived.TacticsInMore
import Derived.LoopNIn
import Derived.LoopIn
set_option linter.unusedVariables false
set_option linter.unusedSimpArgs false
namespace Go.Proofs.YtfeipbgnjainlaaGreatDoor.K
open Go Go.RowKit Go.Maps Go.Sort
theorem hmfT:∀(fn:Fn) (first cap:Array Value) (w:World),(Instr.makeFunc fn first cap).run Tryz.prog w=.ok (.func fn first cap) w:=fun _ _ _ _=>rfl
theorem Bank.bx{w0 w:World}{L:List Acc}(h:Bank w0 w L)(l:List Value)(t:TypeId)(hs:l.length<=1000000:=by simp):Bank w0 (w.alloc (.cells l.toArray t)) (boxAcc w.heap.size t l::L):=h.boxL l t hs
theorem holds_ahead{w:World}{blk off n:Nat}{d:Array Int}(h:Holds (Value.int .i64) w blk off d):Holds (Value.int .i64) (Sort.ahead w n) blk off d:=h
theorem since_ahead(w:World)(n:Nat)(os:Array Obj):Since w (grow (Sort.ahead w n) os) :=
 ⟨rfl,rfl,rfl,by show w.heap.size<=(w.heap++os).size;rw[Array.size_append];omega,fun _ hj=>Sort.heap_grow_old (Sort.ahead w n) os hj⟩
theorem since_ahead0(w:World)(n:Nat):Since w (Sort.ahead w n):=⟨rfl,rfl,rfl,Nat.le_refl _,fun _ _=>rfl⟩
theorem sort_sorted(blk off cap:Nat)(zs:List Int)(w:World)(hH:Holds (Value.int .i64) w blk off zs.toArray)(hblk:blk<w.heap.size)(hsz:zs.length<4611686018427387904)(hs:zs.mergeSort (fun x y=>decide (x<=y))=zs):
  Calls Tryz.prog 93 #[.slice (some ⟨blk,off,none⟩) zs.length cap] w (Ret w (.tuple #[])):=by
 refine(Tryz.slices_Sort_int blk off cap zs w hH hblk hsz).mono ?_;rintro e w' ⟨rfl,n,os,rfl⟩;refine⟨rfl,?_⟩;rw[hs,putRow_self _ _ _ _ _ (holds_ahead hH)];exact since_ahead w n os
theorem compact_self(blk off cap:Nat)(zs:List Int)(w:World)(hH:Holds (Value.int .i64) w blk off zs.toArray)(hsz:zs.length<=9223372036854775807)(hcap:zs.length<=cap)(hs:Lib.compact zs=zs):
  Calls Tryz.prog 94 #[.slice (some ⟨blk,off,none⟩) zs.length cap] w (Ret w (.slice (some ⟨blk,off,none⟩) zs.length cap)):=by
 refine(Tryz.slices_Compact_int blk off cap zs w hH hsz hcap).mono ?_;rintro e w' ⟨rfl,n,rfl⟩;rw[hs,Nat.sub_self,List.replicate_zero,List.append_nil,putRow_self _ _ _ _ _ (holds_ahead hH)];exact⟨rfl,since_ahead0 w n⟩
set_option maxRecDepth 100000
set_option maxHeartbeats 4000000
theorem tmps14(a x:Value):(#[a]++((Array.replicate 13 undef).setIfInBounds 2 x).setIfInBounds 0 x) = #[a,x,undef,x,undef,undef,undef,undef,undef,undef,undef,undef,undef,undef]:=by
 apply Array.toList_inj.1;simp[List.replicate]
theorem catchT_idle(p:Addr)(w:World):
  CallsD Tryz.prog 172 #[.pointer (some p)] .returning w fun e u' w'=>e=.returned (.tuple #[])/\u'=.returning/\w'=w:=by
 refine callsD_of_wpS Tryz.func172 rfl fun c₀ cs hu=>?_
 apply wpS_seq;apply wpS_region;simp[wpOpsS,go_sem,recoverD,hu,Tryz.ntmps172,Exit.thenS];refine wpS_of_wp ?_;rw[tmps14];go_wp2;cases c₀
 simp_all [bodyPostS,results,Tryz.results172]
theorem catchT_panicking(E:Nat)(n y:Int)(w:World)(he:w.cell? ⟨E,0,none⟩=some (.int .i64 y))(hef:w.frozen? ⟨E,0,none⟩=false):
  CallsD Tryz.prog 172 #[.pointer (some ⟨E,0,none⟩)] (.panicking (eP n)) w fun e u' w' =>
   e=.returned (.tuple #[])/\u'=.panicking [{ v:=.iface 25 (.int .i64 n),recovered:=true }]/\w'=w.setCell ⟨E,0,none⟩ (.int .i64 n):=by
 have hta:∀w,(Instr.typeAssert (.iface 25 (.int .i64 n)) 20 25 true).run Tryz.prog w=.ok (.tuple #[.int .i64 n,.bool true]) w:=fun _=>by kernel_rfl
 refine callsD_of_wpS Tryz.func172 rfl fun c₀ cs hu=>?_
 unfold eP at hu;apply wpS_seq;apply wpS_region;simp[wpOpsS,go_sem,recoverD,hu,Tryz.ntmps172,Exit.thenS];refine wpS_of_wp ?_;rw[tmps14];go_wp2;cases c₀
 simp_all [bodyPostS,results,Tryz.results172]
theorem triedRead_any(A B C:Nat)(n:Int)(w:World)(hc:Calls Tryz.prog 162 #[.pointer (some ⟨A,0,none⟩),.pointer (some ⟨B,0,none⟩),.pointer (some ⟨C,0,none⟩)] (w.alloc (.cells #[.int .i64 0] 25)) (BoolP (w.alloc (.cells #[.int .i64 0] 25)) n)):
  Calls Tryz.prog 128 #[.func (.func 162) #[] #[.pointer (some ⟨A,0,none⟩),.pointer (some ⟨B,0,none⟩),.pointer (some ⟨C,0,none⟩)]] w fun e w'=>(∃x,e=.returned (.tuple #[.bool x,.int .i64 n]))/\Since w w':=by
 have hmf:=hmfT;have BK0:=Hd ((Bank.nil (Below.refl w.heap.size w)).bx [.int .i64 0] 25);have HC:=Hd hc;clear hc
 go_enter_defers Tryz.func128,Tryz.ntmps128
 go_wp2_with fail;generalize hw1:w.alloc (.cells #[.int .i64 0] 25)=w1 at *;clear hw1;refine HC.o.mono ?_;rintro e w2 (⟨rfl,rfl,hs⟩|⟨hn,rfl,hs⟩)
 ·have BK2:=Hd (BK0.o.call hs)
  obtain⟨c0,f0⟩:=BK2.o.r1 0 rfl;have BK3:=Hd (BK2.o.bs 0 0 (.int .i64 0));clear hs BK0 BK2;go_wp2;refine leaves_cons (f:=172) (args:=#[.pointer (some ⟨w.heap.size,0,none⟩)]) (by simp) (by simp[go_sem]) ?_;refine(catchT_idle _ _).mono ?_;rintro e u' w'' ⟨rfl,rfl,rfl⟩;have r0:=BK3.o.cl 0 0;exact⟨.tuple #[.bool true,.int .i64 0],by simp[results,Tryz.results128,go_sem,r0],⟨⟨true,rfl⟩,BK3.o.since⟩⟩
 ·have BK2:=Hd (BK0.o.call hs)
  obtain⟨c0,f0⟩:=BK2.o.r1 0 rfl;have BK3:=Hd (BK2.o.bs 0 0 (.int .i64 n));have HC0:=Hd c0;have HF0:=Hd f0;clear hs BK0 BK2 c0 f0;go_wp2;refine leaves_cons (f:=172) (args:=#[.pointer (some ⟨w.heap.size,0,none⟩)]) (by simp) (by simp[go_sem]) ?_;refine(catchT_panicking w.heap.size _ _ _ HC0.o HF0.o).mono ?_;rintro e u' w'' ⟨rfl,rfl,rfl⟩;have r0:=BK3.o.cl 0 0;exact⟨.tuple #[.bool false,.int .i64 n],by simp[results,Tryz.results128,go_sem,r0],⟨⟨false,rfl⟩,BK3.o.since⟩⟩
theorem BoRd.since{w w':World}{b o:Nat}{bs:List Bool}(h:BoRd w b o bs)(hs:Since w w'):BoRd w' b o bs:=fun j u hj=>hs.keep (h j u hj)
theorem stkRead_any(b o c:Nat)(at' size:Int)(bs:List Bool)(w:World)(h1 : -9223372036854775808<=at')(h2:at'<9223372036854775808)(hl:bs.length=512)(hc:512<=c)(hr:BoRd w b o bs):
  Calls Tryz.prog 115 #[.slice (some ⟨b,o,none⟩) 512 c,.int .i64 at',.int .i64 size] w (Ret w (.int .i64 (T.readErr bs at' size))):=by
 have hmf:=hmfT;have HR:=Hd hr;have HL:=Hd hl;clear hr hl;have BK0:=bk3 w [.slice (some ⟨b,o,none⟩) 512 c] 85 [.int .i64 at'] 2 [.int .i64 size] 3;go_enter Tryz.func115,Tryz.ntmps115;go_upto_region 1 with fail;generalize w.heap.size=X at *;refine wp_hid BK0 (fun w1 BK0=>?_);have a0:=BK0.o.cl 2 0;have b0:=BK0.o.cl 1 0;have c0:=BK0.o.cl 0 0;have BKE:=Hd (BK0.o.bx [.int .i64 0] 25);have a9:=BKE.o.cl 3 0;have b9:=BKE.o.cl 2 0;have c9:=BKE.o.cl 1 0;have HCL:=Hd (stkRead1_any X (X+1) (X+1+1) b o c at' size bs _ h1 h2 HL.o hc (HR.o.since BKE.o.since) a9 b9 c9);clear a9 b9 c9 BKE;go_wp2_with fail;refine(triedRead_any X (X+1) (X+1+1) _ _ HCL.o).mono ?_;rintro e w2 ⟨⟨x,rfl⟩,hs⟩;have S2:=Hd (BK0.o.call hs).since;clear hs HCL;go_wp2;go_ret;exact⟨rfl,S2.o⟩
set_option maxRecDepth 100000
set_option maxHeartbeats 2000000
def CloRow(w:World)(bs:List Bool)(n:Int)(e:Ending)(w':World):Prop:=(n=0/\∃g,e=.returned (.slice (some ⟨g,0,none⟩) 512 512)/\Bank w w' [boxAcc g 186 (bs.map Value.bool)])\/(n≠0/\e=.panicked (eP n)/\Since w w')
theorem BoRd.range{w:World}{b o:Nat}{bs:List Bool}(h:BoRd w b o bs):w.rangeAt b o (bs.map Value.bool):=fun j v hv=>by
 rw[List.getElem?_map]at hv;cases hx:bs[j]? with
 | none=>rw[hx]at hv;cases hv
 | some x=>rw[hx]at hv;cases hv;exact h j x hx
theorem zc_size:Tryz.zeroCells186.size=512:=by kernel_rfl
theorem tr_store(w:World)(bs:List Bool)(hl:bs.length=512):(storeCells ⟨w.heap.size,0,none⟩ (bs.map Value.bool)).run Tryz.prog (w.alloc (.cells Tryz.zeroCells186 186))=.ok () (w.alloc (.cells (bs.map Value.bool).toArray 186)):=by
 have h:=run_storeCells_new (P:=Tryz.prog) w 186 Tryz.zeroCells186 (bs.map Value.bool).toArray (by rw[List.size_toArray,List.length_map,hl];kernel_rfl) (zc_size.trans (by rw[List.size_toArray,List.length_map,hl])) (all_oneCell_toArray (fun v hv=>by obtain⟨x,_,rfl⟩:=List.mem_map.1 hv;rfl))
 rwa [List.toList_toArray]at h
theorem setAll_zero(bs:List Bool)(k:Nat):T.setAll bs k 0=bs:=by
 apply List.ext_getElem?;intro j;unfold T.setAll;rw[List.getElem?_mapIdx];cases bs[j]? with
 | none=>rfl
 | some x =>
   simp only[Option.map]
   congr 1
   have:(decide (k<=j)&&decide (j<k+0))=false:=by
    rw[Bool.and_eq_false_iff,decide_eq_false_iff_not,decide_eq_false_iff_not];omega
   rw[this,Bool.or_false]
theorem setAll_succ(bs:List Bool)(k j:Nat):((T.setAll bs k j).map Value.bool).set (k+j) (.bool true)=(T.setAll bs k (j+1)).map Value.bool:=by
 rw[show(Value.bool true)=Value.bool (true)from rfl,<-List.map_set]
 congr 1
 apply List.ext_getElem?;intro i;unfold T.setAll;rw[List.getElem?_set,List.getElem?_mapIdx,List.getElem?_mapIdx,List.length_mapIdx];by_cases e:k+j=i
 ·subst e
  rw[if_pos rfl];by_cases h:k+j<bs.length
  ·rw[if_pos h,List.getElem?_eq_getElem h]
   simp
  ·rw[if_neg h,List.getElem?_eq_none (by omega)]
   rfl
 ·rw[if_neg e]
  cases bs[i]? with
  | none=>rfl
  | some x =>
    simp only[Option.map]
    congr 2
    by_cases h1:k<=i
    ·by_cases h2:i<k+j
     ·simp[h1,h2];omega
     ·have:¬i<k+(j+1):=by omega
      simp[h2,this]
    ·simp[h1]
theorem stkSet1_any(A B C b o c:Nat)(at' size:Int)(bs:List Bool)(w:World)(h1 : -9223372036854775808<=at')(h2:at'<9223372036854775808)(hl:bs.length=512)(hc:512<=c)(hr:BoRd w b o bs)
  (hA:w.cell? ⟨A,0,none⟩=some (.slice (some ⟨b,o,none⟩) 512 c)) (hB:w.cell? ⟨B,0,none⟩=some (.int .i64 at')) (hC:w.cell? ⟨C,0,none⟩=some (.int .i64 size)) :
  Calls Tryz.prog 166 #[.pointer (some ⟨A,0,none⟩),.pointer (some ⟨B,0,none⟩),.pointer (some ⟨C,0,none⟩)] w (CloRow w (T.setAll bs (512+at').toNat size.toNat) (T.partErr at' size)):=by
 have HR:=Hd hr;have HL:=Hd hl;clear hr hl;go_enter Tryz.func166,Tryz.ntmps166;go_wp2_with fail;refine(stkOf_any b o c hc _).mono ?_;rintro e w2 ⟨rfl,rfl⟩;have hst:=tr_store w2 bs HL.o;have BK:=Hd ((Bank.nil (Below.refl w2.heap.size w2)).boxL (bs.map Value.bool) 186 (by rw[List.length_map,HL.o];decide));go_upto_region 2 with(first|refine wpList_load_mid rfl 186 (.tmp 9) rfl b o rfl (bs.map Value.bool) _ HR.o.range Tryz.underlying186 rfl (by rw[List.length_map,HL.o];kernel_rfl) ?_)
 have hB1:=cell_old (.cells (bs.map Value.bool).toArray 186) hB;have hC1:=cell_old (.cells (bs.map Value.bool).toArray 186) hC;obtain⟨g,hg⟩:∃g,g=w2.heap.size:=⟨_,rfl⟩
 rw[<-hg]at BK ⊢;generalize w2.alloc (.cells (bs.map Value.bool).toArray 186)=w3 at *;clear hA hB hC hst hg;by_cases hz:T.partErr at' size=0
 case neg =>
  have HZ:=Hd hz;clear hz;go_wp2_with fail;refine(stkPart_bad g 0 at' size _ h1 h2 HZ.o).mono ?_;rintro e wh ⟨rfl,rfl⟩;exact⟨rfl,.inr ⟨HZ.o,rfl,BK.o.since⟩⟩
 case pos =>
  obtain⟨k,hk⟩:∃k,(512+at').toNat=k:=⟨_,rfl⟩
  obtain⟨n,hn⟩:∃n:Nat,size=n:=⟨size.toNat,by have:=part_facts hz;omega⟩
  have hn8:n<=8:=by have:=part_facts hz;omega
  have HKN:=Hd (show k+n<=512 by have:=part_facts hz;omega);have HZ:=Hd hz;clear hz;subst hn;rw[hk,Int.toNat_natCast];have HK:=Hd hk;clear hk;go_wp2_with fail;refine(stkPart_ok g 0 at' n _ h1 h2 HZ.o).mono ?_;rintro e wh ⟨⟨cc,rfl⟩,rfl⟩;rw[HK.o,Int.toNat_natCast,Nat.zero_add];go_wp2;go_loopw [6,16] (fun v i wr=>∃j:Nat,j<=n/\i=.int .i64 (j:Int)/\Bank w2 wr [boxAcc g 186 ((T.setAll bs k j).map Value.bool)]) (fun _ i _=>n-(intOf i).toNat)
  case atStart=>exact⟨0,by omega,rfl,by rw[setAll_zero];exact BK.o⟩
  case round =>
   obtain⟨j,hj,rfl,hB⟩:=hrel;have HB:=Hd hB;clear hB;have j0:(0:Int)<=(j:Int):=by omega
   by_cases hlt:j<n
   ·have i1:(j:Int)<(n:Int):=by omega
    have hkl:k+j<((T.setAll bs k j).map Value.bool).length:=by rw[List.length_map,show(T.setAll bs k j).length=bs.length by simp[T.setAll],HL.o];have:=HKN.o;omega
    have hcell:=HB.o.cell 0 rfl (k+j) (List.getElem?_eq_getElem hkl);have hfree:=HB.o.free 0 rfl (k+j);have HB2:=Hd (HB.o.boxSet 0 rfl (k+j) (.bool true));go_wp2;go_round
    case rel=>exact⟨j+1,by omega,by go_num,by rw[<-setAll_succ];exact HB2.o⟩
    case measure=>simp[intOf];omega
   ·have i1:¬(j:Int)<(n:Int):=by omega
    obtain rfl:j=n:=by omega
    have hal:=fun w=>tr_all ⟨g,0,none⟩ w
    go_wp2;go_ret;exact .inl ⟨HZ.o,g,rfl,by rw[HK.o];exact HB.o⟩
set_option maxRecDepth 100000
set_option maxHeartbeats 4000000
theorem stkWithin1_ok(A B b o c b2 o2 c2:Nat)(us bs:List Bool)(w:World)(hla:us.length=512)(hlb:bs.length=512)(hc:512<=c)(hc2:512<=c2)(hra:BoRd w b o us)(hrb:BoRd w b2 o2 bs)
  (hA:w.cell? ⟨A,0,none⟩=some (.slice (some ⟨b,o,none⟩) 512 c)) (hB:w.cell? ⟨B,0,none⟩=some (.slice (some ⟨b2,o2,none⟩) 512 c2)) (hin:∀j,j<512->bs.getD j false=true->us.getD j false=true) :
  Calls Tryz.prog 129 #[.pointer (some ⟨A,0,none⟩),.pointer (some ⟨B,0,none⟩)] w fun e w'=>e=.returned (.bool true)/\Since w w':=by
 have HRA:=Hd (show BoRd w.drew b o us from hra);have HRB:=Hd (show BoRd w.drew b2 o2 bs from hrb);have HLA:=Hd hla;have HLB:=Hd hlb;have HI:=Hd hin;have S0:=Hd (show Since w w.drew from(Below.refl _ _).drew);clear hra hrb hla hlb hin;go_enter Tryz.func129,Tryz.ntmps129;go_upto_region 1 with fail
 go_region_held3 (fun w'=>w'.cell? ⟨A,0,none⟩=some (.slice (some ⟨b,o,none⟩) 512 c)/\w'.cell? ⟨B,0,none⟩=some (.slice (some ⟨b2,o2,none⟩) 512 c2))
  (first | with_reducible exact ⟨hA, hB⟩ | with_reducible exact ⟨cell_drew hA, cell_drew hB⟩ | fail "keep")
  (first
    | (go_at_call 130;with_reducible refine(stkOf_any b o c hc _).mono ?_;rintro e wh ⟨rfl,rfl⟩)
    | (go_at_call 130;with_reducible refine(stkOf_any b2 o2 c2 hc2 _).mono ?_;rintro e wh ⟨rfl,rfl⟩)
    | fail "arm")
 all_goals
  generalize w.drew=wd at *;go_wp2_with fail;go_loopw [10] (fun i wr=>∃j:Nat,j<=512/\i=.int .i64 (j:Int)/\wr=wd) (fun i _=>512-(intOf i).toNat)
  case atStart=>exact⟨0,by omega,rfl,rfl⟩
  case round =>
   obtain⟨j,hj,rfl,rfl⟩:=hrel;have j0:(0:Int)<=(j:Int):=by omega
   by_cases hlt:j<512
   ·have i1:(j:Int)<(512:Int):=by omega
    have hju:j<us.length:=by rw[HLA.o];exact hlt
    have hjb:j<bs.length:=by rw[HLB.o];exact hlt
    obtain⟨x,hx⟩:∃x,us[j]=x:=⟨_,rfl⟩
    obtain⟨y,hy⟩:∃y,bs[j]=y:=⟨_,rfl⟩
    have hca:=HRA.o j x (by rw[List.getElem?_eq_getElem hju,hx]);have hcb:=HRB.o j y (by rw[List.getElem?_eq_getElem hjb,hy])
    have hxy:y=true->x=true:=by
     have:=HI.o j hlt;rw[List.getD_eq_getElem?_getD,List.getD_eq_getElem?_getD,List.getElem?_eq_getElem hju,List.getElem?_eq_getElem hjb,hx,hy]at this;exact this
    clear hx hy hju hjb;cases y
    ·clear hxy
     go_wp2;go_round
     case rel=>exact⟨j+1,by omega,by go_num,by first|rfl|trivial⟩
     case measure=>simp[intOf];omega
    ·obtain rfl:=hxy rfl
     clear hxy;go_wp2;go_round
     case rel=>exact⟨j+1,by omega,by go_num,by first|rfl|trivial⟩
     case measure=>simp[intOf];omega
   ·have i1:¬(j:Int)<(512:Int):=by omega
    go_wp2;go_ret;exact⟨rfl,S0.o⟩
theorem triedWithin_ok(A B:Nat)(w:World)(hc:Calls Tryz.prog 129 #[.pointer (some ⟨A,0,none⟩),.pointer (some ⟨B,0,none⟩)] (w.alloc (.cells #[.int .i64 0] 25)) fun e w'=>e=.returned (.bool true)/\Since (w.alloc (.cells #[.int .i64 0] 25)) w'):
  Calls Tryz.prog 128 #[.func (.func 129) #[] #[.pointer (some ⟨A,0,none⟩),.pointer (some ⟨B,0,none⟩)]] w (Ret w (.tuple #[.bool true,.int .i64 0])):=by
 have hmf:=hmfT;have BK0:=Hd ((Bank.nil (Below.refl w.heap.size w)).bx [.int .i64 0] 25);have HC:=Hd hc;clear hc
 go_enter_defers Tryz.func128,Tryz.ntmps128
 go_wp2_with fail;generalize hw1:w.alloc (.cells #[.int .i64 0] 25)=w1 at *;clear hw1;refine HC.o.mono ?_;rintro e w2 ⟨rfl,hs⟩;have BK2:=Hd (BK0.o.call hs);obtain⟨c0,f0⟩:=BK2.o.r1 0 rfl;have BK3:=Hd (BK2.o.bs 0 0 (.int .i64 0));clear hs BK0 BK2;go_wp2;refine leaves_cons (f:=172) (args:=#[.pointer (some ⟨w.heap.size,0,none⟩)]) (by simp) (by simp[go_sem]) ?_;refine(catchT_idle _ _).mono ?_;rintro e u' w'' ⟨rfl,rfl,rfl⟩;have r0:=BK3.o.cl 0 0;exact⟨.tuple #[.bool true,.int .i64 0],by simp[results,Tryz.results128,go_sem,r0],⟨rfl,BK3.o.since⟩⟩
theorem stkWithin_ok(b o c b2 o2 c2:Nat)(us bs:List Bool)(w:World)(hla:us.length=512)(hlb:bs.length=512)(hc:512<=c)(hc2:512<=c2)(hra:BoRd w b o us)(hrb:BoRd w b2 o2 bs)(hin:∀j,j<512->bs.getD j false=true->us.getD j false=true):
  Calls Tryz.prog 83 #[.slice (some ⟨b,o,none⟩) 512 c,.slice (some ⟨b2,o2,none⟩) 512 c2] w (Ret w (.bool true)):=by
 have hmf:=hmfT;have BK0:=bk2 w [.slice (some ⟨b,o,none⟩) 512 c] 85 [.slice (some ⟨b2,o2,none⟩) 512 c2] 85;have HRA:=Hd hra;have HRB:=Hd hrb;have HH:=Hd (⟨hla,hlb,hin⟩:us.length=512/\bs.length=512/\∀j,j<512->bs.getD j false=true->us.getD j false=true);clear hla hlb hra hrb hin;go_enter Tryz.func83,Tryz.ntmps83;go_upto_region 1 with fail;generalize w.heap.size=X at *;refine wp_hid BK0 (fun w1 BK0=>?_);have a0:=BK0.o.cl 1 0;have b0:=BK0.o.cl 0 0;have BKE:=Hd (BK0.o.bx [.int .i64 0] 25);have a9:=BKE.o.cl 2 0;have b9:=BKE.o.cl 1 0;have HCL:=Hd (stkWithin1_ok X (X+1) b o c b2 o2 c2 us bs _ HH.o.1 HH.o.2.1 hc hc2 (HRA.o.since BKE.o.since) (HRB.o.since BKE.o.since) a9 b9 HH.o.2.2);clear a9 b9 BKE;go_wp2_with fail;refine(triedWithin_ok X (X+1) _ HCL.o).mono ?_;rintro e w2 ⟨rfl,hs⟩;have S2:=Hd (BK0.o.call hs).since;clear hs HCL;go_wp2;go_ret;exact⟨rfl,S2.o⟩
end Go.Proofs.YtfeipbgnjainlaaGreatDoor.K
set_option maxRecDepth 100000
set_option maxHeartbeats 2000000
namespace Go.Proofs.YtfeipbgnjainlaaGreatDoor.K
open Go Go.RowKit Go.Maps Go.Sort Go.Shelf
attribute [local go_sem] Oper.semAt_some
def sizesV:Value:=.agg #[.bool false,.bool true,.bool true,.bool false,.bool true,.bool false,.bool false,.bool false,.bool true]
theorem sizes_any(w:World):Calls Tryz.prog 223 #[] w (Ret w sizesV):=by
 have S1:=Hd (Since.alloc (Below.refl w.heap.size w) (.cells #[.bool false,.bool true,.bool true,.bool false,.bool true,.bool false,.bool false,.bool false,.bool true] 271));go_enter Tryz.func223,Tryz.ntmps223;go_wp2;refine bodyPost_ret (v:=sizesV) ?_ rfl ⟨rfl,S1.o⟩;simp[results,Tryz.results223,go_sem,sizesV]
theorem getErr_facts{len:Nat}{at' size:Int}(h:T.getErr len at' size=0):(size=1\/size=2\/size=4\/size=8)/\0<=at'/\at'<=(len:Int)-size:=by
 unfold T.getErr at h;split at h
 ·cases h
 ·rename_i h1
  split at h
  ·cases h
  ·rename_i h2
   refine⟨?_,by omega,by omega⟩;exact of_decide_eq_true ((Bool.not_eq_false _).mp h1)
theorem check_ok(A:Option Addr)(n c:Nat)(at' size:Int)(w:World)(hn:n<=1000000)(h:T.getErr n at' size=0):Calls Tryz.prog 153 #[.slice A n c,.int .i64 at',.int .i64 size] w (Ret w (.tuple #[])):=by
 obtain⟨hs,h0,h1⟩:=getErr_facts h;clear h;go_enter Tryz.func153,Tryz.ntmps153;go_wp2_with fail;refine(sizes_any w).mono ?_;rintro e w2 ⟨rfl,hs2⟩;unfold sizesV;have S2:=Hd (show Since w (w2.alloc (.cells #[.bool false,.bool true,.bool true,.bool false,.bool true,.bool false,.bool false,.bool false,.bool true] 271))from Since.alloc hs2 _);clear hs2;have n0:¬at'<0:=by omega
 rcases hs with rfl|rfl|rfl|rfl
 all_goals
  go_wp2;go_end0;exact⟨rfl,S2.o⟩
theorem places_any(at' size:Int)(w:World):Calls Tryz.prog 154 #[.int .i64 at',.int .i64 size] w fun e w'=>∃X,e=.returned (.func (.func 224) #[] #[.pointer (some ⟨X+1,0,none⟩),.pointer (some ⟨X,0,none⟩)])/\Bank w w' [boxAcc (X+1) 3 [.int .i64 size],boxAcc X 2 [.int .i64 at']]:=by
 have hmf:=hmfT;have BK:=bk2 w [.int .i64 at'] 2 [.int .i64 size] 3;go_enter Tryz.func154,Tryz.ntmps154;go_wp2;go_ret;exact⟨w.heap.size,rfl,BK.o⟩
def KpC(Sz At:Nat)(W W':World):Prop:=W'.cell? ⟨Sz,0,none⟩=W.cell? ⟨Sz,0,none⟩/\W'.cell? ⟨At,0,none⟩=W.cell? ⟨At,0,none⟩
theorem kpc_t{Sz At:Nat}{A B C:World}(h:KpC Sz At A B)(k:KpC Sz At B C):KpC Sz At A C:=⟨k.1.trans h.1,k.2.trans h.2⟩
theorem kpc_b{Sz At:Nat}{w:World}(h1:Sz<w.heap.size)(h2:At<w.heap.size)(W:World)(l:Nat)(o o':Obj)(hl:w.heap.size<=l)(_:W.heap[l]?=some o)(_:o.isCells=false)(_:o.isWalk=false):KpC Sz At W (W.putObj l o'):=by
 have hne:∀b,b<w.heap.size->(W.putObj l o').cell? ⟨b,0,none⟩=W.cell? ⟨b,0,none⟩:=fun b hb=>by
  have this:(W.putObj l o').heap[b]?=W.heap[b]?:=World.putObj_heap_other (by omega);simp only[World.cell?,this]
 exact⟨hne Sz h1,hne At h2⟩
abbrev encsP(at':Int)(size:Nat)(i:{ i:Nat // i<size }):Array Value:=#[.int .i64 (at'+(i.1:Int)),.int .i64 (8*((size:Int)-1-(i.1:Int)))]
theorem places_stops(F:Fence)(n:Nat)(hF:F.fn 224)(hro:F.round=none)(hn:1<=n)(Sz At:Nat)(at':Int)(size:Nat)(h8:size<=8)(h0:0<=at')(h1:at'<=1000000)(w:World)(hS:w.cell? ⟨Sz,0,none⟩=some (.int .i64 (size:Int)))(hA:w.cell? ⟨At,0,none⟩=some (.int .i64 at')):
  SeqStopsK F n Tryz.prog 224 #[.pointer (some ⟨Sz,0,none⟩),.pointer (some ⟨At,0,none⟩)] (encsP at' size) (KpC Sz At) (fun xs=>xs.map Subtype.val=List.range size) (fun _=>True) size w:=fun l J Jx W hW hJ hJx hY hJ0=>by
 have hS1:=(hW.cell (p:=⟨Sz,0,none⟩) (block_lt_of_cell hS)).trans hS;have hA1:=(hW.cell (p:=⟨At,0,none⟩) (block_lt_of_cell hA)).trans hA;clear hS hA hW;refine callsIn_of_wp Tryz.func224 rfl hF ?_ hro;simp only[Tryz.ntmps224,List.size_toArray,List.length_cons,List.length_nil,Nat.reduceAdd,Nat.reduceSub,Array.replicate_succ,Array.replicate_zero,List.push_toArray,List.append_toArray,List.nil_append,List.cons_append]
 gi_wp2
 gi_loopw [4,6] (fun v i wr=>∃pre:List { i:Nat // i<size },pre.map Subtype.val=List.range pre.length/\pre.length<=size/\i=.int .i64 (pre.length:Int)/\J pre wr/\wr.cell? ⟨Sz,0,none⟩=some (.int .i64 (size:Int))/\wr.cell? ⟨At,0,none⟩=some (.int .i64 at')) (fun _ i _=>size-(intOf i).toNat)
 case atStart=>exact⟨[],rfl,Nat.zero_le _,rfl,hJ0,hS1,hA1⟩
 case round =>
  obtain⟨pre,hp,hl,rfl,hj,hS,hA⟩:=hrel;have HP:=Hd hp;clear hp;have j0:(0:Int)<=(pre.length:Int):=by omega
  by_cases hlt:pre.length<size
  ·have i1:(pre.length:Int)<(size:Int):=by omega
   obtain⟨fn,tmps,assign,body,hy,hR⟩:=hY pre ⟨pre.length,hlt⟩ wr hj hlt;dsimp only[encsP]at hy
   gi_wp2
   refine hR.mono ?_;rintro e W3 (⟨rfl,hJ3,hk3⟩|⟨rfl,hJx3⟩)
   ·have hS3:=hk3.1.trans hS
    have hA3:=hk3.2.trans hA;have HQ:=Hd (show(pre ++ [(⟨pre.length,hlt⟩:{ i:Nat // i<size })]).map Subtype.val=List.range (pre ++ [(⟨pre.length,hlt⟩:{ i:Nat // i<size })]).length by rw[List.map_append,HP.o,List.length_append,List.length_cons,List.length_nil,List.range_succ];rfl)
    gi_wp2
    go_roundw
    case rel=>exact⟨pre ++ [⟨pre.length,hlt⟩],HQ.o,by rw[List.length_append,List.length_cons,List.length_nil];omega,by rw[List.length_append];go_num,hJ3,hS3,hA3⟩
    case measure=>simp[intOf];omega
   ·gi_wp2
    refine bodyPost_ret (results_none rfl _ _ _) rfl ?_;exact⟨⟨_,rfl⟩,.inr ⟨_,trivial,hJx3⟩⟩
  ·have i1:¬(pre.length:Int)<(size:Int):=by omega
   have HE:=Hd (show pre.map Subtype.val=List.range size by rw[HP.o];congr 1;omega)
   gi_wp2
   go_end0;exact⟨⟨_,rfl⟩,.inl ⟨pre,HE.o,hj⟩⟩
end Go.Proofs.YtfeipbgnjainlaaGreatDoor.K
