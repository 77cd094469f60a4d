/- TPkB -/
import Derived.Test.YtfeipbgnjainlaaGreatDoorTp4
import Derived.Test.YtfeipbgnjainlaaGreatDoorTp2
import Derived.Test.YtfeipbgnjainlaaGreatDoorTp10
import Derived.Test.YtfeipbgnjainlaaGreatDoorTp12
import Derived.Test.YtfeipbgnjainlaaGreatDoorTp3
set_option linter.unusedVariables false
set_option linter.unusedSimpArgs false
set_option maxRecDepth 100000
set_option maxHeartbeats 4000000
namespace Go.Proofs.YtfeipbgnjainlaaGreatDoor.K
open Go Go.RowKit Go.Maps Go.Sort Go.Shelf
attribute [local go_sem] Oper.semAt_some
theorem Bank.turned{w0 W W':World}{L:List Acc}{row:Option Nat}{B:Nat}(h:Bank w0 W L)(hB:w0.heap.size<=B)(hg:W.grownBy W' row)(hr:∀r,row=some r->B<=r/\∃o:Obj,W.heap[r]?=some o/\o.isCells=false):Bank w0 W' L:=by
 refine⟨h.since.grown hg h.since.size (fun k e=>Nat.le_trans hB (hr k e).1),fun p hp=>(h.own p hp).kept hg ?_,h.sep⟩;cases hq:p.v.ownBlock with
 | none=>exact .inl rfl
 | some b =>
   right;intro e;obtain⟨_,o,ho,hc⟩:=hr b e.symm;have hown:=h.own p hp;rcases hown.2 with⟨hv,_⟩|⟨g,cap,cur,hv,_,hcell,_⟩
   ·rw[hv]at hq;cases hq
   ·rw[hv]at hq
    cases hq
    rw[hcell]at ho;cases ho
    cases hc
theorem set_same{α:Type _}:∀ {L:List α} {i:Nat} {x:α},L[i]?=some x->L.set i x=L
 | [],_,_,h=>by simp at h
 | y::L,0,x,h=>by simp at h;subst h;rfl
 | y::L,i+1,x,h=>by rw[List.set_cons_succ,set_same (by simpa using h)]
def getsL(pk:List T.B)(a size:Nat)(pre:List Nat):T.U:=pre.foldl (fun s j=>s ||| ((pk.getD (a+j) 0).setWidth 64 <<< (8*(size-1-j)))) 0
theorem getsL_range(pk:List T.B)(a size:Nat):getsL pk a size (List.range size)=T.gets pk a size:=rfl
theorem getsL_snoc(pk:List T.B)(a size:Nat)(pre:List Nat)(j:Nat):getsL pk a size (pre ++ [j])=getsL pk a size pre ||| ((pk.getD (a+j) 0).setWidth 64 <<< (8*(size-1-j))):=by
 unfold getsL;rw[List.foldl_append];rfl
theorem get1_ok(A B C D:Nat)(Ad:Option Addr)(n c:Nat)(pk:List T.B)(k:Nat)(size:Nat){w0 w:World}{L:List Acc}(i ia ib ic:Nat)(hB:Bank w0 w L)(hr:RowRd w0 ⟨Ad,n,c⟩ pk)(hn:n<=1000000)(hz:T.getErr n (k:Int) (size:Int)=0)
  (hi:L[i]?=some (boxAcc D 39 [W64 0#64])) (hia:L[ia]?=some (boxAcc A 23 [.slice Ad n c])) (hib:L[ib]?=some (boxAcc B 2 [.int .i64 (k:Int)])) (hic:L[ic]?=some (boxAcc C 3 [.int .i64 (size:Int)])) (h1:i≠ia) (h2:i≠ib) (h3:i≠ic) :
  Calls Tryz.prog 152 #[.pointer (some ⟨A,0,none⟩),.pointer (some ⟨B,0,none⟩),.pointer (some ⟨C,0,none⟩),.pointer (some ⟨D,0,none⟩)] w fun e w'=>(∃v,e=.returned v)/\Bank w0 w' (L.set i (boxAcc D 39 [W64 (T.gets pk k size)])):=by
 have HR:=Hd hr;have HZ:=Hd hz;obtain⟨hs,ha0,ha1⟩:=getErr_facts hz;have h8:size<=8:=by omega
 have ham:(k:Int)<=1000000:=by omega
 clear hr hz hs;have BK0:=Hd hB;clear hB;have a0:=BK0.o.cell ia hia 0 rfl;have b0:=BK0.o.cell ib hib 0 rfl;have c0:=BK0.o.cell ic hic 0 rfl;refine(callsIn_wide (n:=5)).1 ?_;refine callsIn_of_wp_marks Tryz.func152 rfl trivial ?_ rfl;simp only[Tryz.ntmps152,List.size_toArray,List.length_cons,List.length_nil,Nat.reduceAdd,Nat.reduceSub,Array.replicate_succ,Array.replicate_zero,List.push_toArray,List.append_toArray,List.nil_append,List.cons_append]
 gi_wp2_with (first
  | (refine⟨trivial,?_⟩;gi_at_call 153;refine(callsIn_wide.2 (check_ok Ad n c (k:Int) (size:Int) _ hn HZ.o)).mono ?_;rintro e w2 ⟨rfl,hs⟩;have BK1:=Hd (BK0.o.call hs);clear hs a0 b0 c0 BK0;have b0:=BK1.o.cell ib hib 0 rfl;have c0:=BK1.o.cell ic hic 0 rfl)
  | (refine⟨trivial,?_⟩;gi_at_call 154;refine(callsIn_wide.2 (places_any (k:Int) (size:Int) _)).mono ?_;rintro e w3 ⟨X,rfl,hb⟩;have BK2:=Hd (bank_join BK1.o hb);clear hb b0 c0 BK1))
 have hS:=BK2.o.cl 0 0;have hA:=BK2.o.cl 1 0;have hltS:=(BK2.o.lt (p:=boxAcc (X+1) 3 [.int .i64 (size:Int)]) (List.mem_cons_self ..) rfl).2;have hltA:=(BK2.o.lt (p:=boxAcc X 2 [.int .i64 (k:Int)]) (List.mem_cons_of_mem _ (List.mem_cons_self ..)) rfl).2;have hsz:=BK2.o.since.size;have hset:L.set i (boxAcc D 39 [W64 0#64])=L:=set_same hi;have HIA:=Hd (fun x=>show(L.set i x)[ia]?=some (boxAcc A 23 [.slice Ad n c])by rw[List.getElem?_set_ne h1];exact hia);have HID:=Hd (fun x=>show(L.set i x)[i]?=some x from List.getElem?_set_self (List.getElem?_eq_some_iff.1 hi).1)
 refine wpIn_rangeFunc_ownF rfl (by decide) (gf:=224) (lb:=#[.pointer (some ⟨X+1,0,none⟩),.pointer (some ⟨X,0,none⟩)]) rfl trivial (enters_of Tryz.func224 (by kernel_rfl) rfl)
  (places_stops Fence.wide 4 trivial rfl (by decide) (X+1) X (k:Int) size h8 ha0 ham w3 hS hA) kpc_t (kpc_b hltS hltA) (Below.refl _ _) (fun _=>rfl)
  (fun pre W=>Bank w0 W (boxAcc (X+1) 3 [.int .i64 (size:Int)]::boxAcc X 2 [.int .i64 (k:Int)]::L.set i (boxAcc D 39 [W64 (getsL pk k size (pre.map Subtype.val))])))
  (fun _ _ _=>False)
  (fun s W W' row h hg hr=>h.turned hsz hg hr)
  (fun _ _ _ _ _ hs _ _=>hs)
  (by show Bank w0 w3 (_::_::L.set i (boxAcc D 39 [W64 0#64]));rw[hset];exact BK2.o)
  (fun x=>{ tmps:=#[.pointer (some ⟨A,0,none⟩),.pointer (some ⟨B,0,none⟩),.pointer (some ⟨C,0,none⟩),.pointer (some ⟨D,0,none⟩),.int .i64 ((k:Int)+(x.1:Int)),.int .i64 (8*((size:Int)-1-(x.1:Int))),.slice Ad n c,.int .i64 (k:Int),.int .i64 (size:Int),.tuple #[],.int .i64 (k:Int),.int .i64 (size:Int),.func (.func 224) #[] #[.pointer (some ⟨X+1,0,none⟩),.pointer (some ⟨X,0,none⟩)],.int .i64 ((k:Int)+(x.1:Int)),.int .i64 (8*((size:Int)-1-(x.1:Int))),undef,undef,undef,undef,undef,undef,undef,undef,undef],defers:=[] }) ?assign ?body ?done ?stop
 case assign =>
  intro l x W K hK
  gi_wp2
  exact hK
 case body =>
  rintro l pre ⟨j,hj⟩ W hI _;have HI:=Hd hI;have hd:=HI.o.cell (i+2) (HID.o _) 0 rfl;have hf:=HI.o.free (i+2) (HID.o _) 0;have ha:=HI.o.cell (ia+2) (HIA.o _) 0 rfl;have RW:=Hd (HI.o.since.row HR.o);have hkj:k+j<pk.length:=by have:=RW.o.len;have e:(⟨Ad,n,c⟩:Rw).n=n:=rfl;rw[e]at this;omega
  obtain⟨b,o,hAd,hc⟩:=RW.o.rd (k+j) hkj;have hAd':Ad=some ⟨b,o,none⟩:=hAd;subst hAd';clear hAd hI;have hm:Tryz.prog.follows .mixedOrders=true:=by kernel_rfl
  have i0:(0:Int)<=(k:Int)+(j:Int):=by omega
  have i1:(k:Int)+(j:Int)<(n:Int):=by omega
  have hkn:((k:Int)+(j:Int)).toNat=k+j:=by omega
  obtain⟨u,hu⟩:∃u:Nat,8*(size-1-j)=u:=⟨_,rfl⟩
  have hu2:8*((size:Int)-1-(j:Int))=(u:Int):=by omega
  have hun:¬(u:Int)<0:=by omega
  have HU:=Hd hu;show Code.wpIn _ _ _ _ _ { tmps:=#[_,_,_,_,_,.int .i64 (8*((size:Int)-1-(j:Int))),_,_,_,_,_,_,_,_,.int .i64 (8*((size:Int)-1-(j:Int))),_,_,_,_,_,_,_,_,_],defers:=[] } _
  rw[hu2];clear hu hu2;obtain⟨acc,hacc⟩:∃q,getsL pk k size (pre.map Subtype.val)=q:=⟨_,rfl⟩
  rw[hacc]at hd;have HACC:=Hd hacc;clear hacc;obtain⟨y,hy⟩:∃y,pk[k+j]=y:=⟨_,rfl⟩
  rw[hy]at hc;have HY:=Hd hy;clear hy;have HB2:=HI.o.drew.boxSet (i+2) (HID.o _) 0 (W64 (acc ||| y.setWidth 64 <<< u))
  have HFIN:=Hd (show ownPostK (KpC (X+1) X) (fun(pre:List { i:Nat // i<size }) W=>Bank w0 W (boxAcc (X+1) 3 [.int .i64 (size:Int)]::boxAcc X 2 [.int .i64 (k:Int)]::L.set i (boxAcc D 39 [W64 (getsL pk k size (pre.map Subtype.val))]))) (fun _ _ _=>False) (pre ++ [⟨j,hj⟩]) W .normal { tmps:=#[],defers:=[] } (W.drew.setCell ⟨D,0,none⟩ (W64 (acc ||| y.setWidth 64 <<< u)))from
   ⟨KeepsOthers.trans (KeepsOthers.drew _) (KeepsOthers.setCell _ _ _),⟨(HB2.cl 0 0).trans (HI.o.cl 0 0).symm,(HB2.cl 1 0).trans (HI.o.cl 1 0).symm⟩,by
    have e:getsL pk k size ((pre ++ [(⟨j,hj⟩:{ i:Nat // i<size })]).map Subtype.val)=acc ||| y.setWidth 64 <<< u:=by
     rw[List.map_append,List.map_cons,List.map_nil,getsL_snoc,HACC.o,List.getD_eq_getElem?_getD,List.getElem?_eq_getElem hkj,HY.o,HU.o];rfl
    have h2:=HB2;rw[List.set_cons_succ,List.set_cons_succ,List.set_set]at h2;show Bank w0 _ (_::_::L.set i (boxAcc D 39 [W64 (getsL pk k size ((pre ++ [(⟨j,hj⟩:{ i:Nat // i<size })]).map Subtype.val))]))
    rw[e]
    exact h2⟩)
  clear HB2
  gi_wp2
  refine wpIn_region_any hm ?_;change wpAnyIn _ _ _ _ _ _ _ _ _ (World.drew _)
  all_goals first
   | (refine wpAnyIn_ready (rs:=[0,1,2,6]) (by decide +kernel) (by simp) (AllReadyIn.cons rfl (fun K hK=>?_) (AllReadyIn.cons rfl (fun K hK=>?_) (AllReadyIn.cons rfl (fun K hK=>?_) (AllReadyIn.cons rfl (fun K hK=>?_) AllReadyIn.nil))))<;>(go_simp;refine hK _ _ ?_;clear hK K;(try simp only[Act.put,sA,sZ,sS])))
  all_goals first
   | (refine wpAnyIn_ready (rs:=[0,1,2]) (by decide +kernel) (by simp) (AllReadyIn.cons rfl (fun K hK=>?_) (AllReadyIn.cons rfl (fun K hK=>?_) (AllReadyIn.cons rfl (fun K hK=>?_) AllReadyIn.nil)))<;>(go_simp;refine hK _ _ ?_;clear hK K;(try simp only[Act.put,sA,sZ,sS])))
   | (refine wpAnyIn_ready (rs:=[0,1,6]) (by decide +kernel) (by simp) (AllReadyIn.cons rfl (fun K hK=>?_) (AllReadyIn.cons rfl (fun K hK=>?_) (AllReadyIn.cons rfl (fun K hK=>?_) AllReadyIn.nil)))<;>(go_simp;refine hK _ _ ?_;clear hK K;(try simp only[Act.put,sA,sZ,sS])))
   | (refine wpAnyIn_ready (rs:=[0,2,6]) (by decide +kernel) (by simp) (AllReadyIn.cons rfl (fun K hK=>?_) (AllReadyIn.cons rfl (fun K hK=>?_) (AllReadyIn.cons rfl (fun K hK=>?_) AllReadyIn.nil)))<;>(go_simp;refine hK _ _ ?_;clear hK K;(try simp only[Act.put,sA,sZ,sS])))
   | (refine wpAnyIn_ready (rs:=[1,2,6]) (by decide +kernel) (by simp) (AllReadyIn.cons rfl (fun K hK=>?_) (AllReadyIn.cons rfl (fun K hK=>?_) (AllReadyIn.cons rfl (fun K hK=>?_) AllReadyIn.nil)))<;>(go_simp;refine hK _ _ ?_;clear hK K;(try simp only[Act.put,sA,sZ,sS])))
  all_goals first
   | (refine wpAnyIn_ready (rs:=[0,3,6]) (by decide +kernel) (by simp) (AllReadyIn.cons rfl (fun K hK=>?_) (AllReadyIn.cons rfl (fun K hK=>?_) (AllReadyIn.cons rfl (fun K hK=>?_) AllReadyIn.nil)))<;>(go_simp;refine hK _ _ ?_;clear hK K;(try simp only[Act.put,sA,sZ,sS])))
   | (refine wpAnyIn_ready (rs:=[0,1]) (by decide +kernel) (by simp) (AllReadyIn.cons rfl (fun K hK=>?_) (AllReadyIn.cons rfl (fun K hK=>?_) AllReadyIn.nil))<;>(go_simp;refine hK _ _ ?_;clear hK K;(try simp only[Act.put,sA,sZ,sS])))
   | (refine wpAnyIn_ready (rs:=[0,2]) (by decide +kernel) (by simp) (AllReadyIn.cons rfl (fun K hK=>?_) (AllReadyIn.cons rfl (fun K hK=>?_) AllReadyIn.nil))<;>(go_simp;refine hK _ _ ?_;clear hK K;(try simp only[Act.put,sA,sZ,sS])))
   | (refine wpAnyIn_ready (rs:=[1,2]) (by decide +kernel) (by simp) (AllReadyIn.cons rfl (fun K hK=>?_) (AllReadyIn.cons rfl (fun K hK=>?_) AllReadyIn.nil))<;>(go_simp;refine hK _ _ ?_;clear hK K;(try simp only[Act.put,sA,sZ,sS])))
   | (refine wpAnyIn_ready (rs:=[1,6]) (by decide +kernel) (by simp) (AllReadyIn.cons rfl (fun K hK=>?_) (AllReadyIn.cons rfl (fun K hK=>?_) AllReadyIn.nil))<;>(go_simp;refine hK _ _ ?_;clear hK K;(try simp only[Act.put,sA,sZ,sS])))
   | (refine wpAnyIn_ready (rs:=[2,6]) (by decide +kernel) (by simp) (AllReadyIn.cons rfl (fun K hK=>?_) (AllReadyIn.cons rfl (fun K hK=>?_) AllReadyIn.nil))<;>(go_simp;refine hK _ _ ?_;clear hK K;(try simp only[Act.put,sA,sZ,sS])))
  all_goals first
   | (refine wpAnyIn_ready (rs:=[0,4,6]) (by decide +kernel) (by simp) (AllReadyIn.cons rfl (fun K hK=>?_) (AllReadyIn.cons rfl (fun K hK=>?_) (AllReadyIn.cons rfl (fun K hK=>?_) AllReadyIn.nil)))<;>(go_simp;refine hK _ _ ?_;clear hK K;(try simp only[Act.put,sA,sZ,sS])))
   | (refine wpAnyIn_ready (rs:=[0,3]) (by decide +kernel) (by simp) (AllReadyIn.cons rfl (fun K hK=>?_) (AllReadyIn.cons rfl (fun K hK=>?_) AllReadyIn.nil))<;>(go_simp;refine hK _ _ ?_;clear hK K;(try simp only[Act.put,sA,sZ,sS])))
   | (refine wpAnyIn_ready (rs:=[3,6]) (by decide +kernel) (by simp) (AllReadyIn.cons rfl (fun K hK=>?_) (AllReadyIn.cons rfl (fun K hK=>?_) AllReadyIn.nil))<;>(go_simp;refine hK _ _ ?_;clear hK K;(try simp only[Act.put,sA,sZ,sS])))
   | (refine wpAnyIn_ready (rs:=[1]) (by decide +kernel) (by simp) (AllReadyIn.cons rfl (fun K hK=>?_) AllReadyIn.nil)<;>(go_simp;refine hK _ _ ?_;clear hK K;(try simp only[Act.put,sA,sZ,sS])))
   | (refine wpAnyIn_ready (rs:=[2]) (by decide +kernel) (by simp) (AllReadyIn.cons rfl (fun K hK=>?_) AllReadyIn.nil)<;>(go_simp;refine hK _ _ ?_;clear hK K;(try simp only[Act.put,sA,sZ,sS])))
  all_goals first
   | (refine wpAnyIn_ready (rs:=[0,5,6]) (by decide +kernel) (by simp) (AllReadyIn.cons rfl (fun K hK=>?_) (AllReadyIn.cons rfl (fun K hK=>?_) (AllReadyIn.cons rfl (fun K hK=>?_) AllReadyIn.nil)))<;>(go_simp;refine hK _ _ ?_;clear hK K;(try simp only[Act.put,sA,sZ,sS])))
   | (refine wpAnyIn_ready (rs:=[0,4]) (by decide +kernel) (by simp) (AllReadyIn.cons rfl (fun K hK=>?_) (AllReadyIn.cons rfl (fun K hK=>?_) AllReadyIn.nil))<;>(go_simp;refine hK _ _ ?_;clear hK K;(try simp only[Act.put,sA,sZ,sS])))
   | (refine wpAnyIn_ready (rs:=[4,6]) (by decide +kernel) (by simp) (AllReadyIn.cons rfl (fun K hK=>?_) (AllReadyIn.cons rfl (fun K hK=>?_) AllReadyIn.nil))<;>(go_simp;refine hK _ _ ?_;clear hK K;(try simp only[Act.put,sA,sZ,sS])))
   | (refine wpAnyIn_ready (rs:=[3]) (by decide +kernel) (by simp) (AllReadyIn.cons rfl (fun K hK=>?_) AllReadyIn.nil)<;>(go_simp;refine hK _ _ ?_;clear hK K;(try simp only[Act.put,sA,sZ,sS])))
  all_goals first
   | (refine wpAnyIn_ready (rs:=[0,5]) (by decide +kernel) (by simp) (AllReadyIn.cons rfl (fun K hK=>?_) (AllReadyIn.cons rfl (fun K hK=>?_) AllReadyIn.nil))<;>(go_simp;refine hK _ _ ?_;clear hK K;(try simp only[Act.put,sA,sZ,sS])))
   | (refine wpAnyIn_ready (rs:=[0,6]) (by decide +kernel) (by simp) (AllReadyIn.cons rfl (fun K hK=>?_) (AllReadyIn.cons rfl (fun K hK=>?_) AllReadyIn.nil))<;>(go_simp;refine hK _ _ ?_;clear hK K;(try simp only[Act.put,sA,sZ,sS])))
   | (refine wpAnyIn_ready (rs:=[5,6]) (by decide +kernel) (by simp) (AllReadyIn.cons rfl (fun K hK=>?_) (AllReadyIn.cons rfl (fun K hK=>?_) AllReadyIn.nil))<;>(go_simp;refine hK _ _ ?_;clear hK K;(try simp only[Act.put,sA,sZ,sS])))
   | (refine wpAnyIn_ready (rs:=[4]) (by decide +kernel) (by simp) (AllReadyIn.cons rfl (fun K hK=>?_) AllReadyIn.nil)<;>(go_simp;refine hK _ _ ?_;clear hK K;(try simp only[Act.put,sA,sZ,sS])))
  all_goals first
   | (refine wpAnyIn_ready (rs:=[0,7]) (by decide +kernel) (by simp) (AllReadyIn.cons rfl (fun K hK=>?_) (AllReadyIn.cons rfl (fun K hK=>?_) AllReadyIn.nil))<;>(go_simp;refine hK _ _ ?_;clear hK K;(try simp only[Act.put,sA,sZ,sS])))
   | (refine wpAnyIn_ready (rs:=[5]) (by decide +kernel) (by simp) (AllReadyIn.cons rfl (fun K hK=>?_) AllReadyIn.nil)<;>(go_simp;refine hK _ _ ?_;clear hK K;(try simp only[Act.put,sA,sZ,sS])))
   | (refine wpAnyIn_ready (rs:=[6]) (by decide +kernel) (by simp) (AllReadyIn.cons rfl (fun K hK=>?_) AllReadyIn.nil)<;>(go_simp;refine hK _ _ ?_;clear hK K;(try simp only[Act.put,sA,sZ,sS])))
  all_goals first
   | (refine wpAnyIn_ready (rs:=[0]) (by decide +kernel) (by simp) (AllReadyIn.cons rfl (fun K hK=>?_) AllReadyIn.nil)<;>(go_simp;refine hK _ _ ?_;clear hK K;(try simp only[Act.put,sA,sZ,sS])))
   | (refine wpAnyIn_ready (rs:=[7]) (by decide +kernel) (by simp) (AllReadyIn.cons rfl (fun K hK=>?_) AllReadyIn.nil)<;>(go_simp;refine hK _ _ ?_;clear hK K;(try simp only[Act.put,sA,sZ,sS])))
  all_goals first
   | (refine wpAnyIn_ready (rs:=[8]) (by decide +kernel) (by simp) (AllReadyIn.cons rfl (fun K hK=>?_) AllReadyIn.nil)<;>(go_simp;refine hK _ _ ?_;clear hK K;(try simp only[Act.put,sA,sZ,sS])))
  all_goals first
   | (refine wpAnyIn_ready (rs:=[9]) (by decide +kernel) (by simp) (AllReadyIn.cons rfl (fun K hK=>?_) AllReadyIn.nil)<;>(go_simp;generalize(acc ||| y.setWidth 64 <<< u)=zz at *;unfold W64;go_simp;refine hK _ _ ?_;clear hK K;(try simp only[Act.put,sA,sZ,sS])))
  all_goals (refine wpAnyIn_done (by kernel_rfl) ?_ _;gi_wp2;exact HFIN.o)
 case done =>
  rintro D2 xs W hD hxs hI hK
  have HB:=Hd (show Bank w0 W (L.set i (boxAcc D 39 [W64 (T.gets pk k size)]))by
   have h2:=hI.drop.drop;rw[hxs,getsL_range]at h2
   exact h2)
  clear hI hxs
  gi_wp2
  refine⟨by simp,.inl ⟨_,_,rfl,run_takeDeferred hK,?_⟩⟩;exact⟨_,results_none rfl _ _ _,⟨_,rfl⟩,HB.o.turned hsz (grownBy_putObj' W D2 _) (fun r e=>by cases e;exact⟨hD,_,hK,rfl⟩)⟩
 case stop =>
  rintro D2 c2 pre W _ _ h _;exact h.elim
end Go.Proofs.YtfeipbgnjainlaaGreatDoor.K
