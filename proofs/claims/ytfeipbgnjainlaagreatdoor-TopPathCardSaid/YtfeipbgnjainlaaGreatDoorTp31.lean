/- TPkD -/
import Derived.Test.YtfeipbgnjainlaaGreatDoorTp10
import Derived.Test.YtfeipbgnjainlaaGreatDoorTp2
import Derived.Test.YtfeipbgnjainlaaGreatDoorTp22
set_option linter.unusedVariables false
set_option linter.unusedSimpArgs false
set_option maxRecDepth 100000
set_option maxHeartbeats 4000000
namespace Go.Proofs.YtfeipbgnjainlaaGreatDoor.K
open Go Go.RowKit Go.Maps Go.Sort Go.Shelf
attribute [local go_sem] Oper.semAt_some
def setsL(vs:List Value)(o k size:Nat)(v:T.U)(pre:List Nat):List Value:=pre.foldl (fun vs j=>vs.set (o+(k+j)) (B8 ((v >>> (8*(size-1-j))).setWidth 8))) vs
theorem setsL_snoc(vs:List Value)(o k size:Nat)(v:T.U)(pre:List Nat)(j:Nat):setsL vs o k size v (pre ++ [j])=(setsL vs o k size v pre).set (o+(k+j)) (B8 ((v >>> (8*(size-1-j))).setWidth 8)):=by
 unfold setsL;rw[List.foldl_append];rfl
theorem setsL_length(vs:List Value)(o k size:Nat)(v:T.U)(pre:List Nat):(setsL vs o k size v pre).length=vs.length:=by
 unfold setsL
 induction pre generalizing vs with
 | nil=>rfl
 | cons j pre ih=>rw[List.foldl_cons,ih,List.length_set]
theorem set1_ok(A B C D G o n c:Nat)(t:TypeId)(vs:List Value)(v:T.U)(k size:Nat){K:List (Nat×Obj)}{w0 w:World}{L:List Acc}(i ia ib ic id:Nat)(hB:BankK K w0 w L)(hlen:o+n<=vs.length)(hn:n<=1000000)(hz:T.getErr n (k:Int) (size:Int)=0)
  (hi:L[i]?=some (boxAcc G t vs)) (hia:L[ia]?=some (boxAcc A 23 [.slice (some ⟨G,o,none⟩) n c])) (hib:L[ib]?=some (boxAcc B 2 [.int .i64 (k:Int)])) (hic:L[ic]?=some (boxAcc C 3 [.int .i64 (size:Int)])) (hid:L[id]?=some (boxAcc D 39 [W64 v])) (h1:i≠ia) (h4:i≠id) :
  Calls Tryz.prog 155 #[.pointer (some ⟨A,0,none⟩),.pointer (some ⟨B,0,none⟩),.pointer (some ⟨C,0,none⟩),.pointer (some ⟨D,0,none⟩)] w fun e w'=>(∃v,e=.returned v)/\BankK K w0 w' (L.set i (boxAcc G t (setsL vs o k size v (List.range size)))):=by
 have HZ:=Hd hz;obtain⟨hs,ha0,ha1⟩:=getErr_facts hz;have h8:size<=8:=by omega
 have ham:(k:Int)<=1000000:=by omega
 clear hz hs;have BK0:=Hd hB;clear hB;have a0:=BK0.o.cell ia hia 0 rfl;have b0:=BK0.o.cell ib hib 0 rfl;have c0:=BK0.o.cell ic hic 0 rfl;refine(callsIn_wide (n:=5)).1 ?_;refine callsIn_of_wp_marks Tryz.func155 rfl trivial ?_ rfl;simp only[Tryz.ntmps155,List.size_toArray,List.length_cons,List.length_nil,Nat.reduceAdd,Nat.reduceSub,Array.replicate_succ,Array.replicate_zero,List.push_toArray,List.append_toArray,List.nil_append,List.cons_append]
 gi_wp2_with (first
  | (refine⟨trivial,?_⟩;gi_at_call 153;refine(callsIn_wide.2 (check_ok (some ⟨G,o,none⟩) n c (k:Int) (size:Int) _ hn HZ.o)).mono ?_;rintro e w2 ⟨rfl,hs⟩;have BK1:=Hd (BK0.o.call hs);clear hs a0 b0 c0 BK0;have b0:=BK1.o.cell ib hib 0 rfl;have c0:=BK1.o.cell ic hic 0 rfl)
  | (refine⟨trivial,?_⟩;gi_at_call 154;refine(callsIn_wide.2 (places_any (k:Int) (size:Int) _)).mono ?_;rintro e w3 ⟨X,rfl,hb⟩;have BK2:=Hd (BK1.o.join hb);clear hb b0 c0 BK1))
 have hS:=BK2.o.cell 0 rfl 0 rfl;have hA:=BK2.o.cell 1 rfl 0 rfl;have hltS:=(BK2.o.lt (p:=boxAcc (X+1) 3 [.int .i64 (size:Int)]) (List.mem_cons_self ..) rfl).2;have hltA:=(BK2.o.lt (p:=boxAcc X 2 [.int .i64 (k:Int)]) (List.mem_cons_of_mem _ (List.mem_cons_self ..)) rfl).2;have hsz:=BK2.o.since.size;have hgB:=BK2.o.ltK;have hset:L.set i (boxAcc G t vs)=L:=set_same hi;have HIA:=Hd (fun x=>show(L.set i x)[ia]?=some (boxAcc A 23 [.slice (some ⟨G,o,none⟩) n c])by rw[List.getElem?_set_ne h1];exact hia);have HIV:=Hd (fun x=>show(L.set i x)[id]?=some (boxAcc D 39 [W64 v])by rw[List.getElem?_set_ne h4];exact hid);have HID:=Hd (fun x=>show(L.set i x)[i]?=some x from List.getElem?_set_self (List.getElem?_eq_some_iff.1 hi).1)
 refine wpIn_rangeFunc_ownF rfl (by decide) (gf:=224) (lb:=#[.pointer (some ⟨X+1,0,none⟩),.pointer (some ⟨X,0,none⟩)]) rfl trivial (enters_of Tryz.func224 (by kernel_rfl) rfl)
  (places_stops Fence.wide 4 trivial rfl (by decide) (X+1) X (k:Int) size h8 ha0 ham w3 hS hA) kpc_t (kpc_b hltS hltA) (Below.refl _ _) (fun _=>rfl)
  (fun pre W=>BankK K w0 W (boxAcc (X+1) 3 [.int .i64 (size:Int)]::boxAcc X 2 [.int .i64 (k:Int)]::L.set i (boxAcc G t (setsL vs o k size v (pre.map Subtype.val)))))
  (fun _ _ _=>False)
  (fun s W W' row h hg hr=>h.turned hsz hgB hg hr)
  (fun _ _ _ _ _ hs _ _=>hs)
  (by show BankK K w0 w3 (_::_::L.set i (boxAcc G t vs));rw[hset];exact BK2.o)
  (fun x=>{ tmps:=#[.pointer (some ⟨A,0,none⟩),.pointer (some ⟨B,0,none⟩),.pointer (some ⟨C,0,none⟩),.pointer (some ⟨D,0,none⟩),.int .i64 ((k:Int)+(x.1:Int)),.int .i64 (8*((size:Int)-1-(x.1:Int))),.slice (some ⟨G,o,none⟩) n c,.int .i64 (k:Int),.int .i64 (size:Int),.tuple #[],.int .i64 (k:Int),.int .i64 (size:Int),.func (.func 224) #[] #[.pointer (some ⟨X+1,0,none⟩),.pointer (some ⟨X,0,none⟩)],.int .i64 ((k:Int)+(x.1:Int)),.int .i64 (8*((size:Int)-1-(x.1:Int))),undef,undef,undef,undef,undef,undef,undef],defers:=[] }) ?assign ?body ?done ?stop
 case assign =>
  intro l x W K hK
  gi_wp2
  exact hK
 case body =>
  rintro l pre ⟨j,hj⟩ W hI _;have HI:=Hd hI;have hd:=HI.o.cell (id+2) (HIV.o _) 0 rfl;have ha:=HI.o.cell (ia+2) (HIA.o _) 0 rfl;have hlx:o+(k+j)<(setsL vs o k size v (pre.map Subtype.val)).length:=by rw[setsL_length];omega
  have hcell:=HI.o.cell (i+2) (HID.o _) (o+(k+j)) (List.getElem?_eq_getElem hlx);have hfree:=HI.o.free (i+2) (HID.o _) (o+(k+j));clear hI;have hm:Tryz.prog.follows .mixedOrders=true:=by kernel_rfl
  have i0:(0:Int)<=(k:Int)+(j:Int):=by omega
  have i1:(k:Int)+(j:Int)<(n:Int):=by omega
  have hkn:((k:Int)+(j:Int)).toNat=k+j:=by omega
  obtain⟨u,hu⟩:∃u:Nat,8*(size-1-j)=u:=⟨_,rfl⟩
  have hu2:8*((size:Int)-1-(j:Int))=(u:Int):=by omega
  have hun:¬(u:Int)<0:=by omega
  have HU:=Hd hu;show Code.wpIn _ _ _ _ _ { tmps:=#[_,_,_,_,_,.int .i64 (8*((size:Int)-1-(j:Int))),_,_,_,_,_,_,_,_,.int .i64 (8*((size:Int)-1-(j:Int))),_,_,_,_,_,_,_],defers:=[] } _
  rw[hu2];clear hu hu2;obtain⟨old,hold⟩:∃q,(setsL vs o k size v (pre.map Subtype.val))[o+(k+j)]=q:=⟨_,rfl⟩
  rw[hold]at hcell;clear hold;have HB2:=HI.o.drew.boxSet (i+2) (HID.o _) (o+(k+j)) (B8 ((v >>> u).setWidth 8))
  have HFIN:=Hd (show ownPostK (KpC (X+1) X) (fun(pre:List { i:Nat // i<size }) W=>BankK K w0 W (boxAcc (X+1) 3 [.int .i64 (size:Int)]::boxAcc X 2 [.int .i64 (k:Int)]::L.set i (boxAcc G t (setsL vs o k size v (pre.map Subtype.val))))) (fun _ _ _=>False) (pre ++ [⟨j,hj⟩]) W .normal { tmps:=#[],defers:=[] } (W.drew.setCell ⟨G,o+(k+j),none⟩ (B8 ((v >>> u).setWidth 8)))from
   ⟨KeepsOthers.trans (KeepsOthers.drew _) (KeepsOthers.setCell _ _ _),⟨(HB2.cell 0 rfl 0 rfl).trans (HI.o.cell 0 rfl 0 rfl).symm,(HB2.cell 1 rfl 0 rfl).trans (HI.o.cell 1 rfl 0 rfl).symm⟩,by
    have e:setsL vs o k size v ((pre ++ [(⟨j,hj⟩:{ i:Nat // i<size })]).map Subtype.val)=(setsL vs o k size v (pre.map Subtype.val)).set (o+(k+j)) (B8 ((v >>> u).setWidth 8)):=by
     rw[List.map_append,List.map_cons,List.map_nil,setsL_snoc,HU.o]
    have h2:=HB2;rw[List.set_cons_succ,List.set_cons_succ,List.set_set]at h2;show BankK K w0 _ (_::_::L.set i (boxAcc G t (setsL vs o k size v ((pre ++ [(⟨j,hj⟩:{ i:Nat // i<size })]).map Subtype.val))))
    rw[e]
    exact h2⟩)
  clear HB2
  gi_wp2
  refine wpIn_region_any hm ?_;change wpAnyIn _ _ _ _ _ _ _ _ _ (World.drew _)
  all_goals first
   | (refine wpAnyIn_ready (rs:=[0,1,2,3]) (by decide +kernel) (by simp) (AllReadyIn.cons rfl (fun K hK=>?_) (AllReadyIn.cons rfl (fun K hK=>?_) (AllReadyIn.cons rfl (fun K hK=>?_) (AllReadyIn.cons rfl (fun K hK=>?_) AllReadyIn.nil))))<;>(go_simp;refine hK _ _ ?_;clear hK K;(try simp only[Act.put,sA,sZ,sS])))
  all_goals first
   | (refine wpAnyIn_ready (rs:=[0,1,2]) (by decide +kernel) (by simp) (AllReadyIn.cons rfl (fun K hK=>?_) (AllReadyIn.cons rfl (fun K hK=>?_) (AllReadyIn.cons rfl (fun K hK=>?_) AllReadyIn.nil)))<;>(go_simp;refine hK _ _ ?_;clear hK K;(try simp only[Act.put,sA,sZ,sS])))
   | (refine wpAnyIn_ready (rs:=[0,1,3]) (by decide +kernel) (by simp) (AllReadyIn.cons rfl (fun K hK=>?_) (AllReadyIn.cons rfl (fun K hK=>?_) (AllReadyIn.cons rfl (fun K hK=>?_) AllReadyIn.nil)))<;>(go_simp;refine hK _ _ ?_;clear hK K;(try simp only[Act.put,sA,sZ,sS])))
   | (refine wpAnyIn_ready (rs:=[0,2,3]) (by decide +kernel) (by simp) (AllReadyIn.cons rfl (fun K hK=>?_) (AllReadyIn.cons rfl (fun K hK=>?_) (AllReadyIn.cons rfl (fun K hK=>?_) AllReadyIn.nil)))<;>(go_simp;refine hK _ _ ?_;clear hK K;(try simp only[Act.put,sA,sZ,sS])))
   | (refine wpAnyIn_ready (rs:=[1,2,3]) (by decide +kernel) (by simp) (AllReadyIn.cons rfl (fun K hK=>?_) (AllReadyIn.cons rfl (fun K hK=>?_) (AllReadyIn.cons rfl (fun K hK=>?_) AllReadyIn.nil)))<;>(go_simp;refine hK _ _ ?_;clear hK K;(try simp only[Act.put,sA,sZ,sS])))
  all_goals first
   | (refine wpAnyIn_ready (rs:=[0,1,4]) (by decide +kernel) (by simp) (AllReadyIn.cons rfl (fun K hK=>?_) (AllReadyIn.cons rfl (fun K hK=>?_) (AllReadyIn.cons rfl (fun K hK=>?_) AllReadyIn.nil)))<;>(go_simp;refine hK _ _ ?_;clear hK K;(try simp only[Act.put,sA,sZ,sS])))
   | (refine wpAnyIn_ready (rs:=[0,2]) (by decide +kernel) (by simp) (AllReadyIn.cons rfl (fun K hK=>?_) (AllReadyIn.cons rfl (fun K hK=>?_) AllReadyIn.nil))<;>(go_simp;refine hK _ _ ?_;clear hK K;(try simp only[Act.put,sA,sZ,sS])))
   | (refine wpAnyIn_ready (rs:=[0,3]) (by decide +kernel) (by simp) (AllReadyIn.cons rfl (fun K hK=>?_) (AllReadyIn.cons rfl (fun K hK=>?_) AllReadyIn.nil))<;>(go_simp;refine hK _ _ ?_;clear hK K;(try simp only[Act.put,sA,sZ,sS])))
   | (refine wpAnyIn_ready (rs:=[1,2]) (by decide +kernel) (by simp) (AllReadyIn.cons rfl (fun K hK=>?_) (AllReadyIn.cons rfl (fun K hK=>?_) AllReadyIn.nil))<;>(go_simp;refine hK _ _ ?_;clear hK K;(try simp only[Act.put,sA,sZ,sS])))
   | (refine wpAnyIn_ready (rs:=[1,3]) (by decide +kernel) (by simp) (AllReadyIn.cons rfl (fun K hK=>?_) (AllReadyIn.cons rfl (fun K hK=>?_) AllReadyIn.nil))<;>(go_simp;refine hK _ _ ?_;clear hK K;(try simp only[Act.put,sA,sZ,sS])))
   | (refine wpAnyIn_ready (rs:=[2,3]) (by decide +kernel) (by simp) (AllReadyIn.cons rfl (fun K hK=>?_) (AllReadyIn.cons rfl (fun K hK=>?_) AllReadyIn.nil))<;>(go_simp;refine hK _ _ ?_;clear hK K;(try simp only[Act.put,sA,sZ,sS])))
  all_goals first
   | (refine wpAnyIn_ready (rs:=[0,1,5]) (by decide +kernel) (by simp) (AllReadyIn.cons rfl (fun K hK=>?_) (AllReadyIn.cons rfl (fun K hK=>?_) (AllReadyIn.cons rfl (fun K hK=>?_) AllReadyIn.nil)))<;>(go_simp;refine hK _ _ ?_;clear hK K;(try simp only[Act.put,sA,sZ,sS])))
   | (refine wpAnyIn_ready (rs:=[0,4]) (by decide +kernel) (by simp) (AllReadyIn.cons rfl (fun K hK=>?_) (AllReadyIn.cons rfl (fun K hK=>?_) AllReadyIn.nil))<;>(go_simp;refine hK _ _ ?_;clear hK K;(try simp only[Act.put,sA,sZ,sS])))
   | (refine wpAnyIn_ready (rs:=[1,4]) (by decide +kernel) (by simp) (AllReadyIn.cons rfl (fun K hK=>?_) (AllReadyIn.cons rfl (fun K hK=>?_) AllReadyIn.nil))<;>(go_simp;refine hK _ _ ?_;clear hK K;(try simp only[Act.put,sA,sZ,sS])))
   | (refine wpAnyIn_ready (rs:=[2]) (by decide +kernel) (by simp) (AllReadyIn.cons rfl (fun K hK=>?_) AllReadyIn.nil)<;>(go_simp;refine hK _ _ ?_;clear hK K;(try simp only[Act.put,sA,sZ,sS])))
   | (refine wpAnyIn_ready (rs:=[3]) (by decide +kernel) (by simp) (AllReadyIn.cons rfl (fun K hK=>?_) AllReadyIn.nil)<;>(go_simp;refine hK _ _ ?_;clear hK K;(try simp only[Act.put,sA,sZ,sS])))
  all_goals first
   | (refine wpAnyIn_ready (rs:=[0,1]) (by decide +kernel) (by simp) (AllReadyIn.cons rfl (fun K hK=>?_) (AllReadyIn.cons rfl (fun K hK=>?_) AllReadyIn.nil))<;>(go_simp;refine hK _ _ ?_;clear hK K;(try simp only[Act.put,sA,sZ,sS])))
   | (refine wpAnyIn_ready (rs:=[0,5]) (by decide +kernel) (by simp) (AllReadyIn.cons rfl (fun K hK=>?_) (AllReadyIn.cons rfl (fun K hK=>?_) AllReadyIn.nil))<;>(go_simp;refine hK _ _ ?_;clear hK K;(try simp only[Act.put,sA,sZ,sS])))
   | (refine wpAnyIn_ready (rs:=[1,5]) (by decide +kernel) (by simp) (AllReadyIn.cons rfl (fun K hK=>?_) (AllReadyIn.cons rfl (fun K hK=>?_) AllReadyIn.nil))<;>(go_simp;refine hK _ _ ?_;clear hK K;(try simp only[Act.put,sA,sZ,sS])))
   | (refine wpAnyIn_ready (rs:=[4]) (by decide +kernel) (by simp) (AllReadyIn.cons rfl (fun K hK=>?_) AllReadyIn.nil)<;>(go_simp;refine hK _ _ ?_;clear hK K;(try simp only[Act.put,sA,sZ,sS])))
  all_goals first
   | (refine wpAnyIn_ready (rs:=[0]) (by decide +kernel) (by simp) (AllReadyIn.cons rfl (fun K hK=>?_) AllReadyIn.nil)<;>(go_simp;refine hK _ _ ?_;clear hK K;(try simp only[Act.put,sA,sZ,sS])))
   | (refine wpAnyIn_ready (rs:=[1]) (by decide +kernel) (by simp) (AllReadyIn.cons rfl (fun K hK=>?_) AllReadyIn.nil)<;>(go_simp;refine hK _ _ ?_;clear hK K;(try simp only[Act.put,sA,sZ,sS])))
   | (refine wpAnyIn_ready (rs:=[5]) (by decide +kernel) (by simp) (AllReadyIn.cons rfl (fun K hK=>?_) AllReadyIn.nil)<;>(go_simp;refine hK _ _ ?_;clear hK K;(try simp only[Act.put,sA,sZ,sS])))
  all_goals first
   | (refine wpAnyIn_ready (rs:=[6]) (by decide +kernel) (by simp) (AllReadyIn.cons rfl (fun K hK=>?_) AllReadyIn.nil)<;>(go_simp;refine hK _ _ ?_;clear hK K;(try simp only[Act.put,sA,sZ,sS])))
  all_goals first
   | (refine wpAnyIn_ready (rs:=[7]) (by decide +kernel) (by simp) (AllReadyIn.cons rfl (fun K hK=>?_) AllReadyIn.nil)<;>(go_simp;generalize((v >>> u).setWidth 8:T.B)=zz at *;unfold B8;go_simp;refine hK _ _ ?_;clear hK K;(try simp only[Act.put,sA,sZ,sS])))
  all_goals (refine wpAnyIn_done (by kernel_rfl) ?_ _;gi_wp2;exact HFIN.o)
 case done =>
  rintro D2 xs W hD hxs hI hK
  have HB:=Hd (show BankK K w0 W (L.set i (boxAcc G t (setsL vs o k size v (List.range size))))by
   have h2:=hI.drop.drop;rw[hxs]at h2
   exact h2)
  clear hI hxs
  gi_wp2
  refine⟨by simp,.inl ⟨_,_,rfl,run_takeDeferred hK,?_⟩⟩;exact⟨_,results_none rfl _ _ _,⟨_,rfl⟩,HB.o.turned hsz hgB (grownBy_putObj' W D2 _) (fun r e=>by cases e;exact⟨hD,_,hK,rfl⟩)⟩
 case stop =>
  rintro D2 c2 pre W _ _ h _;exact h.elim
theorem caughtSet_any(A B C D:Nat){K:List (Nat×Obj)}{w0 w:World}{L L':List Acc}(hB:BankK K w0 w L)(hc:∀w1,BankK K w0 w1 (boxAcc w.heap.size 25 [.int .i64 0]::L)->Calls Tryz.prog 155 #[.pointer (some ⟨A,0,none⟩),.pointer (some ⟨B,0,none⟩),.pointer (some ⟨C,0,none⟩),.pointer (some ⟨D,0,none⟩)] w1 fun e w'=>(∃v,e=.returned v)/\BankK K w0 w' (boxAcc w.heap.size 25 [.int .i64 0]::L')):
  Calls Tryz.prog 151 #[.func (.func 155) #[] #[.pointer (some ⟨A,0,none⟩),.pointer (some ⟨B,0,none⟩),.pointer (some ⟨C,0,none⟩),.pointer (some ⟨D,0,none⟩)]] w fun e w'=>e=.returned (.int .i64 0)/\BankK K w0 w' L':=by
 have hmf:=hmfT;have BK0:=Hd (hB.boxL [.int .i64 0] 25 (by simp));have HC:=Hd hc;clear hc hB
 go_enter_defers Tryz.func151,Tryz.ntmps151
 go_wp2_with fail;obtain⟨Y,hY⟩:∃Y,Y=w.heap.size:=⟨_,rfl⟩
 rw[<-hY]at BK0 HC ⊢;generalize w.alloc (.cells #[.int .i64 0] 25)=w1 at *;refine(HC.o w1 BK0.o).mono ?_;rintro e w2 ⟨⟨v,rfl⟩,hb⟩;have BK2:=Hd hb;obtain⟨c0,f0⟩:=BK2.o.r1 0 rfl;have BK3:=Hd (BK2.o.boxSet 0 rfl 0 (.int .i64 0));clear hb BK0 BK2 HC hY;go_wp2;refine leaves_cons (f:=222) (args:=#[.pointer (some ⟨Y,0,none⟩)]) (by simp) (by simp[go_sem]) ?_;refine(catchP_idle _ _).mono ?_;rintro e u' w'' ⟨rfl,rfl,rfl⟩;have r0:=BK3.o.cell 0 rfl 0 rfl;exact⟨.int .i64 0,by simp[results,Tryz.results151,go_sem,r0],rfl,BK3.o.drop⟩
theorem pkSetK_ok(G o n c:Nat)(t:TypeId)(vs:List Value)(v:T.U)(k size:Nat){K:List (Nat×Obj)}{w0 w:World}{L:List Acc}(i:Nat)(hB:BankK K w0 w L)(hi:L[i]?=some (boxAcc G t vs))(hlen:o+n<=vs.length)(hn:n<=1000000)(hz:T.getErr n (k:Int) (size:Int)=0):
  Calls Tryz.prog 101 #[.slice (some ⟨G,o,none⟩) n c,.int .i64 (k:Int),.int .i64 (size:Int),W64 v] w fun e w'=>e=.returned (.int .i64 0)/\BankK K w0 w' (L.set i (boxAcc G t (setsL vs o k size v (List.range size)))):=by
 have hmf:=hmfT;have HZ:=Hd hz;clear hz;have BK0:=((((hB.boxL [.slice (some ⟨G,o,none⟩) n c] 23 (by simp)).boxL [.int .i64 (k:Int)] 2 (by simp)).boxL [.int .i64 (size:Int)] 3 (by simp)).boxL [W64 v] 39 (by simp))
 simp only[World.size_alloc]at BK0;have BK:=Hd BK0;clear BK0 hB;go_enter Tryz.func101,Tryz.ntmps101;go_wp2_with fail;obtain⟨X,hX⟩:∃X,X=w.heap.size:=⟨_,rfl⟩
 rw[<-hX]at BK ⊢;refine(caughtSet_any X (X+1) (X+1+1) (X+1+1+1) (L':=boxAcc (X+1+1+1) 39 [W64 v]::boxAcc (X+1+1) 3 [.int .i64 (size:Int)]::boxAcc (X+1) 2 [.int .i64 (k:Int)]::boxAcc X 23 [.slice (some ⟨G,o,none⟩) n c]::L.set i (boxAcc G t (setsL vs o k size v (List.range size)))) BK.o (fun w1 hb=>set1_ok X (X+1) (X+1+1) (X+1+1+1) G o n c t vs v k size (i+5) 4 3 2 1 hb hlen hn HZ.o hi rfl rfl rfl rfl (by omega) (by omega))).mono ?_;rintro e w3 ⟨rfl,hb⟩;have BKZ:=Hd hb;clear hb BK hX;go_wp2;go_ret;exact⟨rfl,BKZ.o.drop.drop.drop.drop⟩
theorem pkSet_ok(G o n c:Nat)(t:TypeId)(vs:List Value)(v:T.U)(k size:Nat){w0 w:World}{L:List Acc}(i:Nat)(hB:Bank w0 w L)(hi:L[i]?=some (boxAcc G t vs))(hlen:o+n<=vs.length)(hn:n<=1000000)(hz:T.getErr n (k:Int) (size:Int)=0):
  Calls Tryz.prog 101 #[.slice (some ⟨G,o,none⟩) n c,.int .i64 (k:Int),.int .i64 (size:Int),W64 v] w fun e w'=>e=.returned (.int .i64 0)/\Bank w0 w' (L.set i (boxAcc G t (setsL vs o k size v (List.range size)))) :=
 (pkSetK_ok G o n c t vs v k size i hB.toK hi hlen hn hz).mono (fun _ _ h=>⟨h.1,h.2.bank⟩)
end Go.Proofs.YtfeipbgnjainlaaGreatDoor.K
