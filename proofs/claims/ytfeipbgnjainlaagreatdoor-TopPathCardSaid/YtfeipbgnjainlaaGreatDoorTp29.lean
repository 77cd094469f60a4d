/- TYg -/
import Derived.Test.YtfeipbgnjainlaaGreatDoorTp10
import Derived.Test.YtfeipbgnjainlaaGreatDoorTp2
import Derived.Test.YtfeipbgnjainlaaGreatDoorTp4
import Derived.Test.YtfeipbgnjainlaaGreatDoorTp24
import Derived.Test.YtfeipbgnjainlaaGreatDoorTp26
import Derived.Maps.RangeRun
set_option linter.unusedVariables false
set_option linter.unusedSimpArgs false
set_option maxRecDepth 100000
set_option maxHeartbeats 8000000
namespace Go.Proofs.YtfeipbgnjainlaaGreatDoor.K
open Go Go.RowKit Go.Maps Go.Sort
theorem make_bos(W:World):(Instr.makeSlice 85 (.int .i64 512) (.int .i64 512)).run Tryz.prog W=.ok (.slice (some ⟨W.heap.size,0,none⟩) 512 512) (W.alloc (.cells ((List.replicate 512 false).map Value.bool).toArray 4)):=by kernel_rfl
def fE(n k:Int)(b:Nat):MapEntry:={ key:=.int .i64 n,val:=.int .u8 k,born:=b }
def fM:Array MapEntry:=#[fE 1 2 0,fE 2 4 1,fE 10 3 2]
section
variable{P:Program}{t k e:TypeId}(ht:P.underlying t=some (.map k e))(hk:P.underlying k=some (.int .i64))(w:World)
include ht hk
theorem put_fM(es:Array MapEntry)(c:Nat)(n x:Int)(hw:(Lit.int .i64 n).wf=true)(hf:Instr.findNow (.int .i64) (.int .i64 n) es.toList 0=some none):
  (Instr.mapUpdate t (.map (some w.heap.size)) (.int .i64 n) (.int .u8 x)).run P (w.alloc (.map es c))=.ok () (w.alloc (.map (es.push (fE n x c)) (c+1))):=by
 have hb:=(MapKept.heap_alloc w (.map es c)).1;simp[Instr.mapUpdate,run_underlying ht,MapKept.run_getObj_map hb,(int_keyed hk).check _ false (keyOf_int_mk hk hw),Instr.findKey,run_underlying hk,hf,MapKept.run_setObj_map _ hb,Result.andThen];exact setBlock_allocT _ _ _
end
def kS(a b c:Bool):List T.Kn:=[T.Kn.none,⟨if a then 2 else 0,T.Sp.zero⟩,⟨if b then 4 else 0,T.Sp.zero⟩,T.Kn.none,T.Kn.none,T.Kn.none,T.Kn.none,T.Kn.none,T.Kn.none,T.Kn.none,⟨if c then 3 else 0,T.Sp.zero⟩]
structure FirstI(w:World)(Y g g2 X M R:Nat)(t:TypeId)(r1 r2 r3 s1 s2 s3:Bool)(wr:World):Prop where
 bank:Bank w wr [boxAcc Y 87 [.bool true,.slice (some ⟨g,0,none⟩) 11 11,.slice (some ⟨g2,0,none⟩) 512 512,.int .i64 0],rwA g 11 11 124 3 (knsL (kS r1 r2 r3)),rwA g2 512 512 t 1 ((List.replicate 512 false).map Value.bool),boxAcc X 87 [.bool false,.slice none 0 0,.slice none 0 0,.int .i64 0]]
 map:wr.heap[M]?=some (.map fM 3)
 it:∃seen c0,3<=c0/\seen.contains 0=s1/\seen.contains 1=s2/\seen.contains 2=s3/\wr.heap[R]?=some (.mapIter (some M) 3 seen c0)
 base:w.heap.size<=R
 ne:M≠R/\g≠M/\g≠R/\Y≠R/\g2≠R/\X≠R
section
variable{w wr:World}{Y g g2 X M R:Nat}{t:TypeId}{r1 r2 r3 s1 s2 s3:Bool}(h:FirstI w Y g g2 X M R t r1 r2 r3 s1 s2 s3 wr)
include h
theorem FirstI.picked{P:Program}(j:Nat)(hj:j<3){seen:Array Nat}{c0:Nat}{w1:World}(hc:3<=c0)(hR:wr.heap[R]?=some (.mapIter (some M) 3 seen c0))(hw:w1=wr\/w1=wr.drew):
  (Instr.entry (.pointer (some ⟨R,0,none⟩))).run P (Go.ChangeMaps.setBlock w1 R (.mapIter (some M) 3 (seen.push j) 3))=.ok (.tuple #[fM[j].key,fM[j].val]) (Go.ChangeMaps.setBlock w1 R (.mapIter (some M) 3 (seen.push j) 3)) /\
    ∀a b c,(seen.push j).contains 0=a->(seen.push j).contains 1=b->(seen.push j).contains 2=c->FirstI w Y g g2 X M R t r1 r2 r3 a b c (Go.ChangeMaps.setBlock w1 R (.mapIter (some M) 3 (seen.push j) 3)):=by
 have h1:w1.heap=wr.heap:=by rcases hw with rfl|rfl<;>rfl
 have hlt:R<wr.heap.size:=(Array.getElem?_eq_some_iff.1 hR).1
 have hM:(Go.ChangeMaps.setBlock w1 R (.mapIter (some M) 3 (seen.push j) 3)).heap[M]?=some (.map fM 3):=by
  show(w1.heap.setIfInBounds R _)[M]? = _
  rw[Array.getElem?_setIfInBounds_ne (fun e=>h.ne.1 e.symm),h1,h.map]
 have hRn:(Go.ChangeMaps.setBlock w1 R (.mapIter (some M) 3 (seen.push j) 3)).heap[R]?=some (.mapIter (some M) 3 (seen.push j) 3):=by
  show(w1.heap.setIfInBounds R _)[R]? = _
  rw[Array.getElem?_setIfInBounds_self_of_lt (by rw[h1];exact hlt)]
 have hg:wr.grownBy (Go.ChangeMaps.setBlock w1 R (.mapIter (some M) 3 (seen.push j) 3)) (some R):=by
  refine⟨?_,?_,?_,?_,fun k hk hne=>?_⟩
  ·rcases hw with rfl|rfl<;>rfl
  ·rcases hw with rfl|rfl<;>rfl
  ·rcases hw with rfl|rfl<;>rfl
  ·show _<=(w1.heap.setIfInBounds R _).size
   rw[Array.size_setIfInBounds,h1];exact Nat.le_refl _
  ·show(w1.heap.setIfInBounds R _)[k]? = _
   rw[Array.getElem?_setIfInBounds_ne (fun e=>hne (by rw[e])),h1]
 refine⟨run_entry_at _ R M 3 seen fM 3 fM[j] ?_ hM ?_ (by decide),fun a b c ha hb hc=>⟨h.bank.other hg h.base ?_,hM,⟨_,3,Nat.le_refl _,ha,hb,hc,hRn⟩,h.base,h.ne⟩⟩
 ·have hb:fM[j].born=j:=by
   match j,hj with
   | 0,_=>rfl
   | 1,_=>rfl
   | 2,_=>rfl
  rw[hb];exact hRn
 ·exact Array.getElem_mem_toList _
 ·intro p hp
  obtain⟨_,n2,n3,n4,n5,n6⟩:=h.ne;simp only[List.mem_cons,List.mem_nil_iff,or_false]at hp;rcases hp with rfl|rfl|rfl|rfl
  ·exact fun e=>n4 (Option.some.inj e)
  ·exact fun e=>n3 (Option.some.inj e)
  ·exact fun e=>n5 (Option.some.inj e)
  ·exact fun e=>n6 (Option.some.inj e)
theorem FirstI.next{P:Program}:
  ((s1&&s2&&s3)=true/\(Instr.next (.pointer (some ⟨R,0,none⟩)) false 0).run P wr=.ok (.tuple #[.bool false]) wr) \/
  ∃w2,(s1=false/\(Instr.next (.pointer (some ⟨R,0,none⟩)) false 0).run P wr=.ok (.tuple #[.bool true,.int .i64 1,.int .u8 2]) w2/\(Instr.entry (.pointer (some ⟨R,0,none⟩))).run P w2=.ok (.tuple #[.int .i64 1,.int .u8 2]) w2/\FirstI w Y g g2 X M R t r1 r2 r3 true s2 s3 w2) \/
   (s2=false/\(Instr.next (.pointer (some ⟨R,0,none⟩)) false 0).run P wr=.ok (.tuple #[.bool true,.int .i64 2,.int .u8 4]) w2/\(Instr.entry (.pointer (some ⟨R,0,none⟩))).run P w2=.ok (.tuple #[.int .i64 2,.int .u8 4]) w2/\FirstI w Y g g2 X M R t r1 r2 r3 s1 true s3 w2) \/
   (s3=false/\(Instr.next (.pointer (some ⟨R,0,none⟩)) false 0).run P wr=.ok (.tuple #[.bool true,.int .i64 10,.int .u8 3]) w2/\(Instr.entry (.pointer (some ⟨R,0,none⟩))).run P w2=.ok (.tuple #[.int .i64 10,.int .u8 3]) w2/\FirstI w Y g g2 X M R t r1 r2 r3 s1 s2 true w2):=by
 obtain⟨seen,c0,hc,e1,e2,e3,hR⟩:=h.it;rcases run_next_at wr 0 R M 3 c0 seen fM 3 hR h.map (by decide) hc (P:=P)with⟨h0,hrun⟩|⟨e,he,w1,hw,hrun⟩
 ·refine .inl ⟨?_,hrun⟩
  have:leftOf fM seen = #[]:=Array.eq_empty_of_size_eq_zero h0;unfold leftOf at this;rw[Array.filter_eq_empty_iff]at this;have a1:=this (fE 1 2 0) (by simp[fM]);have a2:=this (fE 2 4 1) (by simp[fM]);have a3:=this (fE 10 3 2) (by simp[fM]);simp only[fE,Bool.not_eq_true',Bool.not_eq_false]at a1 a2 a3;rw[<-e1,<-e2,<-e3,a1,a2,a3];rfl
 ·right
  have hm:e∈fM.toList/\seen.contains e.born=false:=by
   unfold leftOf at he;simp only[Array.toList_filter,List.mem_filter,Bool.not_eq_true']at he;exact he
  have hpush:∀a b:Nat,(seen.push a).contains b=(seen.contains b||b==a):=fun a b=>by
   by_cases e:b=a
   ·subst e;simp
   ·have e2:¬a=b:=fun h=>e h.symm
    simp[e,e2]
  obtain⟨hm,hs⟩:=hm;simp only[fM,List.mem_cons,List.mem_nil_iff,or_false]at hm;rcases hm with rfl|rfl|rfl
  ·obtain⟨q1,q2⟩:=h.picked (P:=P) 0 (by decide) hc hR hw
   exact⟨_,.inl ⟨by rw[<-e1];exact hs,hrun,q1,q2 _ _ _ (by rw[hpush];simp) (by rw[hpush,e2];simp) (by rw[hpush,e3];simp)⟩⟩
  ·obtain⟨q1,q2⟩:=h.picked (P:=P) 1 (by decide) hc hR hw
   exact⟨_,.inr (.inl ⟨by rw[<-e2];exact hs,hrun,q1,q2 _ _ _ (by rw[hpush,e1];simp) (by rw[hpush];simp) (by rw[hpush,e3];simp)⟩)⟩
  ·obtain⟨q1,q2⟩:=h.picked (P:=P) 2 (by decide) hc hR hw
   exact⟨_,.inr (.inr ⟨by rw[<-e3];exact hs,hrun,q1,q2 _ _ _ (by rw[hpush,e1];simp) (by rw[hpush,e2];simp) (by rw[hpush];simp)⟩)⟩
theorem FirstI.store(i:Nat)(v:Value){a b c:Bool}(hk:(knsL (kS r1 r2 r3)).set i v=knsL (kS a b c)):FirstI w Y g g2 X M R t a b c s1 s2 s3 (wr.setCell ⟨g,i,none⟩ v):=by
 have hb:=h.bank.rset 1 rfl i v;have hg:=((show wr.ownsRow w.heap.size 124 3 (.slice (some ⟨g,0,none⟩) 11 11) 11 (knsL (kS r1 r2 r3))from h.bank.at 1 rfl).stored i v).2;obtain⟨seen,c0,hc,e1,e2,e3,hR⟩:=h.it;have hlM:=(Array.getElem?_eq_some_iff.1 h.map).1;have hlR:=(Array.getElem?_eq_some_iff.1 hR).1;refine⟨by rw[<-hk];exact hb,?_,⟨seen,c0,hc,e1,e2,e3,?_⟩,h.base,h.ne⟩
 ·rw[hg.block M hlM (fun e=>h.ne.2.1 (Option.some.inj e).symm),h.map]
 ·rw[hg.block R hlR (fun e=>h.ne.2.2.1 (Option.some.inj e).symm),hR]
end
theorem FirstI.store1{w wr:World}{Y g g2 X M R:Nat}{t:TypeId}{b c s2 s3:Bool}(h:FirstI w Y g g2 X M R t false b c true s2 s3 wr):FirstI w Y g g2 X M R t true b c true s2 s3 (wr.setCell ⟨g,3,none⟩ (.int .u8 2)):=h.store 3 _ (by cases b<;>cases c<;>rfl)
theorem FirstI.store2{w wr:World}{Y g g2 X M R:Nat}{t:TypeId}{a c s1 s3:Bool}(h:FirstI w Y g g2 X M R t a false c s1 true s3 wr):FirstI w Y g g2 X M R t a true c s1 true s3 (wr.setCell ⟨g,6,none⟩ (.int .u8 4)):=h.store 6 _ (by cases a<;>cases c<;>rfl)
theorem FirstI.store3{w wr:World}{Y g g2 X M R:Nat}{t:TypeId}{a b s1 s2:Bool}(h:FirstI w Y g g2 X M R t a b false s1 s2 true wr):FirstI w Y g g2 X M R t a b true s1 s2 true (wr.setCell ⟨g,30,none⟩ (.int .u8 3)):=h.store 30 _ (by cases a<;>cases b<;>rfl)
def fM1:Array MapEntry:=#[fE 1 2 0]
def fM2:Array MapEntry:=#[fE 1 2 0,fE 2 4 1]
theorem first_start{w wc:World}{Y g g2 X:Nat}{t:TypeId}(h:Bank w wc [boxAcc Y 87 [.bool true,.slice (some ⟨g,0,none⟩) 11 11,.slice (some ⟨g2,0,none⟩) 512 512,.int .i64 0],rwA g 11 11 124 3 (knsL (kS false false false)),rwA g2 512 512 t 1 ((List.replicate 512 false).map Value.bool),boxAcc X 87 [.bool false,.slice none 0 0,.slice none 0 0,.int .i64 0]]):
  FirstI w Y g g2 X wc.heap.size (wc.heap.size+1) t false false false false false false ((wc.alloc (.map fM 3)).alloc (.mapIter (some wc.heap.size) 3 #[] 3)):=by
 have b0:=h.lt (p:=boxAcc Y 87 [.bool true,.slice (some ⟨g,0,none⟩) 11 11,.slice (some ⟨g2,0,none⟩) 512 512,.int .i64 0]) (by simp) (b:=Y) rfl;have b1:=h.lt (p:=rwA g 11 11 124 3 (knsL (kS false false false))) (by simp) (b:=g) rfl;have b2:=h.lt (p:=rwA g2 512 512 t 1 ((List.replicate 512 false).map Value.bool)) (by simp) (b:=g2) rfl;have b3:=h.lt (p:=boxAcc X 87 [.bool false,.slice none 0 0,.slice none 0 0,.int .i64 0]) (by simp) (b:=X) rfl;refine⟨(h.alloc _).alloc _,?_,⟨#[],3,Nat.le_refl _,by simp,by simp,by simp,?_⟩,by omega,by omega,by omega,by omega,by omega,by omega,by omega⟩
 ·rw[heap_alloc_old _ _ (by rw[World.size_alloc];omega),heap_alloc_new]
 ·have e:=heap_alloc_new (wc.alloc (.map fM 3)) (.mapIter (some wc.heap.size) 3 #[] 3)
  rw[World.size_alloc]at e;exact e
theorem tyFirst_ok(w:World):Calls Tryz.prog 42 #[] w (StartP w):=by
 have hmk:=make_kns;have hmb:=make_bos;have h33:(knsL (kS false false false)).length=33:=rfl;rw[show knsL (List.replicate 11 T.Kn.none)=knsL (kS false false false)from rfl]at hmk;obtain⟨KZ,hKZ⟩:∃l,knsL (kS false false false)=l:=⟨_,rfl⟩
 rw[hKZ]at hmk h33;have h512:((List.replicate 512 false).map Value.bool).length=512:=by rw[List.length_map,List.length_replicate]
 obtain⟨BZ,hBZ⟩:∃l,(List.replicate 512 false).map Value.bool=l:=⟨_,rfl⟩
 rw[hBZ]at hmb h512;have H33:=Hd h33;have H512:=Hd h512;have HKZ:=Hd hKZ;have HBZ:=Hd hBZ;clear hKZ hBZ h33 h512;have BK0:=bk1 w [.bool false,.slice none 0 0,.slice none 0 0,.int .i64 0] 87;go_enter Tryz.func42,Tryz.ntmps42;go_upto_region 1 with fail;generalize w.heap.size=X at *;refine wp_hid BK0 (fun w1 BK0=>?_);obtain⟨r0,r1,r2,r3,fr0,fr1,fr2,fr3⟩:=BK0.o.r4 0 rfl;clear r0 r1 r2 r3 fr0 fr1 fr2 fr3;go_cut [1] (fun s1 wx=>∃Y g g2,s1=.pointer (some ⟨Y,0,none⟩)/\Bank w wx [boxAcc Y 87 [.bool true,.slice (some ⟨g,0,none⟩) 11 11,.slice (some ⟨g2,0,none⟩) 512 512,.int .i64 0],rwA g 11 11 124 3 KZ,rwA g2 512 512 4 1 BZ,boxAcc X 87 [.bool false,.slice none 0 0,.slice none 0 0,.int .i64 0]])
 case first =>
  have BK:=Hd BK0.o.drew;clear BK0;refine WL.begin 4 (fun _=>True) (fun _=>True) (by kernel_rfl) trivial trivial (fun hs=>?_);generalize w1.drew=wz at *
  repeat' first
   | (with_reducible refine StepL.at 0 ?_
      intro K hK;go_simp;have BK:=Hd (BK.o.made ((Below.refl _ _).alloc (Nat.le_refl _) _) (World.ownsRow_lit (base:=wz.heap.size) (size:=3) (e:=124) wz KZ.toArray 11 (Nat.le_refl _) (by decide) (by rw[List.size_toArray,H33.o])));refine hK.o _ _ (SaT trivial) ?_;generalize wz.heap.size=g at *;generalize(wz.alloc (.cells KZ.toArray 124))=wz at *
      clear hK K;intro hs;try simp only[Act.put,sA,sZ,sS])
   | (with_reducible refine StepL.at 1 ?_
      intro K hK;go_simp;have BK:=Hd (BK.o.made ((Below.refl _ _).alloc (Nat.le_refl _) _) (World.ownsRow_lit (base:=wz.heap.size) (size:=1) (e:=4) wz BZ.toArray 512 (Nat.le_refl _) (by decide) (by rw[List.size_toArray,H512.o])));refine hK.o _ _ (SaT trivial) ?_;generalize wz.heap.size=g2 at *;generalize(wz.alloc (.cells BZ.toArray 4))=wz at *
      clear hK K;intro hs;try simp only[Act.put,sA,sZ,sS])
   | (with_reducible refine StepL.at 3 ?_
      intro K hK;go_simp;have BK:=Hd (BK.o.bx [.bool false,.slice none 0 0,.slice none 0 0,.int .i64 0] 87);refine hK.o _ _ (SaT trivial) ?_;generalize wz.heap.size=Y at *;generalize(wz.alloc (.cells #[.bool false,.slice none 0 0,.slice none 0 0,.int .i64 0] 87))=wz at *
      clear hK K;intro hs;try simp only[Act.put,sA,sZ,sS])
   | (with_reducible refine StepL.at 4 ?_
      intro K hK;have BK:RowKit.Hid (Bank w wz [boxAcc Y 87 [.bool false,.slice none 0 0,.slice none 0 0,.int .i64 0],rwA g 11 11 124 3 KZ,rwA g2 512 512 4 1 BZ,boxAcc X 87 [.bool false,.slice none 0 0,.slice none 0 0,.int .i64 0]]):=Hd (Bank.order3 BK.o (by first|exact .inl rfl|exact .inr (.inl rfl)|exact .inr (.inr (.inl rfl))|exact .inr (.inr (.inr (.inl rfl)))|exact .inr (.inr (.inr (.inr (.inl rfl))))|exact .inr (.inr (.inr (.inr (.inr rfl))))));obtain⟨b0,fb0⟩:=BK.o.r1 0 rfl;have b1:=BK.o.cl 0 1;have fb1:=BK.o.free 0 rfl 1;have b2:=BK.o.cl 0 2;have fb2:=BK.o.free 0 rfl 2;have b3:=BK.o.cl 0 3;have fb3:=BK.o.free 0 rfl 3;go_simp;have BK:=Hd ((((BK.o.bs 0 0 (.bool true)).bs 0 1 (.slice (some ⟨g,0,none⟩) 11 11)).bs 0 2 (.slice (some ⟨g2,0,none⟩) 512 512)).bs 0 3 (.int .i64 0));clear b0 b1 b2 b3 fb0 fb1 fb2 fb3;refine hK.o _ _ SaF ?_
      clear hK K;intro hs;try simp only[Act.put])
   | (refine WL.tp (i:=2) (v:=?_) rfl (by decide +kernel) (fun _ _ _ h=>h) hs (Or.inl ⟨by kernel_rfl,?_⟩) ?_;rotate_left;· intro w hc;go_simp<;>rfl
      clear hs;intro hs;simp only[Act.put,sA,sZ,sS])
   | (refine WL.s1 (i:=0) (by decide +kernel) rfl hs ?_<;>clear hs)
   | (refine WL.o2 (i:=0) (j:=1) (by decide +kernel) rfl rfl hs ?_ ?_<;>clear hs)
   | (refine WL.o3 (i:=0) (j:=1) (k:=3) (by decide +kernel) rfl rfl rfl hs ?_ ?_ ?_<;>clear hs)
   | (refine WL.o2 (i:=0) (j:=3) (by decide +kernel) rfl rfl hs ?_ ?_<;>clear hs)
   | (refine WL.s1 (i:=1) (by decide +kernel) rfl hs ?_<;>clear hs)
   | (refine WL.o2 (i:=1) (j:=3) (by decide +kernel) rfl rfl hs ?_ ?_<;>clear hs)
   | (refine WL.s1 (i:=3) (by decide +kernel) rfl hs ?_<;>clear hs)
   | (refine WL.s1 (i:=4) (by decide +kernel) rfl hs ?_<;>clear hs)
   | (clear hs;refine WL.done (by decide +kernel) ?_ _;try simp only[Exit.then]
      go_wp2_with fail;go_meet
      exact⟨_,_,_,rfl,BK.o⟩)
 case rest =>
  obtain⟨Y,g,g2,rfl,hB⟩:=hcut;clear hmk hmb H33 H512;have ht:=Tryz.underlying130;have hk0:=Tryz.underlying3;have m0:=run_makeMap (P:=Tryz.prog) 130 wc;have m1:(Instr.mapUpdate 130 (.map (some wc.heap.size)) (.int .i64 1) (.int .u8 2)).run Tryz.prog (wc.alloc (.map #[] 0))=.ok () (wc.alloc (.map fM1 1)):=put_fM ht hk0 wc #[] 0 1 2 (by decide) rfl;have m2:(Instr.mapUpdate 130 (.map (some wc.heap.size)) (.int .i64 2) (.int .u8 4)).run Tryz.prog (wc.alloc (.map fM1 1))=.ok () (wc.alloc (.map fM2 2)):=put_fM ht hk0 wc fM1 1 2 4 (by decide) rfl;have m3:(Instr.mapUpdate 130 (.map (some wc.heap.size)) (.int .i64 10) (.int .u8 3)).run Tryz.prog (wc.alloc (.map fM2 2))=.ok () (wc.alloc (.map fM 3)):=put_fM ht hk0 wc fM2 2 10 3 (by decide) rfl;have m4:=run_range_map (P:=Tryz.prog) (wc.alloc (.map fM 3)) 130 _ _ wc.heap.size fM 3 ht (heap_alloc_new wc (.map fM 3));rw[World.size_alloc]at m4;have HF0:=Hd (first_start (HKZ.o▸HBZ.o▸hB));have y1:=((hB.alloc (.map fM 3)).alloc (.mapIter (some wc.heap.size) 3 #[] 3)).cl 0 1;clear hB;go_wp2_with fail;generalize((wc.alloc (.map fM 3)).alloc (.mapIter (some wc.heap.size) 3 #[] 3))=wr at *;generalize wc.heap.size+1=R at *;generalize wc.heap.size=M at *;clear m0 m1 m2 m3 m4;refine wp_loop_rounds 4 ?_
  iterate 3
   all_goals
    try rw[rounds_succ]
    rcases HF0.o.next (P:=Tryz.prog)with⟨h0,_⟩|⟨w2,⟨h0,hnx,hen,hF⟩|⟨h0,hnx,hen,hF⟩|⟨h0,hnx,hen,hF⟩⟩
    ·exact absurd h0 (by decide)
    all_goals first
     | exact absurd h0 (by decide)
     | have y1:=hF.bank.cl 0 1
       obtain⟨z1,c1⟩:∃z,w2.cell? ⟨g,3,none⟩=some (.int .u8 z):=⟨_,hF.bank.rcell 1 rfl 3 rfl⟩
       obtain⟨z2,c2⟩:∃z,w2.cell? ⟨g,6,none⟩=some (.int .u8 z):=⟨_,hF.bank.rcell 1 rfl 6 rfl⟩
       obtain⟨z3,c3⟩:∃z,w2.cell? ⟨g,30,none⟩=some (.int .u8 z):=⟨_,hF.bank.rcell 1 rfl 30 rfl⟩
       have f1:=hF.bank.rfree 1 rfl 3;have f2:=hF.bank.rfree 1 rfl 6;have f3:=hF.bank.rfree 1 rfl 30;have HF:=Hd hF;clear hF h0 HF0;go_wp2;clear hnx hen y1 c1 c2 c3 f1 f2 f3
       first
        | (have HF0:=Hd HF.o.store1;generalize(w2.setCell ⟨g,3,none⟩ (.int .u8 2))=wr at *)
        | (have HF0:=Hd HF.o.store2;generalize(w2.setCell ⟨g,6,none⟩ (.int .u8 4))=wr at *)
        | (have HF0:=Hd HF.o.store3;generalize(w2.setCell ⟨g,30,none⟩ (.int .u8 3))=wr at *)
        | fail
     | fail
  all_goals
   try rw[rounds_succ]
   rcases HF0.o.next (P:=Tryz.prog)with⟨h0,hnx⟩|⟨w2,⟨h0,_⟩|⟨h0,_⟩|⟨h0,_⟩⟩
   ·obtain⟨y0,y1,y2,y3⟩:=HF0.o.bank.q4 0 rfl
    obtain⟨x0,x1,x2,x3,fx0,fx1,fx2,fx3⟩:=HF0.o.bank.r4 3 rfl;have BK:=Hd ((((HF0.o.bank.bs 3 0 (.bool true)).bs 3 1 (.slice (some ⟨g,0,none⟩) 11 11)).bs 3 2 (.slice (some ⟨g2,0,none⟩) 512 512)).bs 3 3 (.int .i64 0));clear h0 HF0;go_wp2;clear x0 x1 x2 x3 fx0 fx1 fx2 fx3;obtain⟨x0,x1,x2,x3⟩:=BK.o.q4 3 rfl;refine bodyPost_ret (v:=.agg #[.bool true,.slice (some ⟨g,0,none⟩) 11 11,.slice (some ⟨g2,0,none⟩) 512 512,.int .i64 0]) ?_ rfl ⟨⟨T.Pl.start,g,11,g2,512,4⟩,rfl,rfl,BK.o.sub (.cons _ (.cons_cons _ (.cons_cons _ (List.nil_sublist _))))⟩;simp[results,Tryz.results42,go_sem,x0,x1,x2,x3]
   all_goals exact absurd h0 (by decide)
end Go.Proofs.YtfeipbgnjainlaaGreatDoor.K
