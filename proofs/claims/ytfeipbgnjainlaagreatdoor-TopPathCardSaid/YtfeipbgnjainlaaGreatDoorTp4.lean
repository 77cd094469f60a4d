/- RowRead, Bank, Parts, Lit, Box, Al1, TMaps, TAluC32, TAluC64, TShelf, Open, Lay -/
import Derived.Test.YtfeipbgnjainlaaGreatDoorTp1
import Derived.Test.YtfeipbgnjainlaaGreatDoorTp2
import Derived.Deep.RegionLaw
import Derived.Test.YtfeipbgnjainlaaGreatDoorTp3
import Derived.Maps.Own
import Derived.Shelf.Small.Bits
import Derived.Shelf.Small.Wraps
import Derived.Shelf.Strconv.Itoa0
import Derived.Shelf.Sort.Plain
import Derived.Shelf.Bits.Mul64
import Derived.Shelf.Slices.Turned
import Derived.Ground.Names2Prog
import Derived.Shelf.Slices.CompactI
import Derived.Shelf.Slices.SearchI
import Derived.Shelf.Slices.Cells
import Derived.Shelf.Slices.In.SortNone
import Derived.Ground.SlgnProg
import Derived.Shelf.SlicesE.Clone
import Derived.OpenShut
import Derived.ShutString
import Derived.ChangeOld
import Derived.Below
import Derived.Deep.Slices
import Derived.Deep.Fields
import Derived.Deep.DeepHandedRow
import Derived.LaidLaws
set_option linter.unusedVariables false
set_option linter.unusedSimpArgs false
namespace Go.Proofs.YtfeipbgnjainlaaGreatDoor.K
open Go Go.RowKit
structure RowRd(w:World)(x:Rw)(bs:List (BitVec 8)):Prop where
 rd:Rd w x.A bs
 len:bs.length=x.n
 none:x.A=Option.none->x.c=0
theorem RowRd.below{w w':World}{x:Rw}{bs:List (BitVec 8)}(h:RowRd w x bs)(hb:Below w.heap.size w w'):RowRd w' x bs:=⟨h.rd.below hb,h.len,h.none⟩
theorem RowRd.of_row{w:World}{base:Nat}{e:TypeId}{A:Option Addr}{n c:Nat}{bs:List (BitVec 8)}(h:w.ownsRow base e 1 (.slice A n c) n (bv bs)):RowRd w ⟨A,n,c⟩ bs :=
 ⟨Rd.of_own h,by have:=h.1;rw[bv_length]at this;show _=n;omega,fun e=>((row_room h).2.2.1 e).2⟩
abbrev Since(w0 w:World):Prop:=Below w0.heap.size w0 w
theorem Since.add{w0 w w':World}(h:Since w0 w)(hb:Below w.heap.size w w'):Since w0 w':=h.trans (hb.mono h.size)
theorem Since.alloc{w0 w:World}(h:Since w0 w)(o:Obj):Since w0 (w.alloc o):=Below.alloc h h.size o
theorem Since.drew{w0 w:World}(h:Since w0 w):Since w0 w.drew:=⟨h.os,h.tape,h.output,h.size,h.block⟩
theorem Since.drewN{w0 w:World}(h:Since w0 w)(q:Nat):Since w0 (w.drewN q):=⟨h.os,h.tape,h.output,h.size,h.block⟩
theorem Since.row{w0 w:World}(h:Since w0 w){x:Rw}{bs:List (BitVec 8)}(hr:RowRd w0 x bs):RowRd w x bs:=hr.below h
theorem Since.at{w0 w:World}(h:Since w0 w){g:Nat}{o:Obj}(hg:w0.heap[g]?=some o):w.heap[g]?=some o:=(h.block g (Array.getElem?_eq_some_iff.1 hg).1).trans hg
theorem Since.set{w0 w:World}(h:Since w0 w){X:Nat}(hX:w0.heap.size<=X)(i:Nat)(v:Value):Since w0 (w.setCell ⟨X,i,none⟩ v):=Below.setCell (p:=⟨X,i,none⟩) h hX v
structure Acc where
 v:Value
 n:Nat
 e:TypeId
 size:Nat
 xs:List Value
def Apartness(p q:Acc):Prop:=∀b,p.v.ownBlock=some b->q.v.ownBlock≠some b
theorem Apartness.symm{p q:Acc}(h:Apartness p q):Apartness q p:=fun b hq hp=>h b hp hq
structure Bank(w0 w:World)(L:List Acc):Prop where
 since:Since w0 w
 own:∀p∈L,w.ownsRow w0.heap.size p.e p.size p.v p.n p.xs
 sep:L.Pairwise Apartness
theorem Bank.nil{w0 w:World}(h:Since w0 w):Bank w0 w []:=⟨h,(fun _ h=>by cases h),.nil⟩
theorem Bank.lt{w0 w:World}{L:List Acc}(h:Bank w0 w L){p:Acc}(hp:p∈L){b:Nat}(hb:p.v.ownBlock=some b):w0.heap.size<=b/\b<w.heap.size:=(h.own p hp).lt b hb
theorem Bank.call{w0 w w':World}{L:List Acc}(h:Bank w0 w L)(hb:Below w.heap.size w w'):Bank w0 w' L :=
 ⟨h.since.add hb,fun p hp=>(h.own p hp).kept (row:=none) ⟨hb.os,hb.tape,hb.output,hb.size,fun k hk _=>hb.block k hk⟩ (by cases h:p.v.ownBlock<;>simp),h.sep⟩
theorem Bank.drew{w0 w:World}{L:List Acc}(h:Bank w0 w L):Bank w0 w.drew L:=⟨h.since.drew,h.own,h.sep⟩
theorem Bank.drewN{w0 w:World}{L:List Acc}(h:Bank w0 w L)(q:Nat):Bank w0 (w.drewN q) L:=⟨h.since.drewN q,h.own,h.sep⟩
theorem Bank.alloc{w0 w:World}{L:List Acc}(h:Bank w0 w L)(o:Obj):Bank w0 (w.alloc o) L:=h.call ((Below.refl _ _).alloc (Nat.le_refl _) o)
theorem row_base{w:World}{B B':Nat}{e:TypeId}{size n:Nat}{v:Value}{xs:List Value}(h:w.ownsRow B e size v n xs)(hb:B'<=B):w.ownsRow B' e size v n xs :=
 ⟨h.1,h.2.elim .inl fun⟨a,b,cur,hv,hbb,r⟩=>.inr ⟨a,b,cur,hv,Nat.le_trans hb hbb,r⟩⟩
theorem Bank.made{w0 w w':World}{L:List Acc}(h:Bank w0 w L)(hb:Below w.heap.size w w'){e:TypeId}{size n:Nat}{v:Value}{xs:List Value}(ho:w'.ownsRow w.heap.size e size v n xs):Bank w0 w' (⟨v,n,e,size,xs⟩::L):=by
 have h':=h.call hb;refine⟨h'.since,fun p hp=>?_,.cons (fun q hq b hb1 hb2=>?_) h'.sep⟩
 ·rcases List.mem_cons.1 hp with rfl|hp
  ·exact row_base ho h.since.size
  ·exact h'.own p hp
 ·have h1:=(ho.lt b hb1).1
  have h2:=(h.lt hq hb2).2;omega
theorem Bank.litV{w0 w:World}{L:List Acc}(h:Bank w0 w L)(cs:Array Value)(e:TypeId)(hs:cs.size<=1000000):Bank w0 (w.alloc (.cells cs e)) (⟨.slice (some ⟨w.heap.size,0,Option.none⟩) cs.size cs.size,cs.size,e,1,cs.toList⟩::L) :=
 h.made ((Below.refl _ _).alloc (Nat.le_refl _) _) (World.ownsRow_lit w cs cs.size (Nat.le_refl _) (by unfold maxLen;omega) (by omega))
theorem Bank.none{w0 w:World}{L:List Acc}(h:Bank w0 w L)(e:TypeId)(size:Nat):Bank w0 w (⟨.slice none 0 0,0,e,size,[]⟩::L) :=
 h.made (Below.refl _ _) (World.ownsRow_nil _ _ _ _)
theorem Bank.drop{w0 w:World}{L:List Acc}{p:Acc}(h:Bank w0 w (p::L)):Bank w0 w L:=⟨h.since,fun q hq=>h.own q (List.mem_cons_of_mem _ hq),(List.pairwise_cons.1 h.sep).2⟩
theorem Bank.at{w0 w:World}{L:List Acc}(h:Bank w0 w L)(i:Nat){p:Acc}(hi:L[i]?=some p):w.ownsRow w0.heap.size p.e p.size p.v p.n p.xs:=h.own p (List.mem_of_getElem? hi)
theorem Bank.row{w0 w:World}{L:List Acc}(h:Bank w0 w L)(i:Nat){A:Option Addr}{n c:Nat}{e:TypeId}{bs:List (BitVec 8)}(hi:L[i]?=some ⟨.slice A n c,n,e,1,bv bs⟩):RowRd w ⟨A,n,c⟩ bs:=RowRd.of_row (h.at i hi)
theorem Bank.sepAt{w0 w:World}{L:List Acc}(h:Bank w0 w L){i j:Nat}{p q:Acc}(hi:L[i]?=some p)(hj:L[j]?=some q)(hij:i≠j):Apartness p q:=by
 obtain⟨hi1,rfl⟩:=List.getElem?_eq_some_iff.1 hi;obtain⟨hj1,rfl⟩:=List.getElem?_eq_some_iff.1 hj;rcases Nat.lt_or_gt_of_ne hij with h1|h1
 ·exact List.pairwise_iff_getElem.1 h.sep i j hi1 hj1 h1
 ·exact(List.pairwise_iff_getElem.1 h.sep j i hj1 hi1 h1).symm
theorem Bank.putG{w0 w w':World}{L:List Acc}(h:Bank w0 w L)(i:Nat){p p':Acc}(hi:L[i]?=some p)(ho:w'.ownsRow w0.heap.size p'.e p'.size p'.v p'.n p'.xs)(hg:w.grownBy w' p.v.ownBlock)(hb:p'.v.ownBlock=p.v.ownBlock\/∃b,p'.v.ownBlock=some b/\w.heap.size<=b):Bank w0 w' (L.set i p'):=by
 have hp:p∈L:=List.mem_of_getElem? hi;have hlen:i<L.length:=(List.getElem?_eq_some_iff.1 hi).1;have hother:∀j q,L[j]?=some q->i≠j->p.v.ownBlock=Option.none\/∀b,p.v.ownBlock=some b->q.v.ownBlock≠some b:=fun j q hj hij=>.inr (h.sepAt hi hj hij)
 have hsep':∀j q,L[j]?=some q->i≠j->Apartness p' q:=by
  intro j q hj hij b hb1 hb2;have hlt:=(h.lt (List.mem_of_getElem? hj) hb2).2;rcases hb with e|⟨b',e,hle⟩
  ·exact h.sepAt hi hj hij b (e▸hb1) hb2
  ·rw[e]at hb1;cases hb1;omega
 refine⟨(h.since).grown hg h.since.size (fun k hk=>(h.lt hp hk).1),fun q hq=>?_,List.pairwise_iff_getElem.2 fun j k hj hk hjk=>?_⟩
 ·obtain⟨j,hj,rfl⟩:=List.mem_iff_getElem.1 hq
  rw[List.length_set]at hj;by_cases e:i=j
  ·subst e;rw[List.getElem_set_self];exact ho
  ·rw[List.getElem_set_ne e]
   refine(h.own L[j] (List.getElem_mem hj)).kept hg ?_;cases hq2:(L[j]).v.ownBlock with
   | none=>exact .inl rfl
   | some b=>exact .inr fun e2=>h.sepAt hi (List.getElem?_eq_getElem hj) e b e2.symm hq2
 ·rw[List.length_set]at hj hk
  by_cases e1:i=j
  ·subst e1
   rw[List.getElem_set_self,List.getElem_set_ne (by omega)];exact hsep' k _ (List.getElem?_eq_getElem hk) (by omega)
  ·rw[List.getElem_set_ne e1]
   by_cases e2:i=k
   ·subst e2
    rw[List.getElem_set_self];exact(hsep' j _ (List.getElem?_eq_getElem hj) (by omega)).symm
   ·rw[List.getElem_set_ne e2]
    exact List.pairwise_iff_getElem.1 h.sep j k hj hk hjk
theorem Bank.put{w0 w w':World}{L:List Acc}(h:Bank w0 w L)(i:Nat){p p':Acc}(hi:L[i]?=some p)(ho:w'.ownsRow w0.heap.size p'.e p'.size p'.v p'.n p'.xs)(hg:w.grownBy w' p.v.ownBlock)(hb:p'.v.ownBlock=p.v.ownBlock\/p'.v.ownBlock=some w.heap.size):Bank w0 w' (L.set i p') :=
 h.putG i hi ho hg (hb.imp (fun h=>h) fun e=>⟨_,e,Nat.le_refl _⟩)
section
variable{P:Program}{w0 w:World}{L:List Acc}
theorem run_append_bankG(h:Bank w0 w L)(t ty e:TypeId)(i:TypeInfo)(z:Value)(size bytes:Nat)(ht:P.underlying t=some (.slice e))(hi:P.info? e=some i)(hz:i.zero=some z)
  (hsize:i.size=size) (hby:i.bytes=bytes) (hzs:z.cells.size=size) (hsz:0<size) (k:Nat) (A:Option Addr) (n cap:Nat) (xs:List Value) (hk:L[k]?=some ⟨.slice A n cap,n,e,size,xs⟩)
  (ad:Addr) (m c:Nat) (news:List Value) (hl:news.length=m*size) (hnews:∀j u,news[j]?=some u->w.cell? (ad.add j)=some u) (h1:∀u∈news,u.oneCell'=true)
  (h63:n+m<=maxLen) (hbytes:(n+m)*bytes<=140737488355328) :
  ∃A' c' w',(Builtin.append_ #[t,t] ty #[.slice A n cap,.slice (some ad) m c]).run P w=.ok (.slice A' (n+m) c') w'/\Bank w0 w' (L.set k ⟨.slice A' (n+m) c',n+m,e,size,xs++news⟩) /\
   w.grownBy w' (Value.slice A n cap).ownBlock/\((Value.slice A' (n+m) c').ownBlock=(Value.slice A n cap).ownBlock\/(Value.slice A' (n+m) c').ownBlock=some w.heap.size):=by
 have hown:=h.at k hk;obtain⟨v',w',hr,o2,o3,_,o5⟩:=run_append_own_at (P:=P) w w0.heap.size t ty e i z size bytes ht hi hz hsize hby hzs hsz _ n xs hown ad m c news hl hnews h1 h63 hbytes h.since.size
 have hv:∃A' c',v'=.slice A' (n+m) c':=by
  rcases o2.2 with⟨h0,h2⟩|⟨g,cp,cur,h2,_⟩
  ·have:n+m=0:=by
    have:=o2.1;rw[h2]at this;simp at this;rcases this with h3|h3<;>omega
   exact⟨_,_,by rw[this];exact h0⟩
  ·exact⟨_,_,h2⟩
 obtain⟨A',c',rfl⟩:=hv;exact⟨A',c',w',hr,h.put k hk o2 o3 o5,o3,o5⟩
theorem wpList_append_bankG{ops:Array Oper}{rest:List Oper}{o:Oper}{a:Act}{Q:Exit->Act->World->Prop}(h:Bank w0 w L)(hgd:o.guard=Option.none)(s y:Operand)(t:TypeId)
  (ho:o.op=.call { callee:=.builtin .append,args:=#[s,y],argTypes:=#[t,t] })
  (e:TypeId) (z:Value) (size bytes:Nat) (hz:(P.info? e).map (fun i=>(i.zero,i.size,i.bytes))=some (some z,size,bytes)) (ht:P.underlying t=some (.slice e)) (hzs:z.cells.size=size) (hsz:0<size)
  (k:Nat) (A:Option Addr) (n cap:Nat) (xs:List Value) (hs:a.eval s=.slice A n cap) (hk:L[k]?=some ⟨.slice A n cap,n,e,size,xs⟩)
  (ad:Addr) (m c:Nat) (news:List Value) (hx:a.eval y=.slice (some ad) m c) (hl:news.length=m*size) (hnews:∀j u,news[j]?=some u->w.cell? (ad.add j)=some u) (h1:∀u∈news,u.oneCell'=true)
  (h63:n+m<=maxLen) (hbytes:(n+m)*bytes<=140737488355328)
  (hK:∀A' n' c' w',n'=n+m->Bank w0 w' (L.set k ⟨.slice A' n' c',n',e,size,xs++news⟩)->w.grownBy w' (Value.slice A n cap).ownBlock->((Value.slice A' n' c').ownBlock=(Value.slice A n cap).ownBlock\/(Value.slice A' n' c').ownBlock=some w.heap.size)->wpList P ops Q rest (a.put o.dst (.slice A' n' c')) w'):wpList P ops Q (o::rest) a w:=by
 obtain⟨i0,hi,hz0,hz1,hz2⟩:=info_parts hz;refine wpList_plain hgd fun K hK'=>?_
 obtain⟨A',c',w',hr,h2,h3,h4⟩:=run_append_bankG (P:=P) h t o.type e i0 z size bytes ht hi hz0 hz1 hz2 hzs hsz k A n cap xs hk ad m c news hl hnews h1 h63 hbytes;unfold Oper.wp execOp;simp only[ho,resolve,invoke,builtin,Sem.run_bind,Sem.run_pure,Result.andThen_ok,List.map_toArray,List.map_cons,List.map_nil,hs,hx,hr];exact hK' _ _ (hK A' _ c' w' rfl h2 h3 h4)
theorem RowRd.src{x:Rw}{bs:List (BitVec 8)}(h:RowRd w x bs):(x.A=Option.none->x.n=0/\x.c=0)/\(bv bs).length=x.n*1/\∀ad,x.A=some ad->∀j u,(bv bs)[j]?=some u->w.cell? (ad.add j)=some u :=
 ⟨fun e=>⟨by
  have hrd:=h.rd;rw[e]at hrd;have:=h.len
  rw[hrd.empty]at this;exact this.symm,h.none e⟩,by rw[bv_length,h.len,Nat.mul_one],h.rd.cells⟩
end
theorem Bank.other{w0 w w':World}{L:List Acc}(h:Bank w0 w L){X:Nat}(hg:w.grownBy w' (some X))(hX:w0.heap.size<=X)(hL:∀p∈L,p.v.ownBlock≠some X):Bank w0 w' L:=by
 refine⟨h.since.grown hg h.since.size (by rintro k ⟨⟩;exact hX),fun p hp=>(h.own p hp).kept hg ?_,h.sep⟩;cases hq:p.v.ownBlock with
 | none=>exact .inl rfl
 | some b=>exact .inr fun e=>hL p hp (hq.trans e)
theorem Bank.add{w0 w:World}{L:List Acc}(h:Bank w0 w L){B:Nat}{e:TypeId}{size n:Nat}{v:Value}{xs:List Value}(ho:w.ownsRow B e size v n xs)(hB:w0.heap.size<=B)(hL:∀p∈L,∀b,p.v.ownBlock=some b->b<B):Bank w0 w (⟨v,n,e,size,xs⟩::L):=by
 refine⟨h.since,fun p hp=>?_,.cons (fun q hq b hb1 hb2=>?_) h.sep⟩
 ·rcases List.mem_cons.1 hp with rfl|hp
  ·exact row_base ho hB
  ·exact h.own p hp
 ·have h1:=(ho.lt b hb1).1
  have h2:=hL q hq b hb2;omega
theorem Bank.swap{w0 w:World}{L:List Acc}{p q:Acc}(h:Bank w0 w (p::q::L)):Bank w0 w (q::p::L):=by
 obtain⟨h1,h2⟩:=List.pairwise_cons.1 h.sep;obtain⟨h3,h4⟩:=List.pairwise_cons.1 h2;refine⟨h.since,fun x hx=>h.own x ?_,.cons (fun x hx=>?_) (.cons (fun x hx=>h1 x (List.mem_cons_of_mem _ hx)) h4)⟩
 ·simp only[List.mem_cons]at hx ⊢
  rcases hx with rfl|rfl|hx
  ·exact .inr (.inl rfl)
  ·exact .inl rfl
  ·exact .inr (.inr hx)
 ·rcases List.mem_cons.1 hx with rfl|hx
  ·exact(h1 _ (List.mem_cons_self ..)).symm
  ·exact h3 x hx
def Parts(w:World)(S:Option Addr)(m:Nat)(r:Nat->Rw)(f:Nat->List (BitVec 8)):Prop :=
 ∀j,j<m->(∃b o,S=some ⟨b,o,none⟩/\w.cell? ⟨b,o+j,none⟩=some (.slice (r j).A (r j).n (r j).c))/\Rd w (r j).A (f j)/\(f j).length=(r j).n/\((r j).A=none->(r j).c=0)
theorem Parts.below{w w':World}{S:Option Addr}{m:Nat}{r:Nat->Rw}{f:Nat->List (BitVec 8)}(h:Parts w S m r f)(hb:Below w.heap.size w w'):Parts w' S m r f:=fun j hj=>by
 obtain⟨⟨b,o,h1,h2⟩,h3,h4,h5⟩:=h j hj;exact⟨⟨b,o,h1,(hb.cell (block_lt_of_cell h2)).trans h2⟩,h3.below hb,h4,h5⟩
def joined(f:Nat->List (BitVec 8)):Nat->List (BitVec 8)
 | 0=>[]
 | k+1=>joined f k++f k
abbrev RB:=Rw×List (BitVec 8)
def flat(l:List RB):List (BitVec 8):=(l.map (·.2)).flatten
def Lent1(w0:World)(n:Nat)(bs:List (BitVec 8))(e:Ending)(w':World):Prop:=∃g,e=.returned (.slice (some ⟨g,0,none⟩) n (n+12))/\w0.heap.size<=g/\w'.heap[g]?=some (.cells (bv (bs++marks 1 0 12)).toArray 5 (0,0))/\Since w0 w'
theorem lent_from(w0:World)(A:Option Addr)(n c:Nat)(bs:List (BitVec 8))(hr:RowRd w0 ⟨A,n,c⟩ bs)(hn2:n<=140737488000000){w:World}(h:Since w0 w):
  Calls Tryz.prog 7 #[.slice A n c] w (Lent1 w n bs):=by
 have hr':=h.row hr;exact(LentBytes_any A n c bs w hr'.rd hr'.len hn2 hr'.none).mono fun e w' ⟨g,he,hg,hb,hbe⟩=>⟨g,he,hg,hb,hbe⟩
theorem kept_made{w0:World}{g:Nat}{A:Option Addr}{n c:Nat}{bs:List (BitVec 8)}(hg:w0.heap[g]?=some (.cells (bv (bs++marks 1 0 12)).toArray 5 (0,0)))(hr:RowRd w0 ⟨A,n,c⟩ bs)(hn2:n<=140737488000000){w:World}(h:Since w0 w):
  Calls Tryz.prog 10 #[.slice (some ⟨g,0,none⟩) n (n+12),.slice A n c] w fun e w'=>e=.returned (.bool true)/\Below w.heap.size w w' :=
 (KeptBytes_any g A n c bs w (h.at hg) (h.row hr).rd hr.len hn2).mono fun e w' ⟨he,q,hw⟩=>⟨he,by subst hw;exact below_drewN (Below.refl _ _) q⟩
theorem lent_row{w:World}{g n:Nat}{bs:List (BitVec 8)}(hg:w.heap[g]?=some (.cells (bv (bs++marks 1 0 12)).toArray 5 (0,0)))(hn:bs.length=n):RowRd w ⟨some ⟨g,0,none⟩,n,n+12⟩ bs :=
 ⟨Rd.of_block hg (by rw[List.toList_toArray,bv_append,List.take_left' (bv_length bs)]),hn,fun h=>by cases h⟩
def boxAcc(g:Nat)(t:TypeId)(vs:List Value):Acc:=⟨.slice (some ⟨g,0,none⟩) vs.length vs.length,vs.length,t,1,vs⟩
theorem Bank.box{w0 w:World}{L:List Acc}(h:Bank w0 w L)(cs:Array Value)(t:TypeId)(hs:cs.size<=1000000):Bank w0 (w.alloc (.cells cs t)) (boxAcc w.heap.size t cs.toList::L):=by
 have:=h.litV cs t hs;exact this
theorem Bank.boxAt{w0 w:World}{L:List Acc}(h:Bank w0 w L)(i:Nat){g:Nat}{t:TypeId}{vs:List Value}(hi:L[i]?=some (boxAcc g t vs)):w0.heap.size<=g/\w.heap[g]?=some (.cells vs.toArray t (0,0)):=own_full (h.at i hi)
theorem Bank.boxSet{w0 w:World}{L:List Acc}(h:Bank w0 w L)(i:Nat){g:Nat}{t:TypeId}{vs:List Value}(hi:L[i]?=some (boxAcc g t vs))(j:Nat)(v:Value):Bank w0 (w.setCell ⟨g,j,Option.none⟩ v) (L.set i (boxAcc g t (vs.set j v))):=by
 obtain⟨ho,hg⟩:=(h.at i hi).stored j v;refine h.put i hi ?_ hg (.inl ?_)
 ·show(w.setCell ⟨g,j,Option.none⟩ v).ownsRow _ _ _ (.slice _ (vs.set j v).length (vs.set j v).length) (vs.set j v).length _
  rw[List.length_set];exact ho
 ·show Value.ownBlock (.slice _ (vs.set j v).length (vs.set j v).length)=_
  rw[List.length_set];rfl
theorem Bank.ne{w0 w:World}{L:List Acc}(h:Bank w0 w L){i j:Nat}{g g':Nat}{t t':TypeId}{vs vs':List Value}(hi:L[i]?=some (boxAcc g t vs))(hj:L[j]?=some (boxAcc g' t' vs'))(hij:i≠j):g≠g':=by
 intro e;subst e;exact h.sepAt hi hj hij g rfl rfl
theorem Bank.cell{w0 w:World}{L:List Acc}(h:Bank w0 w L)(i:Nat){g:Nat}{t:TypeId}{vs:List Value}(hi:L[i]?=some (boxAcc g t vs))(j:Nat){v:Value}(hv:vs[j]?=some v):w.cell? ⟨g,j,Option.none⟩=some v:=block_cell (h.boxAt i hi).2 hv
theorem Bank.free{w0 w:World}{L:List Acc}(h:Bank w0 w L)(i:Nat){g:Nat}{t:TypeId}{vs:List Value}(hi:L[i]?=some (boxAcc g t vs))(j:Nat):w.frozen? ⟨g,j,Option.none⟩=false:=frozen_of_row w g j _ _ (h.boxAt i hi).2
theorem Bank.q2{w0 w:World}{L:List Acc}(h:Bank w0 w L)(i:Nat){g:Nat}{t:TypeId}{v0 v1:Value}{vs:List Value}(hi:L[i]?=some (boxAcc g t (v0::v1::vs))):w.cell? ⟨g,0,Option.none⟩=some v0/\w.cell? ⟨g,1,Option.none⟩=some v1:=⟨h.cell i hi 0 rfl,h.cell i hi 1 rfl⟩
theorem Bank.q3{w0 w:World}{L:List Acc}(h:Bank w0 w L)(i:Nat){g:Nat}{t:TypeId}{v0 v1 v2:Value}{vs:List Value}(hi:L[i]?=some (boxAcc g t (v0::v1::v2::vs))):w.cell? ⟨g,0,Option.none⟩=some v0/\w.cell? ⟨g,1,Option.none⟩=some v1/\w.cell? ⟨g,2,Option.none⟩=some v2:=⟨h.cell i hi 0 rfl,h.cell i hi 1 rfl,h.cell i hi 2 rfl⟩
theorem Bank.q4{w0 w:World}{L:List Acc}(h:Bank w0 w L)(i:Nat){g:Nat}{t:TypeId}{v0 v1 v2 v3:Value}{vs:List Value}(hi:L[i]?=some (boxAcc g t (v0::v1::v2::v3::vs))):w.cell? ⟨g,0,Option.none⟩=some v0/\w.cell? ⟨g,1,Option.none⟩=some v1/\w.cell? ⟨g,2,Option.none⟩=some v2/\w.cell? ⟨g,3,Option.none⟩=some v3:=⟨h.cell i hi 0 rfl,h.cell i hi 1 rfl,h.cell i hi 2 rfl,h.cell i hi 3 rfl⟩
theorem Bank.q7{w0 w:World}{L:List Acc}(h:Bank w0 w L)(i:Nat){g:Nat}{t:TypeId}{v0 v1 v2 v3 v4 v5 v6:Value}{vs:List Value}(hi:L[i]?=some (boxAcc g t (v0::v1::v2::v3::v4::v5::v6::vs))):w.cell? ⟨g,0,Option.none⟩=some v0/\w.cell? ⟨g,1,Option.none⟩=some v1/\w.cell? ⟨g,2,Option.none⟩=some v2/\w.cell? ⟨g,3,Option.none⟩=some v3/\w.cell? ⟨g,4,Option.none⟩=some v4/\w.cell? ⟨g,5,Option.none⟩=some v5/\w.cell? ⟨g,6,Option.none⟩=some v6:=⟨h.cell i hi 0 rfl,h.cell i hi 1 rfl,h.cell i hi 2 rfl,h.cell i hi 3 rfl,h.cell i hi 4 rfl,h.cell i hi 5 rfl,h.cell i hi 6 rfl⟩
theorem Bank.q8{w0 w:World}{L:List Acc}(h:Bank w0 w L)(i:Nat){g:Nat}{t:TypeId}{v0 v1 v2 v3 v4 v5 v6 v7:Value}{vs:List Value}(hi:L[i]?=some (boxAcc g t (v0::v1::v2::v3::v4::v5::v6::v7::vs))):w.cell? ⟨g,0,Option.none⟩=some v0/\w.cell? ⟨g,1,Option.none⟩=some v1/\w.cell? ⟨g,2,Option.none⟩=some v2/\w.cell? ⟨g,3,Option.none⟩=some v3/\w.cell? ⟨g,4,Option.none⟩=some v4/\w.cell? ⟨g,5,Option.none⟩=some v5/\w.cell? ⟨g,6,Option.none⟩=some v6/\w.cell? ⟨g,7,Option.none⟩=some v7:=⟨h.cell i hi 0 rfl,h.cell i hi 1 rfl,h.cell i hi 2 rfl,h.cell i hi 3 rfl,h.cell i hi 4 rfl,h.cell i hi 5 rfl,h.cell i hi 6 rfl,h.cell i hi 7 rfl⟩
theorem Bank.q9{w0 w:World}{L:List Acc}(h:Bank w0 w L)(i:Nat){g:Nat}{t:TypeId}{v0 v1 v2 v3 v4 v5 v6 v7 v8:Value}{vs:List Value}(hi:L[i]?=some (boxAcc g t (v0::v1::v2::v3::v4::v5::v6::v7::v8::vs))):w.cell? ⟨g,0,Option.none⟩=some v0/\w.cell? ⟨g,1,Option.none⟩=some v1/\w.cell? ⟨g,2,Option.none⟩=some v2/\w.cell? ⟨g,3,Option.none⟩=some v3/\w.cell? ⟨g,4,Option.none⟩=some v4/\w.cell? ⟨g,5,Option.none⟩=some v5/\w.cell? ⟨g,6,Option.none⟩=some v6/\w.cell? ⟨g,7,Option.none⟩=some v7/\w.cell? ⟨g,8,Option.none⟩=some v8:=⟨h.cell i hi 0 rfl,h.cell i hi 1 rfl,h.cell i hi 2 rfl,h.cell i hi 3 rfl,h.cell i hi 4 rfl,h.cell i hi 5 rfl,h.cell i hi 6 rfl,h.cell i hi 7 rfl,h.cell i hi 8 rfl⟩
theorem Bank.q11{w0 w:World}{L:List Acc}(h:Bank w0 w L)(i:Nat){g:Nat}{t:TypeId}{v0 v1 v2 v3 v4 v5 v6 v7 v8 v9 v10:Value}{vs:List Value}(hi:L[i]?=some (boxAcc g t (v0::v1::v2::v3::v4::v5::v6::v7::v8::v9::v10::vs))):w.cell? ⟨g,0,Option.none⟩=some v0/\w.cell? ⟨g,1,Option.none⟩=some v1/\w.cell? ⟨g,2,Option.none⟩=some v2/\w.cell? ⟨g,3,Option.none⟩=some v3/\w.cell? ⟨g,4,Option.none⟩=some v4/\w.cell? ⟨g,5,Option.none⟩=some v5/\w.cell? ⟨g,6,Option.none⟩=some v6/\w.cell? ⟨g,7,Option.none⟩=some v7/\w.cell? ⟨g,8,Option.none⟩=some v8/\w.cell? ⟨g,9,Option.none⟩=some v9/\w.cell? ⟨g,10,Option.none⟩=some v10:=⟨h.cell i hi 0 rfl,h.cell i hi 1 rfl,h.cell i hi 2 rfl,h.cell i hi 3 rfl,h.cell i hi 4 rfl,h.cell i hi 5 rfl,h.cell i hi 6 rfl,h.cell i hi 7 rfl,h.cell i hi 8 rfl,h.cell i hi 9 rfl,h.cell i hi 10 rfl⟩
theorem Bank.r1{w0 w:World}{L:List Acc}(h:Bank w0 w L)(i:Nat){g:Nat}{t:TypeId}{v0:Value}{vs:List Value}(hi:L[i]?=some (boxAcc g t (v0::vs))):w.cell? ⟨g,0,Option.none⟩=some v0/\w.frozen? ⟨g,0,Option.none⟩=false:=⟨h.cell i hi 0 rfl,h.free i hi 0⟩
theorem Bank.r2{w0 w:World}{L:List Acc}(h:Bank w0 w L)(i:Nat){g:Nat}{t:TypeId}{v0 v1:Value}{vs:List Value}(hi:L[i]?=some (boxAcc g t (v0::v1::vs))):w.cell? ⟨g,0,Option.none⟩=some v0/\w.cell? ⟨g,1,Option.none⟩=some v1/\w.frozen? ⟨g,0,Option.none⟩=false/\w.frozen? ⟨g,1,Option.none⟩=false:=⟨h.cell i hi 0 rfl,h.cell i hi 1 rfl,h.free i hi 0,h.free i hi 1⟩
theorem Bank.r3{w0 w:World}{L:List Acc}(h:Bank w0 w L)(i:Nat){g:Nat}{t:TypeId}{v0 v1 v2:Value}{vs:List Value}(hi:L[i]?=some (boxAcc g t (v0::v1::v2::vs))):w.cell? ⟨g,0,Option.none⟩=some v0/\w.cell? ⟨g,1,Option.none⟩=some v1/\w.cell? ⟨g,2,Option.none⟩=some v2/\w.frozen? ⟨g,0,Option.none⟩=false/\w.frozen? ⟨g,1,Option.none⟩=false/\w.frozen? ⟨g,2,Option.none⟩=false:=⟨h.cell i hi 0 rfl,h.cell i hi 1 rfl,h.cell i hi 2 rfl,h.free i hi 0,h.free i hi 1,h.free i hi 2⟩
theorem Bank.r4{w0 w:World}{L:List Acc}(h:Bank w0 w L)(i:Nat){g:Nat}{t:TypeId}{v0 v1 v2 v3:Value}{vs:List Value}(hi:L[i]?=some (boxAcc g t (v0::v1::v2::v3::vs))):w.cell? ⟨g,0,Option.none⟩=some v0/\w.cell? ⟨g,1,Option.none⟩=some v1/\w.cell? ⟨g,2,Option.none⟩=some v2/\w.cell? ⟨g,3,Option.none⟩=some v3/\w.frozen? ⟨g,0,Option.none⟩=false/\w.frozen? ⟨g,1,Option.none⟩=false/\w.frozen? ⟨g,2,Option.none⟩=false/\w.frozen? ⟨g,3,Option.none⟩=false:=⟨h.cell i hi 0 rfl,h.cell i hi 1 rfl,h.cell i hi 2 rfl,h.cell i hi 3 rfl,h.free i hi 0,h.free i hi 1,h.free i hi 2,h.free i hi 3⟩
theorem Bank.r7{w0 w:World}{L:List Acc}(h:Bank w0 w L)(i:Nat){g:Nat}{t:TypeId}{v0 v1 v2 v3 v4 v5 v6:Value}{vs:List Value}(hi:L[i]?=some (boxAcc g t (v0::v1::v2::v3::v4::v5::v6::vs))):w.cell? ⟨g,0,Option.none⟩=some v0/\w.cell? ⟨g,1,Option.none⟩=some v1/\w.cell? ⟨g,2,Option.none⟩=some v2/\w.cell? ⟨g,3,Option.none⟩=some v3/\w.cell? ⟨g,4,Option.none⟩=some v4/\w.cell? ⟨g,5,Option.none⟩=some v5/\w.cell? ⟨g,6,Option.none⟩=some v6/\w.frozen? ⟨g,0,Option.none⟩=false/\w.frozen? ⟨g,1,Option.none⟩=false/\w.frozen? ⟨g,2,Option.none⟩=false/\w.frozen? ⟨g,3,Option.none⟩=false/\w.frozen? ⟨g,4,Option.none⟩=false/\w.frozen? ⟨g,5,Option.none⟩=false/\w.frozen? ⟨g,6,Option.none⟩=false:=⟨h.cell i hi 0 rfl,h.cell i hi 1 rfl,h.cell i hi 2 rfl,h.cell i hi 3 rfl,h.cell i hi 4 rfl,h.cell i hi 5 rfl,h.cell i hi 6 rfl,h.free i hi 0,h.free i hi 1,h.free i hi 2,h.free i hi 3,h.free i hi 4,h.free i hi 5,h.free i hi 6⟩
theorem Bank.r8{w0 w:World}{L:List Acc}(h:Bank w0 w L)(i:Nat){g:Nat}{t:TypeId}{v0 v1 v2 v3 v4 v5 v6 v7:Value}{vs:List Value}(hi:L[i]?=some (boxAcc g t (v0::v1::v2::v3::v4::v5::v6::v7::vs))):w.cell? ⟨g,0,Option.none⟩=some v0/\w.cell? ⟨g,1,Option.none⟩=some v1/\w.cell? ⟨g,2,Option.none⟩=some v2/\w.cell? ⟨g,3,Option.none⟩=some v3/\w.cell? ⟨g,4,Option.none⟩=some v4/\w.cell? ⟨g,5,Option.none⟩=some v5/\w.cell? ⟨g,6,Option.none⟩=some v6/\w.cell? ⟨g,7,Option.none⟩=some v7/\w.frozen? ⟨g,0,Option.none⟩=false/\w.frozen? ⟨g,1,Option.none⟩=false/\w.frozen? ⟨g,2,Option.none⟩=false/\w.frozen? ⟨g,3,Option.none⟩=false/\w.frozen? ⟨g,4,Option.none⟩=false/\w.frozen? ⟨g,5,Option.none⟩=false/\w.frozen? ⟨g,6,Option.none⟩=false/\w.frozen? ⟨g,7,Option.none⟩=false:=⟨h.cell i hi 0 rfl,h.cell i hi 1 rfl,h.cell i hi 2 rfl,h.cell i hi 3 rfl,h.cell i hi 4 rfl,h.cell i hi 5 rfl,h.cell i hi 6 rfl,h.cell i hi 7 rfl,h.free i hi 0,h.free i hi 1,h.free i hi 2,h.free i hi 3,h.free i hi 4,h.free i hi 5,h.free i hi 6,h.free i hi 7⟩
theorem sA{α:Type}{l:List α}{i:Nat}{a:α}:l.toArray.setIfInBounds i a=(l.set i a).toArray:=List.setIfInBounds_toArray ..
theorem sZ{α:Type}{x:α}{xs:List α}{a:α}:(x::xs).set 0 a=a::xs:=rfl
theorem sS{α:Type}{x:α}{xs:List α}{n:Nat}{a:α}:(x::xs).set (n+1) a=x::xs.set n a:=rfl
theorem tg{p:Prop}(n:Nat)(h:∀k:Nat,RowKit.Hid (k=n)->p):p:=h n rfl
theorem at_{p q:Prop}(_:RowKit.Hid p)(h:q):q:=h
theorem own_someB{w:World}{base:Nat}{e:TypeId}{A:Option Addr}{n c:Nat}{xs:List Value}(h:w.ownsRow base e 1 (.slice A n c) n xs)(hp:0<n):∃g,A=some ⟨g,0,none⟩:=by
 rcases h.2 with⟨h0,h1⟩|⟨g,cap,cur,hv,_⟩
 ·cases h0;omega
 ·simp only[Value.slice.injEq,true_and]at hv
  exact⟨g,hv.1⟩
theorem Bank.boxRow{w0 w:World}{L:List Acc}(h:Bank w0 w L)(i:Nat){g:Nat}{t:TypeId}{vs:List Value}(hi:L[i]?=some (boxAcc g t vs))(vs':List Value)(hl:vs'.length=vs.length)(hs:vs.length<=1000000):Bank w0 (w.setRow g vs'.toArray) (L.set i (boxAcc g t vs')):=by
 obtain⟨hb,hg⟩:=h.boxAt i hi;refine h.put i hi ?_ (show w.grownBy (w.setRow g vs'.toArray) (some g)from⟨rfl,rfl,rfl,by simp[World.setRow],fun k hk hne=>setRow_other w g k _ (fun e=>hne (by rw[e]))⟩) (.inl ?_)
 ·refine⟨?_,.inr ⟨g,_,_,rfl,hb,setRow_heap _ _ _ _ _ _ hg,Nat.le_refl _,?_,?_,?_⟩⟩
  ·show vs'.length=vs'.length*1;omega
  ·show vs'.length<=maxLen;unfold maxLen;omega
  ·show _=vs'.length*1;simp
  ·show vs'.toArray.toList.take (vs'.length*1)=vs';simp
 ·show Value.ownBlock (.slice _ vs'.length vs'.length)=_
  rw[hl];rfl
theorem Bank.cl{w0 w:World}{L:List Acc}(h:Bank w0 w L)(i j:Nat){g:Nat}{t:TypeId}{vs:List Value}{v:Value}(hi:L[i]?=some (boxAcc g t vs):=by rfl)(hv:vs[j]?=some v:=by rfl):w.cell? ⟨g,j,Option.none⟩=some v:=h.cell i hi j hv
theorem Bank.bs{w0 w:World}{L:List Acc}(h:Bank w0 w L)(i j:Nat)(v:Value){g:Nat}{t:TypeId}{vs:List Value}(hi:L[i]?=some (boxAcc g t vs):=by rfl):Bank w0 (w.setCell ⟨g,j,Option.none⟩ v) (L.set i (boxAcc g t (vs.set j v))):=h.boxSet i hi j v
end Go.Proofs.YtfeipbgnjainlaaGreatDoor.K
namespace Go.Proofs.YtfeipbgnjainlaaGreatDoor.K
open Go Go.RowKit Go.Maps
def fnC(f:FuncId)(caps:Array Value):Value:=.func (.func f) #[] caps
theorem setBlock_allocT(w:World)(o o':Obj):Go.ChangeMaps.setBlock (w.alloc o) w.heap.size o'=w.alloc o':=by
 have h:(w.heap.push o).setIfInBounds w.heap.size o'=w.heap.push o':=by
  apply Array.toList_inj.1;rw[Array.toList_setIfInBounds,Array.toList_push,Array.toList_push,List.set_append_right _ _ (by simp)];simp
 exact congrArg (fun x=>({ w with heap:=x }:World)) h
def ment(p:(Int×Value)×Nat):MapEntry:={ key:=.int .u8 p.1.1,val:=p.1.2,born:=p.2 }
def mes(l:List (Int×Value)):Array MapEntry:=(l.zipIdx.map ment).toArray
theorem mes_snoc(l:List (Int×Value))(p:Int×Value):mes (l ++ [p])=(mes l).push { key:=.int .u8 p.1,val:=p.2,born:=l.length }:=by
 simp[mes,List.zipIdx_append,ment]
theorem findNow_mes(n:Int):∀(l:List (Int×Value)) (i j:Nat),(∀p∈l,p.1≠n)->Instr.findNow (.int .u8) (.int .u8 n) ((l.zipIdx j).map ment) i=some none
 | [],i,j,_=>rfl
 | p::l,i,j,h=>by
   have h1:(n==p.1)=false:=by rw[beq_eq_false_iff_ne];exact fun e=>h p (List.mem_cons_self ..) e.symm
   have ih:=findNow_mes n l (i+1) (j+1) (fun q hq=>h q (List.mem_cons_of_mem _ hq));simp only[List.zipIdx_cons,List.map_cons,Instr.findNow,ment,Instr.sameNow,h1];exact ih
theorem findNow_hit(n:Int)(v:Value):∀(l:List (Int×Value)) (i j:Nat),(n,v)∈l->(l.Pairwise fun p q=>p.1≠q.1)->∃k,Instr.findNow (.int .u8) (.int .u8 n) ((l.zipIdx j).map ment) i=some (some (k,v))
 | [],_,_,h,_=>by cases h
 | p::l,i,j,h,hp=>by
   by_cases e:p.1=n
   ·have e2:p=(n,v):=by
     rcases List.mem_cons.1 h with h|h
     ·exact h.symm
     ·exact absurd e ((List.pairwise_cons.1 hp).1 _ h)
    subst e2;refine⟨i,?_⟩;have h1:(n==n)=true:=beq_self_eq_true n;have h2:Instr.sameNow (.int .u8) (.int .u8 n) (.int .u8 n)=some true:=by simp[Instr.sameNow]
    show Instr.findNow (.int .u8) (.int .u8 n) (ment ((n,v),j)::(l.zipIdx (j+1)).map ment) i=_
    unfold Instr.findNow ment;rw[h2]
   ·have h1:(n==p.1)=false:=by rw[beq_eq_false_iff_ne];exact fun e2=>e e2.symm
    have h2:(n,v)∈l:=by
     rcases List.mem_cons.1 h with h|h
     ·rw[<-h]at e;exact absurd rfl e
     ·exact h
    obtain⟨k,hk⟩:=findNow_hit n v l (i+1) (j+1) h2 (List.pairwise_cons.1 hp).2;refine⟨k,?_⟩;simp only[List.zipIdx_cons,List.map_cons,Instr.findNow,ment,Instr.sameNow,h1];exact hk
theorem key_wf{n:Int}(h0:0<=n)(h1:n<=255):(Lit.int .u8 n).wf=true:=by
 simp[Lit.wf,IntKind.min,IntKind.max,IntKind.bits,IntKind.signed];omega
section
variable{P:Program}{t k e:TypeId}
theorem put_mes(ht:P.underlying t=some (.map k e))(hk:P.underlying k=some (.int .u8))(w:World)(l:List (Int×Value))(n:Int)(v:Value)(h0:0<=n)(h1:n<=255)(hf:∀p∈l,p.1≠n):
  (Instr.mapUpdate t (.map (some w.heap.size)) (.int .u8 n) v).run P (w.alloc (.map (mes l) l.length))=.ok () (w.alloc (.map (mes (l ++ [(n,v)])) (l.length+1))):=by
 have hb:=(MapKept.heap_alloc w (.map (mes l) l.length)).1;have hf2:Instr.findNow (.int .u8) (.int .u8 n) (mes l).toList 0=some none:=findNow_mes n l 0 0 hf;rw[mes_snoc];simp[Instr.mapUpdate,run_underlying ht,MapKept.run_getObj_map hb,(int_keyed hk).check _ false (keyOf_int_mk hk (key_wf h0 h1)),Instr.findKey,run_underlying hk,hf2,MapKept.run_setObj_map _ hb,Result.andThen];exact setBlock_allocT _ _ _
theorem look_mes(ht:P.underlying t=some (.map k e))(hk:P.underlying k=some (.int .u8)){w:World}{g:Nat}{l:List (Int×Value)}{c:Nat}(hb:w.heap[g]?=some (.map (mes l) c))(n:Int)(v:Value)(h0:0<=n)(h1:n<=255)(hm:(n,v)∈l)(hp:l.Pairwise fun p q=>p.1≠q.1):
  (Instr.lookup t (.map (some g)) (.int .u8 n) true).run P w=.ok (.tuple #[v,.bool true]) w:=by
 obtain⟨i,hf⟩:=findNow_hit n v l 0 0 hm hp;have hf2:Instr.findNow (.int .u8) (.int .u8 n) (mes l).toList 0=some (some (i,v)):=hf;simp[Instr.lookup,run_underlying ht,MapKept.run_getObj_map hb,(int_keyed hk).check _ _ (keyOf_int_mk hk (key_wf h0 h1)),Instr.findKey,run_underlying hk,hf2,Result.andThen]
theorem look_mes1(ht:P.underlying t=some (.map k e))(hk:P.underlying k=some (.int .u8)){w:World}{g:Nat}{l:List (Int×Value)}{c:Nat}(hb:w.heap[g]?=some (.map (mes l) c))(n:Int)(v:Value)(h0:0<=n)(h1:n<=255)(hm:(n,v)∈l)(hp:l.Pairwise fun p q=>p.1≠q.1):
  (Instr.lookup t (.map (some g)) (.int .u8 n) false).run P w=.ok v w:=by
 obtain⟨i,hf⟩:=findNow_hit n v l 0 0 hm hp;have hf2:Instr.findNow (.int .u8) (.int .u8 n) (mes l).toList 0=some (some (i,v)):=hf;simp[Instr.lookup,run_underlying ht,MapKept.run_getObj_map hb,(int_keyed hk).check _ _ (keyOf_int_mk hk (key_wf h0 h1)),Instr.findKey,run_underlying hk,hf2,Result.andThen]
theorem look_none2(ht:P.underlying t=some (.map k e))(hk:P.underlying k=some (.int .u8)){w:World}{g:Nat}{l:List (Int×Value)}{c:Nat}(hb:w.heap[g]?=some (.map (mes l) c))(n:Int)(z:Value)(hz:(zeroValue e).run P w=.ok z w)(h0:0<=n)(h1:n<=255)(hf:∀p∈l,p.1≠n):
  (Instr.lookup t (.map (some g)) (.int .u8 n) true).run P w=.ok (.tuple #[z,.bool false]) w:=by
 have hf2:Instr.findNow (.int .u8) (.int .u8 n) (mes l).toList 0=some none:=findNow_mes n l 0 0 hf;simp[Instr.lookup,run_underlying ht,MapKept.run_getObj_map hb,(int_keyed hk).check _ _ (keyOf_int_mk hk (key_wf h0 h1)),Instr.findKey,run_underlying hk,hf2,hz,Result.andThen]
theorem look_none1(ht:P.underlying t=some (.map k e))(hk:P.underlying k=some (.int .u8)){w:World}{g:Nat}{l:List (Int×Value)}{c:Nat}(hb:w.heap[g]?=some (.map (mes l) c))(n:Int)(z:Value)(hz:(zeroValue e).run P w=.ok z w)(h0:0<=n)(h1:n<=255)(hf:∀p∈l,p.1≠n):
  (Instr.lookup t (.map (some g)) (.int .u8 n) false).run P w=.ok z w:=by
 have hf2:Instr.findNow (.int .u8) (.int .u8 n) (mes l).toList 0=some none:=findNow_mes n l 0 0 hf;simp[Instr.lookup,run_underlying ht,MapKept.run_getObj_map hb,(int_keyed hk).check _ _ (keyOf_int_mk hk (key_wf h0 h1)),Instr.findKey,run_underlying hk,hf2,hz,Result.andThen]
end
set_option maxRecDepth 100000
set_option maxHeartbeats 1000000
theorem clo32_1(w:World)(X Y:Nat)(a b:BitVec 32)(hX:w.cell? ⟨X,0,none⟩=some (W32 (a)))(hY:w.cell? ⟨Y,0,none⟩=some (W32 (b))):
  Calls Tryz.prog 196 #[.pointer (some ⟨X,0,none⟩),.pointer (some ⟨Y,0,none⟩)] w fun e w'=>e=.returned (W32 (T.adoN 32 1 a b))/\Since w w':=by
 have HFIN:=Hd (show ∀q,Since w (w.drewN q)from fun q=>below_drewN (Below.refl _ _) q);go_enter Tryz.func196,Tryz.ntmps196;go_wp2;go_ret;exact⟨rfl,HFIN.o 0⟩
theorem clo32_2(w:World)(X Y:Nat)(a b:BitVec 32)(hX:w.cell? ⟨X,0,none⟩=some (W32 (a)))(hY:w.cell? ⟨Y,0,none⟩=some (W32 (b))):
  Calls Tryz.prog 197 #[.pointer (some ⟨X,0,none⟩),.pointer (some ⟨Y,0,none⟩)] w fun e w'=>e=.returned (W32 (T.adoN 32 2 a b))/\Since w w':=by
 have HFIN:=Hd (show ∀q,Since w (w.drewN q)from fun q=>below_drewN (Below.refl _ _) q);go_enter Tryz.func197,Tryz.ntmps197;go_wp2;go_ret;exact⟨rfl,HFIN.o 0⟩
theorem clo32_3(w:World)(X Y:Nat)(a b:BitVec 32)(hX:w.cell? ⟨X,0,none⟩=some (W32 (a)))(hY:w.cell? ⟨Y,0,none⟩=some (W32 (b))):
  Calls Tryz.prog 198 #[.pointer (some ⟨X,0,none⟩),.pointer (some ⟨Y,0,none⟩)] w fun e w'=>e=.returned (W32 (T.adoN 32 3 a b))/\Since w w':=by
 have HFIN:=Hd (show ∀q,Since w (w.drewN q)from fun q=>below_drewN (Below.refl _ _) q);go_enter Tryz.func198,Tryz.ntmps198;go_wp2;go_ret;exact⟨rfl,HFIN.o 0⟩
theorem clo32_4(w:World)(X Y:Nat)(a b:BitVec 32)(hX:w.cell? ⟨X,0,none⟩=some (W32 (a)))(hY:w.cell? ⟨Y,0,none⟩=some (W32 (b)))(hb:b≠0#32):
  Calls Tryz.prog 199 #[.pointer (some ⟨X,0,none⟩),.pointer (some ⟨Y,0,none⟩)] w fun e w'=>e=.returned (W32 (T.adoN 32 4 a b))/\Since w w':=by
 have HFIN:=Hd (show ∀q,Since w (w.drewN q)from fun q=>below_drewN (Below.refl _ _) q);go_enter Tryz.func199,Tryz.ntmps199;go_wp2;go_ret;exact⟨rfl,HFIN.o 0⟩
theorem clo32_5(w:World)(X Y:Nat)(a b:BitVec 32)(hX:w.cell? ⟨X,0,none⟩=some (W32 (a)))(hY:w.cell? ⟨Y,0,none⟩=some (W32 (b)))(hb:b≠0#32):
  Calls Tryz.prog 200 #[.pointer (some ⟨X,0,none⟩),.pointer (some ⟨Y,0,none⟩)] w fun e w'=>e=.returned (W32 (T.adoN 32 5 a b))/\Since w w':=by
 have HFIN:=Hd (show ∀q,Since w (w.drewN q)from fun q=>below_drewN (Below.refl _ _) q);go_enter Tryz.func200,Tryz.ntmps200;go_wp2;go_ret;exact⟨rfl,HFIN.o 0⟩
theorem clo32_6(w:World)(X Y:Nat)(a b:BitVec 32)(hX:w.cell? ⟨X,0,none⟩=some (W32 (a)))(hY:w.cell? ⟨Y,0,none⟩=some (W32 (b))):
  Calls Tryz.prog 201 #[.pointer (some ⟨X,0,none⟩),.pointer (some ⟨Y,0,none⟩)] w fun e w'=>e=.returned (W32 (T.adoN 32 6 a b))/\Since w w':=by
 have HFIN:=Hd (show ∀q,Since w (w.drewN q)from fun q=>below_drewN (Below.refl _ _) q);go_enter Tryz.func201,Tryz.ntmps201;go_wp2;go_ret;exact⟨rfl,HFIN.o 0⟩
theorem clo32_7(w:World)(X Y:Nat)(a b:BitVec 32)(hX:w.cell? ⟨X,0,none⟩=some (W32 (a)))(hY:w.cell? ⟨Y,0,none⟩=some (W32 (b))):
  Calls Tryz.prog 202 #[.pointer (some ⟨X,0,none⟩),.pointer (some ⟨Y,0,none⟩)] w fun e w'=>e=.returned (W32 (T.adoN 32 7 a b))/\Since w w':=by
 have HFIN:=Hd (show ∀q,Since w (w.drewN q)from fun q=>below_drewN (Below.refl _ _) q);go_enter Tryz.func202,Tryz.ntmps202;go_wp2;go_ret;exact⟨rfl,HFIN.o 0⟩
theorem clo32_8(w:World)(X Y:Nat)(a b:BitVec 32)(hX:w.cell? ⟨X,0,none⟩=some (W32 (a)))(hY:w.cell? ⟨Y,0,none⟩=some (W32 (b))):
  Calls Tryz.prog 203 #[.pointer (some ⟨X,0,none⟩),.pointer (some ⟨Y,0,none⟩)] w fun e w'=>e=.returned (W32 (T.adoN 32 8 a b))/\Since w w':=by
 have HFIN:=Hd (show ∀q,Since w (w.drewN q)from fun q=>below_drewN (Below.refl _ _) q);go_enter Tryz.func203,Tryz.ntmps203;go_wp2;go_ret;exact⟨rfl,HFIN.o 0⟩
theorem clo32_9(w:World)(X Y Z:Nat)(a b:BitVec 32)(hX:w.cell? ⟨X,0,none⟩=some (W32 (a)))(hY:w.cell? ⟨Y,0,none⟩=some (W32 (b)))(hZ:w.cell? ⟨Z,0,none⟩=some (W32 (32#32))):
  Calls Tryz.prog 204 #[.pointer (some ⟨X,0,none⟩),.pointer (some ⟨Y,0,none⟩),.pointer (some ⟨Z,0,none⟩)] w fun e w'=>e=.returned (W32 (T.adoN 32 9 a b))/\Since w w':=by
 have hz:(32#32:BitVec 32)≠0#32:=by decide
 have HFIN:=Hd (show ∀q,Since w (w.drewN q)from fun q=>below_drewN (Below.refl _ _) q);go_enter Tryz.func204,Tryz.ntmps204;go_wp2_with fail
 go_quiet (fail)
 go_wp2;go_ret;exact⟨rfl,HFIN.o _⟩
theorem clo32_10(w:World)(X Y Z:Nat)(a b:BitVec 32)(hX:w.cell? ⟨X,0,none⟩=some (W32 (a)))(hY:w.cell? ⟨Y,0,none⟩=some (W32 (b)))(hZ:w.cell? ⟨Z,0,none⟩=some (W32 (32#32))):
  Calls Tryz.prog 205 #[.pointer (some ⟨X,0,none⟩),.pointer (some ⟨Y,0,none⟩),.pointer (some ⟨Z,0,none⟩)] w fun e w'=>e=.returned (W32 (T.adoN 32 10 a b))/\Since w w':=by
 have hz:(32#32:BitVec 32)≠0#32:=by decide
 have HFIN:=Hd (show ∀q,Since w (w.drewN q)from fun q=>below_drewN (Below.refl _ _) q);go_enter Tryz.func205,Tryz.ntmps205;go_wp2_with fail
 go_quiet (fail)
 go_wp2;go_ret;exact⟨rfl,HFIN.o _⟩
theorem clo32_11(w:World)(X Y Z:Nat)(a b:BitVec 32)(hX:w.cell? ⟨X,0,none⟩=some (W32 (a)))(hY:w.cell? ⟨Y,0,none⟩=some (W32 (b)))(hZ:w.cell? ⟨Z,0,none⟩=some (W32 (32#32))):
  Calls Tryz.prog 206 #[.pointer (some ⟨X,0,none⟩),.pointer (some ⟨Y,0,none⟩),.pointer (some ⟨Z,0,none⟩)] w fun e w'=>e=.returned (W32 (T.adoN 32 11 a b))/\Since w w':=by
 have hz:(32#32:BitVec 32)≠0#32:=by decide
 have HFIN:=Hd (show ∀q,Since w (w.drewN q)from fun q=>below_drewN (Below.refl _ _) q);go_enter Tryz.func206,Tryz.ntmps206;go_wp2_with fail
 go_quiet (fail)
 go_wp2;go_ret;exact⟨rfl,HFIN.o _⟩
theorem clo32_12(w:World)(Y:Nat)(a b:BitVec 32)(hY:w.cell? ⟨Y,0,none⟩=some (W32 (b))):
  Calls Tryz.prog 207 #[.pointer (some ⟨Y,0,none⟩)] w fun e w'=>e=.returned (W32 (T.adoN 32 12 a b))/\Since w w':=by
 have HFIN:=Hd (show ∀q,Since w (w.drewN q)from fun q=>below_drewN (Below.refl _ _) q);go_enter Tryz.func207,Tryz.ntmps207;go_wp2;go_ret;exact⟨rfl,HFIN.o 0⟩
theorem clo32_13(w:World)(X:Nat)(a b:BitVec 32)(hX:w.cell? ⟨X,0,none⟩=some (W32 (a))):
  Calls Tryz.prog 208 #[.pointer (some ⟨X,0,none⟩)] w fun e w'=>e=.returned (W32 (T.adoN 32 13 a b))/\Since w w':=by
 have HFIN:=Hd (show ∀q,Since w (w.drewN q)from fun q=>below_drewN (Below.refl _ _) q);go_enter Tryz.func208,Tryz.ntmps208;go_wp2;go_ret;exact⟨rfl,HFIN.o 0⟩
set_option maxRecDepth 100000
set_option maxHeartbeats 1000000
theorem clo64_1(w:World)(X Y:Nat)(a b:BitVec 64)(hX:w.cell? ⟨X,0,none⟩=some (W64 (a)))(hY:w.cell? ⟨Y,0,none⟩=some (W64 (b))):
  Calls Tryz.prog 209 #[.pointer (some ⟨X,0,none⟩),.pointer (some ⟨Y,0,none⟩)] w fun e w'=>e=.returned (W64 (T.adoN 64 1 a b))/\Since w w':=by
 have HFIN:=Hd (show ∀q,Since w (w.drewN q)from fun q=>below_drewN (Below.refl _ _) q);go_enter Tryz.func209,Tryz.ntmps209;go_wp2;go_ret;exact⟨rfl,HFIN.o 0⟩
theorem clo64_2(w:World)(X Y:Nat)(a b:BitVec 64)(hX:w.cell? ⟨X,0,none⟩=some (W64 (a)))(hY:w.cell? ⟨Y,0,none⟩=some (W64 (b))):
  Calls Tryz.prog 210 #[.pointer (some ⟨X,0,none⟩),.pointer (some ⟨Y,0,none⟩)] w fun e w'=>e=.returned (W64 (T.adoN 64 2 a b))/\Since w w':=by
 have HFIN:=Hd (show ∀q,Since w (w.drewN q)from fun q=>below_drewN (Below.refl _ _) q);go_enter Tryz.func210,Tryz.ntmps210;go_wp2;go_ret;exact⟨rfl,HFIN.o 0⟩
theorem clo64_3(w:World)(X Y:Nat)(a b:BitVec 64)(hX:w.cell? ⟨X,0,none⟩=some (W64 (a)))(hY:w.cell? ⟨Y,0,none⟩=some (W64 (b))):
  Calls Tryz.prog 211 #[.pointer (some ⟨X,0,none⟩),.pointer (some ⟨Y,0,none⟩)] w fun e w'=>e=.returned (W64 (T.adoN 64 3 a b))/\Since w w':=by
 have HFIN:=Hd (show ∀q,Since w (w.drewN q)from fun q=>below_drewN (Below.refl _ _) q);go_enter Tryz.func211,Tryz.ntmps211;go_wp2;go_ret;exact⟨rfl,HFIN.o 0⟩
theorem clo64_4(w:World)(X Y:Nat)(a b:BitVec 64)(hX:w.cell? ⟨X,0,none⟩=some (W64 (a)))(hY:w.cell? ⟨Y,0,none⟩=some (W64 (b)))(hb:b≠0#64):
  Calls Tryz.prog 212 #[.pointer (some ⟨X,0,none⟩),.pointer (some ⟨Y,0,none⟩)] w fun e w'=>e=.returned (W64 (T.adoN 64 4 a b))/\Since w w':=by
 have HFIN:=Hd (show ∀q,Since w (w.drewN q)from fun q=>below_drewN (Below.refl _ _) q);go_enter Tryz.func212,Tryz.ntmps212;go_wp2;go_ret;exact⟨rfl,HFIN.o 0⟩
theorem clo64_5(w:World)(X Y:Nat)(a b:BitVec 64)(hX:w.cell? ⟨X,0,none⟩=some (W64 (a)))(hY:w.cell? ⟨Y,0,none⟩=some (W64 (b)))(hb:b≠0#64):
  Calls Tryz.prog 213 #[.pointer (some ⟨X,0,none⟩),.pointer (some ⟨Y,0,none⟩)] w fun e w'=>e=.returned (W64 (T.adoN 64 5 a b))/\Since w w':=by
 have HFIN:=Hd (show ∀q,Since w (w.drewN q)from fun q=>below_drewN (Below.refl _ _) q);go_enter Tryz.func213,Tryz.ntmps213;go_wp2;go_ret;exact⟨rfl,HFIN.o 0⟩
theorem clo64_6(w:World)(X Y:Nat)(a b:BitVec 64)(hX:w.cell? ⟨X,0,none⟩=some (W64 (a)))(hY:w.cell? ⟨Y,0,none⟩=some (W64 (b))):
  Calls Tryz.prog 214 #[.pointer (some ⟨X,0,none⟩),.pointer (some ⟨Y,0,none⟩)] w fun e w'=>e=.returned (W64 (T.adoN 64 6 a b))/\Since w w':=by
 have HFIN:=Hd (show ∀q,Since w (w.drewN q)from fun q=>below_drewN (Below.refl _ _) q);go_enter Tryz.func214,Tryz.ntmps214;go_wp2;go_ret;exact⟨rfl,HFIN.o 0⟩
theorem clo64_7(w:World)(X Y:Nat)(a b:BitVec 64)(hX:w.cell? ⟨X,0,none⟩=some (W64 (a)))(hY:w.cell? ⟨Y,0,none⟩=some (W64 (b))):
  Calls Tryz.prog 215 #[.pointer (some ⟨X,0,none⟩),.pointer (some ⟨Y,0,none⟩)] w fun e w'=>e=.returned (W64 (T.adoN 64 7 a b))/\Since w w':=by
 have HFIN:=Hd (show ∀q,Since w (w.drewN q)from fun q=>below_drewN (Below.refl _ _) q);go_enter Tryz.func215,Tryz.ntmps215;go_wp2;go_ret;exact⟨rfl,HFIN.o 0⟩
theorem clo64_8(w:World)(X Y:Nat)(a b:BitVec 64)(hX:w.cell? ⟨X,0,none⟩=some (W64 (a)))(hY:w.cell? ⟨Y,0,none⟩=some (W64 (b))):
  Calls Tryz.prog 216 #[.pointer (some ⟨X,0,none⟩),.pointer (some ⟨Y,0,none⟩)] w fun e w'=>e=.returned (W64 (T.adoN 64 8 a b))/\Since w w':=by
 have HFIN:=Hd (show ∀q,Since w (w.drewN q)from fun q=>below_drewN (Below.refl _ _) q);go_enter Tryz.func216,Tryz.ntmps216;go_wp2;go_ret;exact⟨rfl,HFIN.o 0⟩
theorem clo64_9(w:World)(X Y Z:Nat)(a b:BitVec 64)(hX:w.cell? ⟨X,0,none⟩=some (W64 (a)))(hY:w.cell? ⟨Y,0,none⟩=some (W64 (b)))(hZ:w.cell? ⟨Z,0,none⟩=some (W64 (64#64))):
  Calls Tryz.prog 217 #[.pointer (some ⟨X,0,none⟩),.pointer (some ⟨Y,0,none⟩),.pointer (some ⟨Z,0,none⟩)] w fun e w'=>e=.returned (W64 (T.adoN 64 9 a b))/\Since w w':=by
 have hz:(64#64:BitVec 64)≠0#64:=by decide
 have HFIN:=Hd (show ∀q,Since w (w.drewN q)from fun q=>below_drewN (Below.refl _ _) q);go_enter Tryz.func217,Tryz.ntmps217;go_wp2_with fail
 go_quiet (fail)
 go_wp2;go_ret;exact⟨rfl,HFIN.o _⟩
theorem clo64_10(w:World)(X Y Z:Nat)(a b:BitVec 64)(hX:w.cell? ⟨X,0,none⟩=some (W64 (a)))(hY:w.cell? ⟨Y,0,none⟩=some (W64 (b)))(hZ:w.cell? ⟨Z,0,none⟩=some (W64 (64#64))):
  Calls Tryz.prog 218 #[.pointer (some ⟨X,0,none⟩),.pointer (some ⟨Y,0,none⟩),.pointer (some ⟨Z,0,none⟩)] w fun e w'=>e=.returned (W64 (T.adoN 64 10 a b))/\Since w w':=by
 have hz:(64#64:BitVec 64)≠0#64:=by decide
 have HFIN:=Hd (show ∀q,Since w (w.drewN q)from fun q=>below_drewN (Below.refl _ _) q);go_enter Tryz.func218,Tryz.ntmps218;go_wp2_with fail
 go_quiet (fail)
 go_wp2;go_ret;exact⟨rfl,HFIN.o _⟩
theorem clo64_11(w:World)(X Y Z:Nat)(a b:BitVec 64)(hX:w.cell? ⟨X,0,none⟩=some (W64 (a)))(hY:w.cell? ⟨Y,0,none⟩=some (W64 (b)))(hZ:w.cell? ⟨Z,0,none⟩=some (W64 (64#64))):
  Calls Tryz.prog 219 #[.pointer (some ⟨X,0,none⟩),.pointer (some ⟨Y,0,none⟩),.pointer (some ⟨Z,0,none⟩)] w fun e w'=>e=.returned (W64 (T.adoN 64 11 a b))/\Since w w':=by
 have hz:(64#64:BitVec 64)≠0#64:=by decide
 have HFIN:=Hd (show ∀q,Since w (w.drewN q)from fun q=>below_drewN (Below.refl _ _) q);go_enter Tryz.func219,Tryz.ntmps219;go_wp2_with fail
 go_quiet (fail)
 go_wp2;go_ret;exact⟨rfl,HFIN.o _⟩
theorem clo64_12(w:World)(Y:Nat)(a b:BitVec 64)(hY:w.cell? ⟨Y,0,none⟩=some (W64 (b))):
  Calls Tryz.prog 220 #[.pointer (some ⟨Y,0,none⟩)] w fun e w'=>e=.returned (W64 (T.adoN 64 12 a b))/\Since w w':=by
 have HFIN:=Hd (show ∀q,Since w (w.drewN q)from fun q=>below_drewN (Below.refl _ _) q);go_enter Tryz.func220,Tryz.ntmps220;go_wp2;go_ret;exact⟨rfl,HFIN.o 0⟩
theorem clo64_13(w:World)(X:Nat)(a b:BitVec 64)(hX:w.cell? ⟨X,0,none⟩=some (W64 (a))):
  Calls Tryz.prog 221 #[.pointer (some ⟨X,0,none⟩)] w fun e w'=>e=.returned (W64 (T.adoN 64 13 a b))/\Since w w':=by
 have HFIN:=Hd (show ∀q,Since w (w.drewN q)from fun q=>below_drewN (Below.refl _ _) q);go_enter Tryz.func221,Tryz.ntmps221;go_wp2;go_ret;exact⟨rfl,HFIN.o 0⟩
end Go.Proofs.YtfeipbgnjainlaaGreatDoor.K
namespace Go.Proofs
open Go.Shelf
def Tryz.lays129_ren:Go.Shelf.Ren:=⟨fun|129=>195|n=>n,fun|53=>39|3=>3|4=>4|46=>100|5=>5|9=>9|n=>n,fun|n=>n⟩
theorem Tryz.lays129:Go.Proofs.Lays.n129 Tryz.prog Tryz.lays129_ren:={
 mixed:=by kernel_rfl
 f129:=Tryz.func195.trans (congrArg some (by kernel_rfl))
 t3:=Tryz.underlying3
 a3:=Tryz.isAgg3
 z3:=Tryz.sizeOf3
 v3:=Tryz.zeroValue3
 t4:=Tryz.underlying4
 a4:=Tryz.isAgg4
 z4:=Tryz.sizeOf4
 v4:=Tryz.zeroValue4
 t5:=Tryz.underlying5
 a5:=Tryz.isAgg5
 z5:=Tryz.sizeOf5
 v5:=Tryz.zeroValue5
 t9:=Tryz.underlying9
 a9:=Tryz.isAgg9
 z9:=Tryz.sizeOf9
 v9:=Tryz.zeroValue9
 t46:=Tryz.underlying100
 a46:=Tryz.isAgg100
 z46:=Tryz.sizeOf100
 v46:=Tryz.zeroValue100
 t53:=Tryz.underlying39
 a53:=Tryz.isAgg39
 z53:=Tryz.sizeOf39
 v53:=Tryz.zeroValue39 }
theorem Tryz.bits_Len64(x:Int)(w:World)(h0:0<=x)(h1:x<=18446744073709551615):
  Calls Tryz.prog 195 #[.int .u64 x] w fun e w'=>e=.returned (.int .i64 (Lib.bitLen x.toNat))/\w'=w:=Any.bits_Len64 Tryz.lays129 x w h0 h1
def Tryz.lays189_ren:Go.Shelf.Ren:=⟨fun|189=>93|125=>148|257=>147|128=>194|129=>195|294=>185|295=>186|296=>187|297=>188|298=>189|299=>190|216=>191|300=>192|301=>193|328=>239|329=>240|330=>241|331=>242|332=>243|215=>244|343=>267|n=>n,fun|28=>48|3=>3|46=>100|0=>0|51=>150|53=>39|4=>4|183=>256|182=>255|131=>261|5=>5|9=>9|218=>288|222=>291|228=>299|229=>300|n=>n,fun|n=>n⟩
theorem Tryz.lays189:Go.Proofs.Lays.n189 Tryz.prog Tryz.lays189_ren:={
 mixed:=by kernel_rfl
 f125:=Tryz.func148.trans (congrArg some (by kernel_rfl))
 f128:=Tryz.func194.trans (congrArg some (by kernel_rfl))
 f129:=Tryz.func195.trans (congrArg some (by kernel_rfl))
 f189:=Tryz.func93.trans (congrArg some (by kernel_rfl))
 f215:=Tryz.func244.trans (congrArg some (by kernel_rfl))
 f216:=Tryz.func191.trans (congrArg some (by kernel_rfl))
 f257:=Tryz.func147.trans (congrArg some (by kernel_rfl))
 f294:=Tryz.func185.trans (congrArg some (by kernel_rfl))
 f295:=Tryz.func186.trans (congrArg some (by kernel_rfl))
 f296:=Tryz.func187.trans (congrArg some (by kernel_rfl))
 f297:=Tryz.func188.trans (congrArg some (by kernel_rfl))
 f298:=Tryz.func189.trans (congrArg some (by kernel_rfl))
 f299:=Tryz.func190.trans (congrArg some (by kernel_rfl))
 f300:=Tryz.func192.trans (congrArg some (by kernel_rfl))
 f301:=Tryz.func193.trans (congrArg some (by kernel_rfl))
 f328:=Tryz.func239.trans (congrArg some (by kernel_rfl))
 f329:=Tryz.func240.trans (congrArg some (by kernel_rfl))
 f330:=Tryz.func241.trans (congrArg some (by kernel_rfl))
 f331:=Tryz.func242.trans (congrArg some (by kernel_rfl))
 f332:=Tryz.func243.trans (congrArg some (by kernel_rfl))
 f343:=Tryz.func267.trans (congrArg some (by kernel_rfl))
 t0:=Tryz.underlying0
 a0:=Tryz.isAgg0
 z0:=Tryz.sizeOf0
 v0:=Tryz.zeroValue0
 t3:=Tryz.underlying3
 a3:=Tryz.isAgg3
 z3:=Tryz.sizeOf3
 v3:=Tryz.zeroValue3
 t4:=Tryz.underlying4
 a4:=Tryz.isAgg4
 z4:=Tryz.sizeOf4
 v4:=Tryz.zeroValue4
 t5:=Tryz.underlying5
 a5:=Tryz.isAgg5
 z5:=Tryz.sizeOf5
 v5:=Tryz.zeroValue5
 t9:=Tryz.underlying9
 a9:=Tryz.isAgg9
 z9:=Tryz.sizeOf9
 v9:=Tryz.zeroValue9
 t28:=Tryz.underlying48
 a28:=Tryz.isAgg48
 z28:=Tryz.sizeOf48
 v28:=Tryz.zeroValue48
 t46:=Tryz.underlying100
 a46:=Tryz.isAgg100
 z46:=Tryz.sizeOf100
 v46:=Tryz.zeroValue100
 t51:=Tryz.underlying150
 a51:=Tryz.isAgg150
 z51:=Tryz.sizeOf150
 v51:=Tryz.zeroValue150
 t53:=Tryz.underlying39
 a53:=Tryz.isAgg39
 z53:=Tryz.sizeOf39
 v53:=Tryz.zeroValue39
 t131:=Tryz.underlying261
 a131:=Tryz.isAgg261
 z131:=Tryz.sizeOf261
 v131:=Tryz.zeroValue261
 t182:=Tryz.underlying255
 a182:=Tryz.isAgg255
 z182:=Tryz.sizeOf255
 v182:=Tryz.zeroValue255
 t183:=Tryz.underlying256
 a183:=Tryz.isAgg256
 z183:=Tryz.sizeOf256
 v183:=Tryz.zeroValue256
 t218:=Tryz.underlying288
 a218:=Tryz.isAgg288
 z218:=Tryz.sizeOf288
 v218:=Tryz.zeroValue288
 t222:=Tryz.underlying291
 a222:=Tryz.isAgg291
 z222:=Tryz.sizeOf291
 v222:=Tryz.zeroValue291
 t228:=Tryz.underlying299
 a228:=Tryz.isAgg299
 z228:=Tryz.sizeOf299
 v228:=Tryz.zeroValue299
 t229:=Tryz.underlying300
 a229:=Tryz.isAgg300
 z229:=Tryz.sizeOf300
 v229:=Tryz.zeroValue300 }
open Go.Sort Go.RowKit in
theorem Tryz.slices_Sort_int(blk off cap:Nat)(zs:List Int)(w:World)(hH:Holds (Value.int .i64) w blk off zs.toArray)(hblk:blk<w.heap.size)(hsz:zs.length<4611686018427387904):
  Calls Tryz.prog 93 #[.slice (some ⟨blk,off,none⟩) zs.length cap] w fun e w' =>
   e=.returned (.tuple #[])/\∃n os,w'=grow (putRow (Value.int .i64) (Sort.ahead w n) blk off (zs.mergeSort fun x y=>decide (x<=y)).toArray) os:=Any.slices_Sort_int Tryz.lays189 blk off cap zs w hH hblk hsz
def Tryz.lays264_ren:Go.Shelf.Ren:=⟨fun|264=>269|n=>n,fun|53=>39|46=>100|n=>n,fun|n=>n⟩
theorem Tryz.lays264:Go.Proofs.Lays.n264 Tryz.prog Tryz.lays264_ren:={
 mixed:=by kernel_rfl
 f264:=Tryz.func269.trans (congrArg some (by kernel_rfl))
 t46:=Tryz.underlying100
 a46:=Tryz.isAgg100
 z46:=Tryz.sizeOf100
 v46:=Tryz.zeroValue100
 t53:=Tryz.underlying39
 a53:=Tryz.isAgg39
 z53:=Tryz.sizeOf39
 v53:=Tryz.zeroValue39 }
open Go.RowKit Go.Lib in
theorem Tryz.bits_Mul64(x y:Nat)(hx:x<18446744073709551616)(hy:y<18446744073709551616)(w:World):
  Calls Tryz.prog 269 #[.int .u64 x,.int .u64 y] w fun e w'=>e=.returned (.tuple #[.int .u64 ((x*y/18446744073709551616:Nat):Int),.int .u64 ((x*y % 18446744073709551616:Nat):Int)])/\w'=w:=Any.bits_Mul64 Tryz.lays264 x y hx hy w
def Tryz.lays107_ren:Go.Shelf.Ren:=⟨fun|107=>91|108=>146|n=>n,fun|28=>48|3=>3|4=>4|0=>0|n=>n,fun|n=>n⟩
theorem Tryz.lays107:Go.Proofs.Lays.n107 Tryz.prog Tryz.lays107_ren:={
 mixed:=by kernel_rfl
 f107:=Tryz.func91.trans (congrArg some (by kernel_rfl))
 f108:=Tryz.func146.trans (congrArg some (by kernel_rfl))
 t0:=Tryz.underlying0
 a0:=Tryz.isAgg0
 z0:=Tryz.sizeOf0
 v0:=Tryz.zeroValue0
 t3:=Tryz.underlying3
 a3:=Tryz.isAgg3
 z3:=Tryz.sizeOf3
 v3:=Tryz.zeroValue3
 t4:=Tryz.underlying4
 a4:=Tryz.isAgg4
 z4:=Tryz.sizeOf4
 v4:=Tryz.zeroValue4
 t28:=Tryz.underlying48
 a28:=Tryz.isAgg48
 z28:=Tryz.sizeOf48
 v28:=Tryz.zeroValue48 }
open Go.Lib in
theorem Tryz.slices_Contains_int(b off n c:Nat)(zs:List Int)(x:Int)(w:World)(hz:n<=zs.length)(hbig:n<=9223372036854775807)(hc:∀j,j<zs.length->w.cell? ⟨b,off+j,none⟩=some (.int .i64 (zs.getD j 0))):
  Calls Tryz.prog 91 #[.slice (some ⟨b,off,none⟩) n c,.int .i64 x] w fun e w'=>e=.returned (.bool ((zs.take n).contains x))/\w'=w:=Any.slices_Contains_int Tryz.lays107 b off n c zs x w hz hbig hc
def Tryz.laysNm220_ren:Go.Shelf.Ren:=⟨fun|20=>94|n=>n,fun|22=>48|3=>3|4=>4|0=>0|n=>n,fun|n=>n⟩
theorem Tryz.laysNm220:Go.Proofs.Lays2.n20 Tryz.prog Tryz.laysNm220_ren:={
 mixed:=by kernel_rfl
 f20:=Tryz.func94.trans (congrArg some (by kernel_rfl))
 t0:=Tryz.underlying0
 a0:=Tryz.isAgg0
 z0:=Tryz.sizeOf0
 v0:=Tryz.zeroValue0
 t3:=Tryz.underlying3
 a3:=Tryz.isAgg3
 z3:=Tryz.sizeOf3
 v3:=Tryz.zeroValue3
 t4:=Tryz.underlying4
 a4:=Tryz.isAgg4
 z4:=Tryz.sizeOf4
 v4:=Tryz.zeroValue4
 t22:=Tryz.underlying48
 a22:=Tryz.isAgg48
 z22:=Tryz.sizeOf48
 v22:=Tryz.zeroValue48
 i3:=by kernel_rfl }
open Go.RowKit Go.Lib Go.Sort in
theorem Tryz.slices_Compact_int(blk off cap:Nat)(zs:List Int)(w:World)(hH:Holds (Value.int .i64) w blk off zs.toArray)(hsz:zs.length<=9223372036854775807)(hcap:zs.length<=cap):
  Calls Tryz.prog 94 #[.slice (some ⟨blk,off,none⟩) zs.length cap] w fun e w'=>e=.returned (.slice (some ⟨blk,off,none⟩) (Lib.compact zs).length cap)/\∃q,w'=putRow (Value.int .i64) (Sort.ahead w q) blk off (Lib.compact zs++List.replicate (zs.length-(Lib.compact zs).length) 0).toArray:=Any.slices_Compact_int Tryz.laysNm220 blk off cap zs w hH hsz hcap
end Go.Proofs
namespace Go.Proofs.YtfeipbgnjainlaaGreatDoor.K
open Go Go.RowKit Go.ChangeShapes Go.WideShapes Go.Deep
set_option maxRecDepth 100000
theorem own:ownKnob Tryz.prog.godebug=none:=by kernel_rfl
theorem laidOut:laidOutB Tryz.prog=true:=by kernel_rfl
noncomputable def laidWorld(os:Os):World:=World.holding Tryz.prog os ⟨#[],#[],[]⟩
theorem B8_of_wf{n:Int}(h:(Lit.int .u8 n).wf=true):∃b:BitVec 8,Value.int .u8 n=B8 b:=by
 have h':0<=n/\n<256:=by
  simp[Lit.wf,IntKind.min,IntKind.max,IntKind.bits,IntKind.signed]at h;omega
 refine⟨BitVec.ofInt 8 n,?_⟩;simp only[B8,BitVec.toNat_ofInt,Value.int.injEq,true_and];omega
theorem Rd.of_ints{w:World}{x:Addr}{zs:List Int}(hcell:∀i,i<zs.length->w.cell? (x.add i)=some (.int .u8 (zs.getD i 0)))(hwz:∀n∈zs,(Lit.int .u8 n).wf=true)(n:Nat):
  Rd w (some x) ((zs.take n).map (BitVec.ofInt 8)):=by
 intro k hk;have hk2:k<zs.length:=by simp at hk;omega
 have hc:=hcell k hk2;obtain⟨b,o,s⟩:=x;have hs:s=none:=by simpa [Addr.add]using World.cell?_spot (hcell 0 (by omega))
 subst hs;refine⟨b,o,rfl,?_⟩;rw[Addr.add_lit]at hc;rw[hc];obtain⟨y,hy⟩:=B8_of_wf (hwz zs[k] (List.getElem_mem _));have e:zs.getD k 0=zs[k]:=by simp[hk2]
 rw[e,hy];simp only[B8,Value.int.injEq,true_and]at hy;simp only[List.getElem_map,List.getElem_take,hy,BitVec.ofInt_natCast,ofNat_self]
theorem inI64_of_wf{n:Int}(h:(Lit.int .i64 n).wf=true):M.inI64 n:=by
 simp[Lit.wf,IntKind.min,IntKind.max,IntKind.bits,IntKind.signed]at h;exact⟨by omega,by omega⟩
theorem cellsByte:Tryz.prog.cellsOf 5=1:=by kernel_rfl
theorem cellsInt:Tryz.prog.cellsOf 3=1:=by kernel_rfl
theorem cellsBool:Tryz.prog.cellsOf 4=1:=by kernel_rfl
section
variable{H:Type}{enc:TypeId×Value->H}{W:World}{base b0:Nat}{sp:Nat->Bool}{held:Bool}{r:Reach}
theorem cs_bytes{fuel:Nat}{v:Value}{x:DataW H×List MemPlace}(h:DataW.trod enc Tryz.prog W base sp held fuel 23 [v]=some x):
  ∃A n c bs,v=.slice A n c/\RowRd W ⟨A,n,c⟩ bs/\n<=c/\c<=9223372036854775807:=by
 rcases open_ints Tryz.underlying23 Tryz.underlying5 cellsByte h with⟨hcs,_⟩|⟨x,l,c,zs,hcs,_,hl,hm,hz,hx,hcell,hwz⟩
 ·obtain rfl:v=.slice none 0 0:=by simpa using hcs
  exact⟨none,0,0,[],rfl,⟨Rd.of_nil _ _,rfl,fun _=>rfl⟩,by omega,by omega⟩
 ·obtain rfl:v=.slice (some x) l c:=by simpa using hcs
  unfold maxLen at hm;refine⟨some x,l,c,_,rfl,⟨Rd.of_ints hcell hwz l,?_,fun h=>by cases h⟩,hl,hm⟩;simp only[List.length_map,List.length_take];split at hz<;>omega
theorem cs_int{fuel:Nat}{v:Value}{x:DataW H×List MemPlace}(h:DataW.trod enc Tryz.prog W base sp held fuel 3 [v]=some x):∃n,v=.int .i64 n/\M.inI64 n:=by
 obtain⟨n,hcs,_,hw⟩:=DataW.trod_int Tryz.underlying3 h;obtain rfl:v=.int .i64 n:=by simpa using hcs
 exact⟨n,rfl,inI64_of_wf hw⟩
theorem cs_bool{fuel:Nat}{v:Value}{x:DataW H×List MemPlace}(h:DataW.trod enc Tryz.prog W base sp held fuel 4 [v]=some x):∃b,v=.bool b:=by
 obtain⟨b,hcs,_⟩:=DataW.trod_bool Tryz.underlying4 h;exact⟨b,by simpa using hcs⟩
theorem open_bytes{v:Value}{d:DataW H}{p:List MemPlace}(hv:Value.okWide Tryz.prog W r b0 23 v)(h:DataW.Trod enc Tryz.prog W base sp held 23 v d p):
  ∃A n c bs,v=.slice A n c/\RowRd W ⟨A,n,c⟩ bs/\n<=c/\c<=9223372036854775807:=by
 obtain⟨A,l,c,rfl⟩:=okWide_slice Tryz.underlying23 hv;obtain⟨fuel,hf⟩:=h;exact cs_bytes hf
theorem open_num{v:Value}{d:DataW H}{p:List MemPlace}(hv:Value.okWide Tryz.prog W r b0 3 v)(h:DataW.Trod enc Tryz.prog W base sp held 3 v d p):∃n,v=.int .i64 n/\M.inI64 n:=by
 obtain⟨n,rfl,_,_,hw⟩:=open_int Tryz.underlying3 hv h;exact⟨n,rfl,inI64_of_wf hw⟩
def Nums(W:World)(A:Option Addr)(n:Nat):Prop:=∀i,i<n->∃b o z,A=some ⟨b,o,none⟩/\W.cell? ⟨b,o+i,none⟩=some (.int .i64 z)
theorem Nums.below{w w':World}{A:Option Addr}{n:Nat}(h:Nums w A n)(hb:Below w.heap.size w w'):Nums w' A n:=fun i hi=>by
 obtain⟨b,o,z,e,hc⟩:=h i hi;exact⟨b,o,z,e,(hb.cell (p:=⟨b,o+i,none⟩) (block_lt_of_cell hc)).trans hc⟩
end
end Go.Proofs.YtfeipbgnjainlaaGreatDoor.K
set_option maxRecDepth 100000
namespace Go.Proofs.YtfeipbgnjainlaaGreatDoor.K
open Go Go.RowKit Go.WideShapes Go.ChangeShapes
end Go.Proofs.YtfeipbgnjainlaaGreatDoor.K
