/- TSpB, TKnA -/
import Derived.Test.YtfeipbgnjainlaaGreatDoorTp4
import Derived.Test.YtfeipbgnjainlaaGreatDoorTp2
import Derived.Test.YtfeipbgnjainlaaGreatDoorTp7
import Derived.Deep.DeepCutAuto
set_option linter.unusedVariables false
set_option linter.unusedSimpArgs false
set_option maxRecDepth 100000
set_option maxHeartbeats 4000000
namespace Go.Proofs.YtfeipbgnjainlaaGreatDoor.K
open Go Go.RowKit Go.Maps Go.Sort
theorem spcut_agg(lo hi:BitVec 64)(b:Bool)(w:World):Calls Tryz.prog 232 #[.agg #[W64 lo,W64 hi],.bool b] w (Ret w (.agg #[W64 (T.Sp.cut ⟨lo,hi⟩ b).lo,W64 (T.Sp.cut ⟨lo,hi⟩ b).hi])):=spcut_any ⟨lo,hi⟩ b w
theorem Bank.sub{w0 w:World}{L L':List Acc}(h:Bank w0 w L)(hs:L'.Sublist L):Bank w0 w L':=⟨h.since,fun x hx=>h.own x (hs.subset hx),h.sep.sublist hs⟩
theorem Bank.boxL{w0 w:World}{L:List Acc}(h:Bank w0 w L)(l:List Value)(t:TypeId)(hs:l.length<=1000000):Bank w0 (w.alloc (.cells l.toArray t)) (boxAcc w.heap.size t l::L):=h.box l.toArray t (by simpa using hs)
theorem wp_hid{P:Program}{c:Code}{Q:Exit->Act->World->Prop}{a:Act}{w0 w:World}{L:List Acc}(hB:RowKit.Hid (Bank w0 w L))(h:∀w',RowKit.Hid (Bank w0 w' L)->c.wp P Q a w'):c.wp P Q a w:=h w hB
theorem bk1(w:World)(l1:List Value)(t1:TypeId)(h1:l1.length<=1000000:=by simp):RowKit.Hid (Bank w (w.alloc (.cells l1.toArray t1)) [boxAcc (w.heap.size) t1 l1]):=by
 have h:=(Bank.nil (Below.refl w.heap.size w)).boxL l1 t1 h1;exact h
theorem bk2(w:World)(l1:List Value)(t1:TypeId)(l2:List Value)(t2:TypeId)(h1:l1.length<=1000000:=by simp)(h2:l2.length<=1000000:=by simp):RowKit.Hid (Bank w ((w.alloc (.cells l1.toArray t1)).alloc (.cells l2.toArray t2)) [boxAcc (w.heap.size+1) t2 l2,boxAcc (w.heap.size) t1 l1]):=by
 have h:=((Bank.nil (Below.refl w.heap.size w)).boxL l1 t1 h1).boxL l2 t2 h2;simp only[World.size_alloc]at h;exact h
theorem bk3(w:World)(l1:List Value)(t1:TypeId)(l2:List Value)(t2:TypeId)(l3:List Value)(t3:TypeId)(h1:l1.length<=1000000:=by simp)(h2:l2.length<=1000000:=by simp)(h3:l3.length<=1000000:=by simp):RowKit.Hid (Bank w (((w.alloc (.cells l1.toArray t1)).alloc (.cells l2.toArray t2)).alloc (.cells l3.toArray t3)) [boxAcc (w.heap.size+1+1) t3 l3,boxAcc (w.heap.size+1) t2 l2,boxAcc (w.heap.size) t1 l1]):=by
 have h:=(((Bank.nil (Below.refl w.heap.size w)).boxL l1 t1 h1).boxL l2 t2 h2).boxL l3 t3 h3;simp only[World.size_alloc]at h;exact h
theorem bk4(w:World)(l1:List Value)(t1:TypeId)(l2:List Value)(t2:TypeId)(l3:List Value)(t3:TypeId)(l4:List Value)(t4:TypeId)(h1:l1.length<=1000000:=by simp)(h2:l2.length<=1000000:=by simp)(h3:l3.length<=1000000:=by simp)(h4:l4.length<=1000000:=by simp):RowKit.Hid (Bank w ((((w.alloc (.cells l1.toArray t1)).alloc (.cells l2.toArray t2)).alloc (.cells l3.toArray t3)).alloc (.cells l4.toArray t4)) [boxAcc (w.heap.size+1+1+1) t4 l4,boxAcc (w.heap.size+1+1) t3 l3,boxAcc (w.heap.size+1) t2 l2,boxAcc (w.heap.size) t1 l1]):=by
 have h:=((((Bank.nil (Below.refl w.heap.size w)).boxL l1 t1 h1).boxL l2 t2 h2).boxL l3 t3 h3).boxL l4 t4 h4;simp only[World.size_alloc]at h;exact h
theorem cell_drew{w:World}{p:Addr}{v:Value}(h:w.cell? p=some v):w.drew.cell? p=some v:=h
theorem Bank.twice{w0 w:World}{L:List Acc}{i:Nat}{g:Nat}{t:TypeId}{vs:List Value}(h:Bank w0 w (L.set i (boxAcc g t vs)))(hl:i<L.length)(j:Nat)(v:Value):Bank w0 (w.setCell ⟨g,j,Option.none⟩ v) (L.set i (boxAcc g t (vs.set j v))):=by
 have:=h.boxSet i (by rw[List.getElem?_set_self hl]) j v
 rwa [List.set_set]at this
theorem Bank.set7{w0 w:World}{L:List Acc}(h:Bank w0 w L)(i:Nat){g:Nat}{t:TypeId}{v0 v1 v2 v3 v4 v5 v6:Value}(hi:L[i]?=some (boxAcc g t [v0,v1,v2,v3,v4,v5,v6]))(u0 u1 u2 u3 u4 u5 u6:Value):Bank w0 (((((((w.setCell ⟨g,0,Option.none⟩ u0).setCell ⟨g,1,Option.none⟩ u1).setCell ⟨g,2,Option.none⟩ u2).setCell ⟨g,3,Option.none⟩ u3).setCell ⟨g,4,Option.none⟩ u4).setCell ⟨g,5,Option.none⟩ u5).setCell ⟨g,6,Option.none⟩ u6) (L.set i (boxAcc g t [u0,u1,u2,u3,u4,u5,u6])):=by
 have hl:i<L.length:=(List.getElem?_eq_some_iff.1 hi).1;exact(((((((h.boxSet i hi 0 u0).twice hl 1 u1).twice hl 2 u2).twice hl 3 u3).twice hl 4 u4).twice hl 5 u5).twice hl 6 u6)
theorem ovk{w0 w:World}{g X Y:Nat}{p:Acc}{t T:TypeId}{v0 v1 v2 v3 v4 v5 v6 a b c d:Value}(h:Bank w0 w [boxAcc g T [v0,v1,v2,v3,v4,v5,v6],p,boxAcc Y t [c,d],boxAcc X t [a,b]])(u0 u1 u2 u3 u4 u5 u6:Value):
  (((((((w.setCell ⟨g,0,none⟩ u0).setCell ⟨g,1,none⟩ u1).setCell ⟨g,2,none⟩ u2).setCell ⟨g,3,none⟩ u3).setCell ⟨g,4,none⟩ u4).setCell ⟨g,5,none⟩ u5).setCell ⟨g,6,none⟩ u6).cell? ⟨X,0,none⟩=some a/\(((((((w.setCell ⟨g,0,none⟩ u0).setCell ⟨g,1,none⟩ u1).setCell ⟨g,2,none⟩ u2).setCell ⟨g,3,none⟩ u3).setCell ⟨g,4,none⟩ u4).setCell ⟨g,5,none⟩ u5).setCell ⟨g,6,none⟩ u6).cell? ⟨X,1,none⟩=some b/\(((((((w.setCell ⟨g,0,none⟩ u0).setCell ⟨g,1,none⟩ u1).setCell ⟨g,2,none⟩ u2).setCell ⟨g,3,none⟩ u3).setCell ⟨g,4,none⟩ u4).setCell ⟨g,5,none⟩ u5).setCell ⟨g,6,none⟩ u6).cell? ⟨Y,0,none⟩=some c/\(((((((w.setCell ⟨g,0,none⟩ u0).setCell ⟨g,1,none⟩ u1).setCell ⟨g,2,none⟩ u2).setCell ⟨g,3,none⟩ u3).setCell ⟨g,4,none⟩ u4).setCell ⟨g,5,none⟩ u5).setCell ⟨g,6,none⟩ u6).cell? ⟨Y,1,none⟩=some d:=by
 have hB:=h.set7 0 rfl u0 u1 u2 u3 u4 u5 u6;exact⟨hB.cell (vs:=[a,b]) 3 rfl 0 rfl,hB.cell (vs:=[a,b]) 3 rfl 1 rfl,hB.cell (vs:=[c,d]) 2 rfl 0 rfl,hB.cell (vs:=[c,d]) 2 rfl 1 rfl⟩
theorem ove{w0 w:World}{g:Nat}{p q r:Acc}{T:TypeId}{v0 v1 v2 v3 v4 v5 v6:Value}(h:Bank w0 w [boxAcc g T [v0,v1,v2,v3,v4,v5,v6],p,q,r])(u0 u1 u2 u3 u4 u5 u6:Value):Bank w0 (((((((w.setCell ⟨g,0,none⟩ u0).setCell ⟨g,1,none⟩ u1).setCell ⟨g,2,none⟩ u2).setCell ⟨g,3,none⟩ u3).setCell ⟨g,4,none⟩ u4).setCell ⟨g,5,none⟩ u5).setCell ⟨g,6,none⟩ u6) [boxAcc g T [u0,u1,u2,u3,u4,u5,u6],p] :=
 (h.set7 0 rfl u0 u1 u2 u3 u4 u5 u6).sub (.cons_cons _ (.cons_cons _ (.cons _ (.cons _ .slnil))))
theorem ovf{w0 w:World}{p q r:Acc}{T:TypeId}(h:Bank w0 w [p,q,r])(l:List Value)(hs:l.length<=1000000):Bank w0 (w.alloc (.cells l.toArray T)) [boxAcc w.heap.size T l,p] :=
 (h.boxL l T hs).sub (.cons_cons _ (.cons_cons _ (.cons _ (.cons _ .slnil))))
def OvI(w:World)(l:List Value)(X2:Nat)(s:Value)(wx:World):Prop:=∃g,s=.pointer (some ⟨g,0,none⟩)/\Bank w wx [boxAcc g 229 l,boxAcc X2 229 [W64 0#64,W64 0#64,W64 0#64,W64 0#64,.bool false,W64 0#64,W64 0#64]]
theorem ovI_mk{w wx:World}{l:List Value}{X2 g:Nat}(h:Bank w wx [boxAcc g 229 l,boxAcc X2 229 [W64 0#64,W64 0#64,W64 0#64,W64 0#64,.bool false,W64 0#64,W64 0#64]]):OvI w l X2 (.pointer (some ⟨g,0,none⟩)) wx:=⟨g,rfl,h⟩
theorem spover_any(narrow:Bool)(s t:T.Sp)(w:World):Calls Tryz.prog 170 #[.bool narrow,spv s,spv t] w (Ret w (wkv (T.Wk.over narrow s t))):=by
 obtain⟨lo,hi⟩:=s;obtain⟨lo2,hi2⟩:=t;unfold spv;have BK:=bk3 w [W64 lo,W64 hi] 122 [W64 lo2,W64 hi2] 122 [W64 0#64,W64 0#64,W64 0#64,W64 0#64,.bool false,W64 0#64,W64 0#64] 229;go_enter Tryz.func170,Tryz.ntmps170;go_upto_region 1 with fail;generalize hX:w.heap.size=X at *;have HX:=Hd hX;clear hX;refine wp_hid BK (fun w1 BK=>?_);go_cut [7] (fun s wx=>OvI w [W64 (T.Sp.cut ⟨lo,hi⟩ narrow).lo,W64 (T.Sp.cut ⟨lo,hi⟩ narrow).hi,W64 (T.Sp.cut ⟨lo2,hi2⟩ narrow).lo,W64 (T.Sp.cut ⟨lo2,hi2⟩ narrow).hi,.bool narrow,W64 18446744073709551615#64,W64 64#64] (X+1+1) s wx)
 case first =>
  have hB:=BK.o;obtain⟨y0,y1⟩:w1.drew.cell? ⟨X,0,none⟩=some (W64 lo)/\w1.drew.cell? ⟨X,1,none⟩=some (W64 hi):=⟨hB.cl 2 0,hB.cl 2 1⟩
  obtain⟨y2,y3⟩:w1.drew.cell? ⟨X+1,0,none⟩=some (W64 lo2)/\w1.drew.cell? ⟨X+1,1,none⟩=some (W64 hi2):=⟨hB.cl 1 0,hB.cl 1 1⟩
  go_region_held3 (fun w'=>w'.cell? ⟨X,0,none⟩=some (W64 lo)/\w'.cell? ⟨X,1,none⟩=some (W64 hi)/\w'.cell? ⟨X+1,0,none⟩=some (W64 lo2)/\w'.cell? ⟨X+1,1,none⟩=some (W64 hi2))
   (first
     | with_reducible exact⟨hB.cell 2 rfl 0 rfl,hB.cell 2 rfl 1 rfl,hB.cell 1 rfl 0 rfl,hB.cell 1 rfl 1 rfl⟩
     | with_reducible exact⟨hB.cell 3 rfl 0 rfl,hB.cell 3 rfl 1 rfl,hB.cell 2 rfl 0 rfl,hB.cell 2 rfl 1 rfl⟩
     | with_reducible exact⟨cell_drew (hB.cell 2 rfl 0 rfl),cell_drew (hB.cell 2 rfl 1 rfl),cell_drew (hB.cell 1 rfl 0 rfl),cell_drew (hB.cell 1 rfl 1 rfl)⟩
     | with_reducible exact⟨cell_old _ (hB.cell 2 rfl 0 rfl),cell_old _ (hB.cell 2 rfl 1 rfl),cell_old _ (hB.cell 1 rfl 0 rfl),cell_old _ (hB.cell 1 rfl 1 rfl)⟩
     | with_reducible exact⟨cell_drew (cell_old _ (hB.cell 2 rfl 0 rfl)),cell_drew (cell_old _ (hB.cell 2 rfl 1 rfl)),cell_drew (cell_old _ (hB.cell 1 rfl 0 rfl)),cell_drew (cell_old _ (hB.cell 1 rfl 1 rfl))⟩
     | with_reducible exact ovk hB _ _ _ _ _ _ _
     | fail "keep")
   (first
     | (go_at_call 232;refine(spcut_agg _ _ _ _).mono ?_;rintro e w2 ⟨rfl,hs⟩;(first|(have hB:=hB.call hs;have q0:=hB.cl 0 0;have q1:=hB.cl 0 1;have q2:=hB.cl 0 2;have q3:=hB.cl 0 3;have q4:=hB.cl 0 4;have q5:=hB.cl 0 5;have q6:=hB.cl 0 6;have p0:=hB.free 0 rfl 0;have p1:=hB.free 0 rfl 1;have p2:=hB.free 0 rfl 2;have p3:=hB.free 0 rfl 3;have p4:=hB.free 0 rfl 4;have p5:=hB.free 0 rfl 5;have p6:=hB.free 0 rfl 6)|(have hB:=hB.drew.call hs;have q0:=hB.cl 0 0;have q1:=hB.cl 0 1;have q2:=hB.cl 0 2;have q3:=hB.cl 0 3;have q4:=hB.cl 0 4;have q5:=hB.cl 0 5;have q6:=hB.cl 0 6;have p0:=hB.free 0 rfl 0;have p1:=hB.free 0 rfl 1;have p2:=hB.free 0 rfl 2;have p3:=hB.free 0 rfl 3;have p4:=hB.free 0 rfl 4;have p5:=hB.free 0 rfl 5;have p6:=hB.free 0 rfl 6)|(have hB:=(hB.boxL [W64 0#64,W64 0#64,W64 0#64,W64 0#64,.bool false,W64 0#64,W64 0#64] 229 (by simp)).call hs;have q0:=hB.cl 0 0;have q1:=hB.cl 0 1;have q2:=hB.cl 0 2;have q3:=hB.cl 0 3;have q4:=hB.cl 0 4;have q5:=hB.cl 0 5;have q6:=hB.cl 0 6;have p0:=hB.free 0 rfl 0;have p1:=hB.free 0 rfl 1;have p2:=hB.free 0 rfl 2;have p3:=hB.free 0 rfl 3;have p4:=hB.free 0 rfl 4;have p5:=hB.free 0 rfl 5;have p6:=hB.free 0 rfl 6)|(have hB:=(hB.boxL [W64 0#64,W64 0#64,W64 0#64,W64 0#64,.bool false,W64 0#64,W64 0#64] 229 (by simp)).drew.call hs;have q0:=hB.cl 0 0;have q1:=hB.cl 0 1;have q2:=hB.cl 0 2;have q3:=hB.cl 0 3;have q4:=hB.cl 0 4;have q5:=hB.cl 0 5;have q6:=hB.cl 0 6;have p0:=hB.free 0 rfl 0;have p1:=hB.free 0 rfl 1;have p2:=hB.free 0 rfl 2;have p3:=hB.free 0 rfl 3;have p4:=hB.free 0 rfl 4;have p5:=hB.free 0 rfl 5;have p6:=hB.free 0 rfl 6));clear hs)
     | fail "arm")
  all_goals
   go_wp2_with fail;go_meet
   first
    | (have hZ:=fun a b c d e f g=>ove hB a b c d e f g;with_reducible exact ovI_mk (hZ _ _ _ _ _ _ _))
    | with_reducible exact ovI_mk (ovf hB _ (by simp))
 case rest =>
  obtain⟨g,rfl,hB⟩:=hcut;have HB:=Hd hB;have hne:g≠X+1+1:=hB.ne (i:=0) (j:=1) rfl rfl (by decide);have hne2:X+1+1≠g:=fun e=>hne e.symm
  obtain⟨z0,z1,z2,z3,z4,z5,z6⟩:=hB.q7 0 rfl;obtain⟨x0,x1,x2,x3,x4,x5,x6,f0,f1,f2,f3,f4,f5,f6⟩:=hB.r7 1 rfl;have p5:=hB.free 0 rfl 5;have p6:=hB.free 0 rfl 6;clear hB BK;generalize X+1+1=Y at *;cases narrow with
  | false =>
    go_wp2;refine bodyPost_ret (v:=(.agg #[W64 (T.Sp.cut ⟨lo,hi⟩ false).lo,W64 (T.Sp.cut ⟨lo,hi⟩ false).hi,W64 (T.Sp.cut ⟨lo2,hi2⟩ false).lo,W64 (T.Sp.cut ⟨lo2,hi2⟩ false).hi,.bool false,W64 18446744073709551615#64,W64 64#64])) ?_ rfl ⟨rfl,(HB.o.set7 1 rfl _ _ _ _ _ _ _).since⟩;simp[results,Tryz.results170,go_sem,x0,x1,x2,x3,x4,x5,x6]
  | true =>
    go_wp2;refine bodyPost_ret (v:=(.agg #[W64 (T.Sp.cut ⟨lo,hi⟩ true).lo,W64 (T.Sp.cut ⟨lo,hi⟩ true).hi,W64 (T.Sp.cut ⟨lo2,hi2⟩ true).lo,W64 (T.Sp.cut ⟨lo2,hi2⟩ true).hi,.bool true,W64 4294967295#64,W64 32#64])) ?_ rfl ⟨rfl,(((HB.o.bs 0 5 _).bs 0 6 _).set7 1 rfl _ _ _ _ _ _ _).since⟩;simp[results,Tryz.results170,go_sem,x0,x1,x2,x3,x4,x5,x6,hne,hne2]
set_option maxHeartbeats 2000000
def knv(a:T.Kn):Value:=.agg #[.int .u8 a.k,W64 a.s.lo,W64 a.s.hi]
theorem sp_eq0(lo hi:BitVec 64):((⟨lo,hi⟩:T.Sp)==T.Sp.zero)=(lo==0#64&&hi==0#64):=by
 rw[Bool.eq_iff_iff,beq_iff_eq,Bool.and_eq_true,beq_iff_eq,beq_iff_eq,T.Sp.zero,T.Sp.mk.injEq];exact Iff.rfl
theorem kright_any(a:T.Kn)(w:World):Calls Tryz.prog 87 #[knv a] w (Ret w (.bool a.right)):=by
 have HO:=Hd (fun w n=>spOf_agg n w);have HR:=Hd (fun w a b=>spRight_any ⟨a,b⟩ w);unfold spv at HR;obtain⟨k,⟨lo,hi⟩⟩:=a;unfold knv;have S1:=Hd (Since.alloc (Below.refl w.heap.size w) (.cells #[.int .u8 k,W64 lo,W64 hi] 124));by_cases h4:k=4
 ·subst h4
  go_enter Tryz.func87,Tryz.ntmps87;go_wp2;go_ret;exact⟨by rw[T.Kn.right,if_pos (.inl rfl),sp_eq0];rfl,S1.o⟩
 by_cases h0:k=0
 ·subst h0
  go_enter Tryz.func87,Tryz.ntmps87;go_wp2;go_ret;exact⟨by rw[T.Kn.right,if_pos (.inr rfl),sp_eq0];rfl,S1.o⟩
 by_cases h12:k=1\/k=2
 ·have HV:=Hd (T.Kn.right_12 (a:=⟨k,⟨lo,hi⟩⟩) h12)
  have c0:(w.alloc (.cells #[.int .u8 k,W64 lo,W64 hi] 124)).cell? ⟨w.heap.size,0,none⟩=some (.int .u8 k):=by rw[World.cell?_alloc_new];rfl
  have c1:(w.alloc (.cells #[.int .u8 k,W64 lo,W64 hi] 124)).cell? ⟨w.heap.size,1,none⟩=some (W64 lo):=by rw[World.cell?_alloc_new];rfl
  have c2:(w.alloc (.cells #[.int .u8 k,W64 lo,W64 hi] 124)).cell? ⟨w.heap.size,2,none⟩=some (W64 hi):=by rw[World.cell?_alloc_new];rfl
  go_enter Tryz.func87,Tryz.ntmps87;go_upto_region 2 with fail;generalize w.alloc (.cells #[.int .u8 k,W64 lo,W64 hi] 124)=w1 at *;rcases h12 with rfl|rfl
  all_goals
   go_wp2_with fail;refine(HR.o _ lo hi).mono ?_;rintro e w3 ⟨rfl,hs⟩;have S2:=Hd (S1.o.add hs);clear hs;go_wp2;go_ret;exact⟨by rw[HV.o];rfl,S2.o⟩
 have h1:¬k=1:=fun e=>h12 (.inl e)
 have h2:¬k=2:=fun e=>h12 (.inr e)
 have HV:=Hd (show(⟨k,⟨lo,hi⟩⟩:T.Kn).right=(decide (k=3)&&(hi==lo))by
  unfold T.Kn.right;simp only
  rw[if_neg (by omega),if_neg h12,show((⟨lo,hi⟩:T.Sp)==T.Sp.of lo)=(hi==lo)from one_eq lo hi])
 clear h12;have c0:(w.alloc (.cells #[.int .u8 k,W64 lo,W64 hi] 124)).cell? ⟨w.heap.size,0,none⟩=some (.int .u8 k):=by rw[World.cell?_alloc_new];rfl
 have c1:(w.alloc (.cells #[.int .u8 k,W64 lo,W64 hi] 124)).cell? ⟨w.heap.size,1,none⟩=some (W64 lo):=by rw[World.cell?_alloc_new];rfl
 have c2:(w.alloc (.cells #[.int .u8 k,W64 lo,W64 hi] 124)).cell? ⟨w.heap.size,2,none⟩=some (W64 hi):=by rw[World.cell?_alloc_new];rfl
 go_enter Tryz.func87,Tryz.ntmps87;go_upto_region 8 with fail;generalize w.alloc (.cells #[.int .u8 k,W64 lo,W64 hi] 124)=w1 at *;have r0:=cell_regrown c0;have r1:=cell_regrown c1;have r2:=cell_regrown c2;clear c0 c1 c2;by_cases h3:k=3
 ·subst h3
  refine wp_region_quiet_below (by kernel_rfl) (by kernel_rfl) ?_
  repeat (refine @wpQuiet_step _ _ _ _ _ _ _ ?_; intro K hK; go_simp; first | (refine hK _ ?_; clear hK K) | (apply Exists.intro; refine ⟨fun _ => ?_, hK _ ?_⟩; (first | (with_reducible exact Ret.regrown (spOf_agg _ _)) | fail "no arm"); clear hK K))
  refine wpQuiet_nil ?_;intro _ hw';obtain⟨⟨dq,osq⟩,hw''⟩:=hw';subst hw'';go_wp2;go_ret;exact⟨by rw[HV.o];rfl,S1.o.add (below_regrown w1 dq osq)⟩
 ·have HV2:=Hd (show(⟨k,⟨lo,hi⟩⟩:T.Kn).right=false by rw[HV.o,decide_eq_false h3];rfl)
  refine wp_region_quiet_below (by kernel_rfl) (by kernel_rfl) ?_
  repeat (refine @wpQuiet_step _ _ _ _ _ _ _ ?_; intro K hK; go_simp; first | (refine hK _ ?_; clear hK K) | (apply Exists.intro; refine ⟨fun _ => ?_, hK _ ?_⟩; (first | (with_reducible exact Ret.regrown (spOf_agg _ _)) | fail "no arm"); clear hK K))
  refine wpQuiet_nil ?_;intro _ hw';obtain⟨⟨dq,osq⟩,hw''⟩:=hw';subst hw'';go_wp2;go_ret;exact⟨by rw[HV2.o];rfl,S1.o.add (below_regrown w1 dq osq)⟩
section
variable{w w':World}{X Y:Nat}{u v k lo hi:Value}(h:Bank w w' [boxAcc Y 122 [u,v],boxAcc X 124 [k,lo,hi]])
include h
theorem kn_k0:w'.cell? ⟨X,0,none⟩=some k/\w'.cell? ⟨X,1,none⟩=some lo/\w'.cell? ⟨X,2,none⟩=some hi:=⟨h.cl 1 0,h.cl 1 1,h.cl 1 2⟩
theorem kn_d0:w'.drew.cell? ⟨X,0,none⟩=some k/\w'.drew.cell? ⟨X,1,none⟩=some lo/\w'.drew.cell? ⟨X,2,none⟩=some hi:=kn_k0 h.drew
theorem kn_s1(a b:Value):Bank w ((w'.setCell ⟨Y,0,none⟩ a).setCell ⟨Y,1,none⟩ b) [boxAcc Y 122 [a,b],boxAcc X 124 [k,lo,hi]]:=(h.bs 0 0 a).bs 0 1 b
theorem kn_k1(a b:Value):((w'.setCell ⟨Y,0,none⟩ a).setCell ⟨Y,1,none⟩ b).cell? ⟨X,0,none⟩=some k/\((w'.setCell ⟨Y,0,none⟩ a).setCell ⟨Y,1,none⟩ b).cell? ⟨X,1,none⟩=some lo/\((w'.setCell ⟨Y,0,none⟩ a).setCell ⟨Y,1,none⟩ b).cell? ⟨X,2,none⟩=some hi:=kn_k0 (kn_s1 h a b)
theorem kn_d1(a b:Value):((w'.setCell ⟨Y,0,none⟩ a).setCell ⟨Y,1,none⟩ b).drew.cell? ⟨X,0,none⟩=some k/\((w'.setCell ⟨Y,0,none⟩ a).setCell ⟨Y,1,none⟩ b).drew.cell? ⟨X,1,none⟩=some lo/\((w'.setCell ⟨Y,0,none⟩ a).setCell ⟨Y,1,none⟩ b).drew.cell? ⟨X,2,none⟩=some hi:=kn_k0 (kn_s1 h a b).drew
end
theorem knum_any(a:T.Kn)(w:World):Calls Tryz.prog 126 #[knv a] w (Ret w (.tuple #[spv a.numS,.bool a.isN])):=by
 obtain⟨k,⟨lo,hi⟩⟩:=a;unfold knv;have BK:=bk2 w [.int .u8 k,W64 lo,W64 hi] 124 [W64 0#64,W64 0#64] 122;go_enter Tryz.func126,Tryz.ntmps126;go_upto_region 1 with fail;generalize w.heap.size=X at *;refine wp_hid BK (fun w1 BK=>?_);obtain⟨c0,c1,c2⟩:=kn_k0 BK.o;obtain⟨d0,d1,f0,f1⟩:=BK.o.r2 0 rfl;by_cases h4:k=4
 ·subst h4
  go_wp2;refine bodyPost_ret (v:=.tuple #[.agg #[W64 0#64,W64 65535#64],.bool true]) ?_ rfl ⟨rfl,(kn_s1 BK.o _ _).since⟩;simp[results,Tryz.results126,go_sem,d0,d1]
 ·have HV:=Hd (show(⟨k,⟨lo,hi⟩⟩:T.Kn).numS=⟨lo,hi⟩by unfold T.Kn.numS;rw[if_neg h4])
  have HV2:=Hd (show(⟨k,⟨lo,hi⟩⟩:T.Kn).isN=(k==1)by unfold T.Kn.isN;simp only[decide_eq_false h4,Bool.false_or];rfl);go_upto_region 3 with fail
  go_region_held3 (fun w'=>w'.cell? ⟨X,0,none⟩=some (.int .u8 k)/\w'.cell? ⟨X,1,none⟩=some (W64 lo)/\w'.cell? ⟨X,2,none⟩=some (W64 hi))
   (first
     | with_reducible exact kn_k0 BK.o
     | with_reducible exact kn_d0 BK.o
     | with_reducible exact kn_k1 BK.o _ _
     | with_reducible exact kn_d1 BK.o _ _
     | fail "keep")
   (first | fail "arm")
  all_goals
   go_wp2;refine bodyPost_ret (v:=.tuple #[.agg #[W64 lo,W64 hi],.bool (k==1)]) ?_ rfl ⟨by rw[HV.o,HV2.o];rfl,by first|exact(kn_s1 BK.o _ _).since|exact(kn_s1 BK.o _ _).since.drew⟩;simp[results,Tryz.results126,go_sem,d0,d1]
theorem spHas_agg(lo hi n:BitVec 64)(w:World):Calls Tryz.prog 228 #[.agg #[W64 lo,W64 hi],W64 n] w (Ret w (.bool (T.Sp.has ⟨lo,hi⟩ n))):=spHas_any ⟨lo,hi⟩ n w
theorem spWithin_agg(lo hi lo2 hi2:BitVec 64)(w:World):Calls Tryz.prog 127 #[.agg #[W64 lo,W64 hi],.agg #[W64 lo2,W64 hi2]] w (Ret w (.bool (T.Sp.within ⟨lo,hi⟩ ⟨lo2,hi2⟩))):=spWithin_any ⟨lo,hi⟩ ⟨lo2,hi2⟩ w
theorem spAllt_agg(w:World):Calls Tryz.prog 229 #[.bool true] w (Ret w (.agg #[W64 0#64,W64 4294967295#64])):=spAll_any true w
theorem nought_any(s:T.Sp)(b:Bool)(w:World):Calls Tryz.prog 167 #[spv s,.bool b] w (Ret w (.bool (T.nought s b))):=by
 obtain⟨lo,hi⟩:=s;unfold spv;have S1:=Hd (Since.alloc (Below.refl w.heap.size w) (.cells #[W64 lo,W64 hi] 122));have HV:=Hd (show T.nought ⟨lo,hi⟩ b=(T.Sp.has ⟨lo,hi⟩ 0#64||b && !T.Sp.within ⟨lo,hi⟩ ⟨0#64,4294967295#64⟩)from rfl);have c0:(w.alloc (.cells #[W64 lo,W64 hi] 122)).cell? ⟨w.heap.size,0,none⟩=some (W64 lo):=by rw[World.cell?_alloc_new];rfl
 have c1:(w.alloc (.cells #[W64 lo,W64 hi] 122)).cell? ⟨w.heap.size,1,none⟩=some (W64 hi):=by rw[World.cell?_alloc_new];rfl
 go_enter Tryz.func167,Tryz.ntmps167;go_upto_region 1 with fail;generalize w.alloc (.cells #[W64 lo,W64 hi] 122)=w1 at *;have r0:=cell_regrown c0;have r1:=cell_regrown c1;clear c0 c1;generalize hP:T.Sp.has ⟨lo,hi⟩ 0#64=P at *;have HP:=Hd hP;clear hP;generalize hQ:T.Sp.within ⟨lo,hi⟩ ⟨0#64,4294967295#64⟩=Q at *;have HQ:=Hd hQ;clear hQ;cases P<;>cases b<;>cases Q
 all_goals
  refine wp_region_quiet_below (by kernel_rfl) (by kernel_rfl) ?_
  repeat (refine @wpQuiet_step _ _ _ _ _ _ _ ?_; intro K hK; go_simp; first | (refine hK _ ?_; clear hK K) | (apply Exists.intro; refine ⟨fun _ => ?_, hK _ ?_⟩; (first | (with_reducible exact Ret.regrown (HP.o ▸ spHas_agg _ _ _ _)) | (with_reducible exact Ret.regrown (HQ.o ▸ spWithin_agg _ _ _ _ _)) | (with_reducible exact Ret.regrown (spAllt_agg _)) | fail "no arm"); clear hK K))
  refine wpQuiet_nil ?_;intro _ hw';obtain⟨⟨dq,osq⟩,hw''⟩:=hw';subst hw'';go_wp2;go_ret;exact⟨by rw[HV.o];rfl,S1.o.add (below_regrown w1 dq osq)⟩
end Go.Proofs.YtfeipbgnjainlaaGreatDoor.K
