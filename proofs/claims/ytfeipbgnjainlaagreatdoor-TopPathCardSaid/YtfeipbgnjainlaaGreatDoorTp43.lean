/- TExH, TRnA -/
import Derived.Test.YtfeipbgnjainlaaGreatDoorTp10
import Derived.Test.YtfeipbgnjainlaaGreatDoorTp2
import Derived.Test.YtfeipbgnjainlaaGreatDoorTp4
import Derived.Test.YtfeipbgnjainlaaGreatDoorTp42
import Derived.Test.YtfeipbgnjainlaaGreatDoorTp31
import Derived.Test.YtfeipbgnjainlaaGreatDoorTp20
set_option linter.unusedVariables false
set_option linter.unusedSimpArgs false
set_option maxRecDepth 100000
set_option maxHeartbeats 8000000
namespace Go.Proofs.YtfeipbgnjainlaaGreatDoor.K
open Go Go.RowKit Go.Maps Go.Sort
theorem fold_set{α:Type _}(f:Nat -> α)(k:Nat):∀(n:Nat) (s:List α),(List.range n).foldl (fun s j=>s.set (k+j) (f j)) s=s.mapIdx fun j x=>if k<=j/\j<k+n then f (j-k)else x
 | 0,s=>by
   refine List.ext_getElem? fun j=>?_
   have:∀x:α,(if k<=j/\j<k+0 then f (j-k)else x)=x:=fun x=>if_neg (by omega)
   rw[List.getElem?_mapIdx];simp only[this];show s[j]? = _
   cases s[j]? <;> rfl
 | n+1,s=>by
   rw[List.range_succ,List.foldl_append,fold_set f k n s];refine List.ext_getElem? fun j=>?_
   simp only[List.foldl_cons,List.foldl_nil,List.getElem?_set,List.length_mapIdx,List.getElem?_mapIdx];by_cases e:k+n=j
   ·subst e
    rw[if_pos rfl,Nat.add_sub_cancel_left];by_cases h:k+n<s.length
    ·rw[if_pos h,List.getElem?_eq_getElem h,Option.map_some,if_pos (by omega)]
    ·rw[if_neg h,List.getElem?_eq_none (by omega)];rfl
   ·rw[if_neg e]
    congr 1
    funext x
    by_cases h:k<=j/\j<k+n
    ·rw[if_pos h,if_pos (by omega)]
    ·rw[if_neg h,if_neg (by omega)]
def exMarks(s:List Bool)(k n:Nat):List Bool:=(List.range n).foldl (fun s j=>s.set (k+j) true) s
theorem exMarks_succ(s:List Bool)(k n:Nat):exMarks s k (n+1)=(exMarks s k n).set (k+n) true:=by
 unfold exMarks;rw[List.range_succ,List.foldl_append];rfl
theorem exMarks_len(s:List Bool)(k:Nat):∀n,(exMarks s k n).length=s.length
 | 0=>rfl
 | n+1=>by rw[exMarks_succ,List.length_set,exMarks_len s k n]
theorem exMarks_all(s:List Bool)(k n:Nat):exMarks s k n=T.setAll s k n:=by
 unfold exMarks T.setAll;rw[fold_set (fun _=>true)]
 congr 1
 funext j x
 by_cases h:k<=j/\j<k+n
 ·rw[if_pos h,decide_eq_true h.1,decide_eq_true h.2];simp
 ·rw[if_neg h]
  by_cases h1:k<=j
  ·rw[decide_eq_false (show ¬j<k+n by omega)];simp
  ·rw[decide_eq_false h1];simp
theorem Mok.set'{m:T.Mc}(h:Mok m){s:List Bool}(hs:s.length=512):Mok { m with set:=s }:=⟨h.rl,h.tl,hs⟩
theorem Mok.stk'{m:T.Mc}(h:Mok m){s:List T.B}(hs:s.length=512):Mok { m with stk:=s }:=⟨h.rl,hs,h.sl⟩
theorem mcL_stkSet{m:T.Mc}(h:Mok m)(pk vd:Value)(j:Nat)(hj:j<512)(b:T.B):(mcL m pk vd).set (22+j) (B8 b)=mcL { m with stk:=m.stk.set j b } pk vd:=by
 rw[mcL,List.set_append_right _ _ (by rw[rg22 h];omega),rg22 h,Nat.add_sub_cancel_left,List.set_append_left _ _ (by rw[List.length_map,h.tl];exact hj),<-List.map_set];rfl
theorem setsL_mcL{m:T.Mc}(h:Mok m)(pk vd:Value)(k size:Nat)(v:T.U)(hk:k+size<=512):∀n,n<=size->setsL (mcL m pk vd) 22 k size v (List.range n)=mcL { m with stk:=(List.range n).foldl (fun s j=>s.set (k+j) ((v >>> (8*(size-1-j))).setWidth 8)) m.stk } pk vd/\((List.range n).foldl (fun s j=>s.set (k+j) ((v >>> (8*(size-1-j))).setWidth 8)) m.stk).length=512
 | 0,_=>⟨rfl,h.tl⟩
 | n+1,hn=>by
   obtain⟨e1,e2⟩:=setsL_mcL h pk vd k size v hk n (by omega);rw[List.range_succ,setsL_snoc,e1,List.foldl_append];refine⟨?_,by simp only[List.foldl_cons,List.foldl_nil,List.length_set];exact e2⟩;rw[mcL_stkSet (h.stk' e2) pk vd (k+n) (by omega)];rfl
theorem setsL_puts{m:T.Mc}(h:Mok m)(pk vd:Value)(k size:Nat)(v:T.U)(hk:k+size<=512):setsL (mcL m pk vd) 22 k size v (List.range size)=mcL { m with stk:=T.puts m.stk k size v } pk vd:=by
 rw[(setsL_mcL h pk vd k size v hk size (Nat.le_refl _)).1,fold_set (fun j=>(v >>> (8*(size-1-j))).setWidth 8)];rfl
theorem exPut_ok{M:Nat}{m:T.Mc}{pk vd:Value}{w0 w:World}{L:List Acc}(i:T.Ins)(hB:Bank w0 w (boxAcc M 70 (mcL m pk vd)::L))(hok:Mok m)(hd:0<=i.dst/\i.dst<=10)(hsr:0<=i.src/\i.src<=10)(hsec:T.secErr i m=0)(hk:(m.reg i.dst).1≠0/\(m.reg i.dst).1≠1/\(m.reg i.dst).1≠2)(hb:(T.esecond i m).1=1)(hg:T.frameErr (m.reg i.dst).2 i=0)(hss:T.sized i.size=true):Calls Tryz.prog 58 #[.pointer (some ⟨M,0,none⟩),insV i] w (ExP w0 M { m with set:=T.setAll m.set (((m.reg i.dst).2+T.wide i.off).toInt+512).toNat i.size.toNat,stk:=T.puts m.stk (((m.reg i.dst).2+T.wide i.off).toInt+512).toNat i.size.toNat (T.esecond i m).2 } pk vd L):=by
 have hda:=hk.1;have HF:=fun w=>exFrame_ok (m.reg i.dst).2 i w hg hss
 obtain⟨g1,g2⟩:=frameErr_in hg;have gs:=T.sized_cases hss;obtain⟨k,hkk⟩:=Int.eq_ofNat_of_zero_le g1;obtain⟨sz,hsz⟩:∃sz:Nat,i.size=(sz:Int):=⟨i.size.toNat,by omega⟩
 rw[hkk]at HF;rw[hkk,hsz];rw[Int.toNat_natCast,Int.toNat_natCast];have gz:1<=sz/\sz<=8:=by omega
 have gk:k+sz<=512:=by omega
 have HTS:=fun(w1 w:World) (L:List Acc) (m:T.Mc) (j:Nat) (v:T.U) (hm:Mok m) (hb:Bank w1 w L) (hi:L[j]?=some (boxAcc M 70 (mcL m pk vd)))=>pkSet_ok M 22 512 512 70 (mcL m pk vd) v k sz j hb hi (by rw[mcL_len hm];decide) (by decide) (by unfold T.getErr;rw[show T.sized (sz:Int)=true by rw[<-hsz];exact hss];rw[if_neg (by simp),if_neg (by omega)])
 have HTS:=Hd HTS;have hat:=stk_all;have GZ:=Hd gz;have GK:=Hd gk;clear hg hkk gs g1 g2 hss gz gk;have hzk:((m.reg i.dst).1==1)=false/\((m.reg i.dst).1==2)=false:=⟨by simpa using hk.2.1,by simpa using hk.2.2⟩
 clear hk;obtain⟨s,hsd⟩:=Int.eq_ofNat_of_zero_le hd.1;have s1:s<11:=by have:=hd.2;omega
 have hda':s<11/\(m.reg (s:Int)).1≠0:=⟨s1,by rw[<-hsd];exact hda⟩
 have hSEC:=fun Y w1 hM hA=>exSecond_ok M m pk vd i (some ⟨Y,0,none⟩) 1 [s] w1 hok hM rfl (by decide) (fun h=>by cases h) hA (fun r hr=>by rw[List.mem_singleton]at hr;subst hr;exact hda') hsr hsec
 have hrd:=hsd▸hd;obtain⟨qk,hqk⟩:∃q,(T.esecond i m).1=q:=⟨_,rfl⟩
 obtain⟨qn,hqn⟩:∃q,(T.esecond i m).2=q:=⟨_,rfl⟩
 obtain⟨z,hz⟩:∃z,m.reg i.dst=z:=⟨_,rfl⟩
 obtain⟨zk,zn⟩:=z;rw[hqk,hqn]at hSEC;have HSEC:=Hd hSEC;clear hSEC;simp only[hqk,hqn,hz]at hzk hb HF ⊢;obtain⟨op,nr,dst,src,u,off,imm,size⟩:=i;simp only at hsd hz hzk hb HF hsz ⊢;subst hsd;have j0:(0:Int)<=(s:Int):=by omega
 have j1:(s:Int)<(11:Int):=by omega
 have HE:=mcL_reg hok pk vd s s1;rw[hz]at HE;have HE:=Hd HE;have HZK:=Hd hz;clear hd hrd hda hda' hsr hsec hqk hqn hz;subst hb;subst hsz;obtain⟨e1,e2⟩:=hzk;have HFF:=Hd HF;clear HF;unfold insV insL;have BK0:=Hd (hB.bx [.int .u8 op,.bool nr,.int .i64 (s:Int),.int .i64 src,.bool u,.int .i64 off,.int .i64 imm,.int .i64 (sz:Int)] 55);clear hB;go_enter Tryz.func58,Tryz.ntmps58;go_upto_region 1 with fail;generalize w.heap.size=X at *;refine wp_hid BK0 (fun w1 BK0=>?_);obtain⟨i0,i1,i2,i3,i4,i5,i6,i7⟩:=BK0.o.q8 0 rfl;go_wp2_with fail;have BK1:=Hd (BK0.o.bx [.int .i64 (s:Int)] 3);have n0:=(BK1.o.cl 0 0)
 have hM:=fun j v (hj:(mcL m pk vd)[j]?=some v)=>BK1.o.cell 2 rfl j hj
 generalize w1.heap.size=Y at *;generalize w1.alloc (.cells #[.int .i64 (s:Int)] 3)=w2 at *;refine(HSEC.o Y w2 hM (fun j r hr=>⟨Y,0,rfl,by cases j with|zero=>cases hr;exact n0|succ j=>cases hr⟩)).mono ?_;rintro e w3 ⟨rfl,hs⟩;have BK2:=Hd (BK1.o.call hs);clear hs n0 hM BK0 BK1 HSEC i0 i1 i2 i3 i4 i5 i6 i7;go_upto_region 2 with fail;have BK3:=Hd (BK2.o.bx [.int .u8 1,W64 qn] 64);generalize w3.heap.size=Z at *;refine wp_hid BK3 (fun w4 BK3=>?_);clear BK2;have BKa:=Hd BK3.o.drew;refine WL.begin 8 (fun w'=>w'.cell? ⟨X,2,none⟩=some (.int .i64 (s:Int))/\w'.cell? ⟨M,s*2,none⟩=some (.int .u8 zk)/\w'.cell? ⟨M,s*2+1,none⟩=some (W64 zn)) (fun _=>True) (by kernel_rfl) ⟨BKa.o.cl 2 2,BKa.o.cell 3 rfl (s*2) HE.o.1,BKa.o.cell 3 rfl (s*2+1) HE.o.2⟩ trivial (fun hs=>?_);generalize w4.drew=wa at *;refine WL.tk [(0,[]),(1,[]),(2,[2]),(3,[]),(4,[]),(5,[]),(6,[6])] hs ?_;clear hs
 iterate 7
  (first|refine WLp ?_ ?_ ?_|refine WLl ?_ ?_ ?_);rotate_left
  ·intro w hc;go_simp<;>rfl
  simp only[Act.put,sA,sZ,sS]
 refine TKs.mk ?_;intro hs;refine WLo 7 hs ?_;clear hs;intro K hK;go_simp;have BKb:=Hd (BKa.o.bx [.int .u8 0,W64 0#64] 64);refine hK.o _ _ (SApp.intro (fun _=>⟨BKb.o.cl 3 2,BKb.o.cell 4 rfl (s*2) HE.o.1,BKb.o.cell 4 rfl (s*2+1) HE.o.2⟩) trivial) ?_;generalize wa.heap.size=V at *;generalize(wa.alloc (.cells #[.int .u8 0,W64 0#64] 64))=wb at *;clear hK K;intro hs;try simp only[Act.put,sA,sZ,sS]
 refine WLo 8 hs ?_;clear hs;intro K hK;obtain⟨r0,r1,fr0,fr1⟩:=BKb.o.r2 0 rfl;go_simp;have BKv:=Hd ((BKb.o.bs 0 0 (.int .u8 zk)).bs 0 1 (W64 zn));clear r0 r1 fr0 fr1;refine hK.o _ _ SaF ?_;clear hK K;intro hs;try simp only[Act.put]
 clear hs;refine WLd ?_ _;try simp only[Exit.then]
 generalize((wb.setCell ⟨V,0,none⟩ (.int .u8 zk)).setCell ⟨V,1,none⟩ (W64 zn))=wv at *;obtain⟨v0,v1⟩:=BKv.o.q2 0 rfl;have z0:=BKv.o.cl 1 0;obtain⟨i0,i1,i2,i3,i4,i5,i6,i7⟩:=BKv.o.q8 3 rfl;go_wp2_with fail;refine(HFF.o _).mono ?_;rintro e w7 ⟨rfl,hs⟩;have BK6:=Hd (BKv.o.call hs);clear hs v0 v1 z0 i0 i1 i2 i3 i4 i5 i6 i7 BKv;have i7:=BK6.o.cl 3 7;go_wp2_with fail;go_loopw [9,55] (fun v i wr=>∃j:Nat,j<=sz/\i=.int .i64 (j:Int)/\Bank w0 wr (boxAcc V 64 [.int .u8 zk,W64 zn]::boxAcc Z 64 [.int .u8 1,W64 qn]::boxAcc Y 3 [.int .i64 (s:Int)]::boxAcc X 55 [.int .u8 op,.bool nr,.int .i64 (s:Int),.int .i64 src,.bool u,.int .i64 off,.int .i64 imm,.int .i64 (sz:Int)]::boxAcc M 70 (mcL { m with set:=exMarks m.set k j } pk vd)::L)) (fun _ i _=>sz-(intOf i).toNat)
 case atStart=>exact⟨0,Nat.zero_le _,rfl,BK6.o⟩
 case round =>
  obtain⟨j,hj,rfl,hB⟩:=hrel;have BK7:=Hd hB;clear hB i7;have q0:(0:Int)<=(j:Int):=by omega
  have:=GZ.o;have:=GK.o;have hok1:Mok { m with set:=exMarks m.set k j }:=hok.set' (by rw[exMarks_len,hok.sl]);by_cases hlt:j<sz
  ·have q1:(j:Int)<(sz:Int):=by omega
   have kw:IntKind.i64.wrap ((k:Int)+(j:Int))=((k+j:Nat):Int):=by rw[IntWalk.i64_in _ (by omega)];omega
   have q2:(0:Int)<=((k+j:Nat):Int):=by omega
   have q3:((k+j:Nat):Int)<512:=by omega
   have c0:=BK7.o.cell 4 rfl (534+(k+j)) (mcL_set hok1 pk vd (k+j) (by omega));have f0:=BK7.o.free 4 rfl (534+(k+j));go_wp2;go_round
   case rel =>
    refine⟨j+1,by omega,by go_num,?_⟩;have h:=BK7.o.boxSet 4 rfl (534+(k+j)) (.bool true);rw[mcL_mark hok1 pk vd (k+j) (by omega)]at h;rw[exMarks_succ];exact h
   case measure=>simp[intOf];omega
  ·have q1:¬(j:Int)<(sz:Int):=by omega
   obtain rfl:j=sz:=by omega
   go_wp2_with fail;have i7:=BK7.o.cl 3 7;have z1:=BK7.o.cl 1 1;refine WL.begin 9 (fun w'=>w'.cell? ⟨X,7,none⟩=some (.int .i64 (j:Int))/\w'.cell? ⟨Z,1,none⟩=some (W64 qn)) (fun _=>True) (by kernel_rfl) ⟨i7,z1⟩ trivial (fun hs=>?_);have BKw:=Hd BK7.o.drew;generalize wr.drew=w8 at *;refine WL.tk [(0,[]),(1,[]),(2,[]),(3,[]),(4,[]),(5,[]),(6,[6]),(7,[]),(8,[8])] hs ?_;clear hs
   iterate 9
    (first|refine WLp ?_ ?_ ?_|refine WLl ?_ ?_ ?_);rotate_left
    ·intro w hc;go_simp<;>rfl
    simp only[Act.put,sA,sZ,sS]
   refine TKs.mk ?_;intro hs;refine WLo 9 hs ?_;clear hs;intro K hK;go_simp;refine(HTS.o _ _ _ _ 4 qn hok1 BKw.o rfl).mono ?_;rintro e w9 ⟨rfl,hb⟩;have BK8:=Hd hb;clear hb;refine hK.o _ _ SaF ?_;clear hK K;intro hs;try simp only[Act.put,sA,sZ,sS]
   refine WLo 10 hs ?_;clear hs;intro K hK;go_simp;refine hK.o _ _ SaF ?_;clear hK K;intro hs;try simp only[Act.put,sA,sZ,sS]
   clear hs;refine WLd ?_ _;try simp only[Exit.then]
   clear i7 z1;go_wp2;go_ret;refine⟨rfl,?_⟩;have h:=BK8.o.drop.drop.drop.drop;rw[setsL_puts hok1 pk vd k j qn (by have:=GK.o;omega),exMarks_all]at h;exact h
set_option maxRecDepth 100000
set_option maxHeartbeats 4000000
def flL(f:T.Fl):List Value:=[.int .u8 f.do',.int .u8 f.what,.bool f.narrow,.int .i64 f.d,.int .i64 f.a,.int .i64 f.b,W64 f.n,.int .i64 f.size,.int .i64 f.to]
def flV(f:T.Fl):Value:=.agg (flL f).toArray
def fmL(m:T.Fm)(pk st dn:Value):List Value:=m.regs.map W64++(m.stk.map B8 ++ [pk,.int .i64 (m.at':Int),st,dn])
structure Fok(m:T.Fm):Prop where
 rl:m.regs.length=16
 tl:m.stk.length=512
section
variable{m:T.Fm}(h:Fok m)(pk st dn:Value)
include h
theorem fmL_len:(fmL m pk st dn).length=532:=by simp[fmL,h.rl,h.tl]
theorem fmL_reg(r:Nat)(hr:r<16):(fmL m pk st dn)[r]?=some (W64 (m.reg (r:Int))):=by
 have hrl:r<m.regs.length:=by rw[h.rl];exact hr
 rw[fmL,List.getElem?_append_left (by rw[List.length_map];exact hrl),List.getElem?_map,List.getElem?_eq_getElem hrl];unfold T.Fm.reg;rw[Int.toNat_natCast,List.getD_eq_getElem?_getD,List.getElem?_eq_getElem hrl];rfl
theorem fmL_stk(j:Nat)(hj:j<512):(fmL m pk st dn)[16+j]?=some (B8 (m.stk.getD j 0)):=by
 rw[fmL,List.getElem?_append_right (by rw[List.length_map,h.rl];omega),List.length_map,h.rl,Nat.add_sub_cancel_left,List.getElem?_append_left (by rw[List.length_map,h.tl];exact hj),List.getElem?_map,List.getD_eq_getElem?_getD,List.getElem?_eq_getElem (by rw[h.tl];exact hj)];rfl
theorem fmL_end(j:Nat):(fmL m pk st dn)[528+j]? = [pk,.int .i64 (m.at':Int),st,dn][j]?:=by
 rw[fmL,List.getElem?_append_right (by rw[List.length_map,h.rl];omega),List.length_map,h.rl,show 528+j-16=512+j by omega,List.getElem?_append_right (by rw[List.length_map,h.tl];omega),List.length_map,h.tl,Nat.add_sub_cancel_left]
theorem fmL_put(r:Nat)(hr:r<16)(v:T.U):(fmL m pk st dn).set r (W64 v)=fmL (m.put (r:Int) v) pk st dn:=by
 rw[fmL,List.set_append_left _ _ (by rw[List.length_map,h.rl];exact hr),<-List.map_set];rfl
theorem fmL_tail(j:Nat)(v:Value):(fmL m pk st dn).set (528+j) v=m.regs.map W64++(m.stk.map B8++([pk,.int .i64 (m.at':Int),st,dn].set j v)):=by
 rw[fmL,List.set_append_right _ _ (by rw[List.length_map,h.rl];omega),List.length_map,h.rl,List.set_append_right _ _ (by rw[List.length_map,h.tl];omega),List.length_map,h.tl,show 528+j-16-512=j by omega]
theorem fmL_at(k:Nat):(fmL m pk st dn).set 529 (.int .i64 (k:Int))=fmL { m with at':=k } pk st dn:=fmL_tail h pk st dn 1 _
theorem fmL_st(v:Value):(fmL m pk st dn).set 530 v=fmL m pk v dn:=fmL_tail h pk st dn 2 v
theorem fmL_dn(v:Value):(fmL m pk st dn).set 531 v=fmL m pk st v:=fmL_tail h pk st dn 3 v
theorem fmL_stkSet(j:Nat)(hj:j<512)(b:T.B):(fmL m pk st dn).set (16+j) (B8 b)=fmL { m with stk:=m.stk.set j b } pk st dn:=by
 rw[fmL,List.set_append_right _ _ (by rw[List.length_map,h.rl];omega),List.length_map,h.rl,Nat.add_sub_cancel_left,List.set_append_left _ _ (by rw[List.length_map,h.tl];exact hj),<-List.map_set];rfl
theorem Fok.put(r:Int)(v:T.U):Fok (m.put r v):=⟨by simp[T.Fm.put,h.rl],h.tl⟩
theorem Fok.ats(k:Nat):Fok { m with at':=k }:=⟨h.rl,h.tl⟩
theorem Fok.stk'{s:List T.B}(hs:s.length=512):Fok { m with stk:=s }:=⟨h.rl,hs⟩
end
theorem setsL_fmL{m:T.Fm}(h:Fok m)(pk st dn:Value)(k size:Nat)(v:T.U)(hk:k+size<=512):∀n,n<=size->setsL (fmL m pk st dn) 16 k size v (List.range n)=fmL { m with stk:=(List.range n).foldl (fun s j=>s.set (k+j) ((v >>> (8*(size-1-j))).setWidth 8)) m.stk } pk st dn/\((List.range n).foldl (fun s j=>s.set (k+j) ((v >>> (8*(size-1-j))).setWidth 8)) m.stk).length=512
 | 0,_=>⟨rfl,h.tl⟩
 | n+1,hn=>by
   obtain⟨e1,e2⟩:=setsL_fmL h pk st dn k size v hk n (by omega);rw[List.range_succ,setsL_snoc,e1,List.foldl_append];refine⟨?_,by simp only[List.foldl_cons,List.foldl_nil,List.length_set];exact e2⟩;rw[fmL_stkSet (h.stk' e2) pk st dn (k+n) (by omega)];rfl
theorem setsL_putsF{m:T.Fm}(h:Fok m)(pk st dn:Value)(k size:Nat)(v:T.U)(hk:k+size<=512):setsL (fmL m pk st dn) 16 k size v (List.range size)=fmL { m with stk:=T.puts m.stk k size v } pk st dn:=by
 rw[(setsL_fmL h pk st dn k size v hk size (Nat.le_refl _)).1,fold_set (fun j=>(v >>> (8*(size-1-j))).setWidth 8)];rfl
theorem fm_stk{w:World}{R:Nat}{m:T.Fm}{pk st dn:Value}(hok:Fok m)(h:RdC w R (fmL m pk st dn)):RowRd w ⟨some ⟨R,16,none⟩,512,512⟩ m.stk :=
 ⟨fun k hk=>⟨R,16,rfl,h _ _ (by
  have h0:=fmL_stk hok pk st dn k (by rw[<-hok.tl];exact hk);rw[List.getD_eq_getElem?_getD,List.getElem?_eq_getElem hk]at h0
  exact h0)⟩,hok.tl,fun h=>by cases h⟩
def RnP(K:List (Nat×Obj))(w0:World)(R:Nat)(m:T.Fm)(pk st dn:Value)(L:List Acc)(e:Ending)(w':World):Prop:=e=.returned (.tuple #[])/\BankK K w0 w' (boxAcc R 78 (fmL m pk st dn)::L)
theorem rnSet_ok{K:List (Nat×Obj)}{R:Nat}{m:T.Fm}{pk st dn:Value}{w0 w:World}{L:List Acc}(f:T.Fl)(hB:BankK K w0 w (boxAcc R 78 (fmL m pk st dn)::L))(hok:Fok m)(hd:T.reg16 f.d):Calls Tryz.prog 64 #[.pointer (some ⟨R,0,none⟩),flV f] w (RnP K w0 R (m.put f.d f.n) pk st dn L):=by
 obtain⟨k,wh,nr,d,a,b,n,size,tt⟩:=f;simp only at *;obtain⟨d,rfl⟩:=Int.eq_ofNat_of_zero_le hd.1;have d1:d<16:=by have:=hd.2;omega
 have dj0:(0:Int)<=(d:Int):=by omega
 have dj1:(d:Int)<(16:Int):=by omega
 clear hd;unfold flV flL;have BK0:=Hd (hB.boxL [.int .u8 k,.int .u8 wh,.bool nr,.int .i64 (d:Int),.int .i64 a,.int .i64 b,W64 n,.int .i64 size,.int .i64 tt] 58 (by simp));clear hB;go_enter Tryz.func64,Tryz.ntmps64;go_upto_region 1 with fail;generalize w.heap.size=X at *
 first|refine wp_hid BK0 (fun w1 BK0=>?_)|refine wp_hidK BK0 (fun w1 BK0=>?_)
 have BKa:=Hd BK0.o.drew;refine WL.begin 8 (fun w'=>w'.cell? ⟨X,3,none⟩=some (.int .i64 (d:Int))/\w'.cell? ⟨X,6,none⟩=some (W64 n)) (fun _=>True) (by kernel_rfl) ⟨BKa.o.cell 0 rfl 3 rfl,BKa.o.cell 0 rfl 6 rfl⟩ trivial (fun hs=>?_);generalize w1.drew=w2 at *;refine WL.tk [(0,[]),(1,[]),(2,[2]),(3,[]),(4,[4]),(5,[]),(6,[]),(7,[])] hs ?_;clear hs
 iterate 8
  (first|refine WLp ?_ ?_ ?_|refine WLl ?_ ?_ ?_);rotate_left
  ·intro w hc;go_simp<;>rfl
  simp only[Act.put,sA,sZ,sS]
 refine TKs.mk ?_;intro hs;refine WLo 8 hs ?_;clear hs;intro K hK;have c0:=BKa.o.cell 1 rfl d (fmL_reg hok _ _ _ d d1);have f0:=BKa.o.free 1 rfl d;simp only[W64];go_simp;have BKb:=Hd (BKa.o.boxSet 1 rfl d (W64 (n)));clear c0 f0;refine hK.o _ _ SaF ?_;clear hK K;intro hs;try simp only[Act.put]
 clear hs;refine WLd ?_ _;try simp only[Exit.then]
 go_wp2;go_end0;refine⟨rfl,?_⟩;have h:=BKb.o.drop;rw[fmL_put hok _ _ _ d d1]at h;exact h
theorem rnMove_ok{K:List (Nat×Obj)}{R:Nat}{m:T.Fm}{pk st dn:Value}{w0 w:World}{L:List Acc}(f:T.Fl)(hB:BankK K w0 w (boxAcc R 78 (fmL m pk st dn)::L))(hok:Fok m)(hd:T.reg16 f.d)(ha:T.reg16 f.a):Calls Tryz.prog 65 #[.pointer (some ⟨R,0,none⟩),flV f] w (RnP K w0 R (m.put f.d (m.reg f.a)) pk st dn L):=by
 obtain⟨k,wh,nr,d,a,b,n,size,tt⟩:=f;simp only at *;obtain⟨d,rfl⟩:=Int.eq_ofNat_of_zero_le hd.1;have d1:d<16:=by have:=hd.2;omega
 have dj0:(0:Int)<=(d:Int):=by omega
 have dj1:(d:Int)<(16:Int):=by omega
 clear hd;obtain⟨a,rfl⟩:=Int.eq_ofNat_of_zero_le ha.1;have a1:a<16:=by have:=ha.2;omega
 have aj0:(0:Int)<=(a:Int):=by omega
 have aj1:(a:Int)<(16:Int):=by omega
 clear ha;unfold flV flL;have BK0:=Hd (hB.boxL [.int .u8 k,.int .u8 wh,.bool nr,.int .i64 (d:Int),.int .i64 (a:Int),.int .i64 b,W64 n,.int .i64 size,.int .i64 tt] 58 (by simp));clear hB;go_enter Tryz.func65,Tryz.ntmps65;go_upto_region 1 with fail;generalize w.heap.size=X at *
 first|refine wp_hid BK0 (fun w1 BK0=>?_)|refine wp_hidK BK0 (fun w1 BK0=>?_)
 have BKa:=Hd BK0.o.drew;refine WL.begin 13 (fun w'=>w'.cell? ⟨X,3,none⟩=some (.int .i64 (d:Int))/\w'.cell? ⟨X,4,none⟩=some (.int .i64 (a:Int))/\w'.cell? ⟨R,a,none⟩=some (W64 (m.reg (a:Int)))) (fun _=>True) (by kernel_rfl) ⟨BKa.o.cell 0 rfl 3 rfl,BKa.o.cell 0 rfl 4 rfl,BKa.o.cell 1 rfl a (fmL_reg hok _ _ _ a a1)⟩ trivial (fun hs=>?_);generalize w1.drew=w2 at *;refine WL.tk [(0,[]),(1,[]),(2,[2]),(3,[]),(4,[]),(5,[5]),(6,[]),(7,[]),(8,[]),(9,[9]),(10,[]),(11,[]),(12,[])] hs ?_;clear hs
 iterate 13
  (first|refine WLp ?_ ?_ ?_|refine WLl ?_ ?_ ?_);rotate_left
  ·intro w hc;go_simp<;>rfl
  simp only[Act.put,sA,sZ,sS]
 refine TKs.mk ?_;intro hs;refine WLo 13 hs ?_;clear hs;intro K hK;have c0:=BKa.o.cell 1 rfl d (fmL_reg hok _ _ _ d d1);have f0:=BKa.o.free 1 rfl d;simp only[W64];go_simp;have BKb:=Hd (BKa.o.boxSet 1 rfl d (W64 (m.reg (a:Int))));clear c0 f0;refine hK.o _ _ SaF ?_;clear hK K;intro hs;try simp only[Act.put]
 clear hs;refine WLd ?_ _;try simp only[Exit.then]
 go_wp2;go_end0;refine⟨rfl,?_⟩;have h:=BKb.o.drop;rw[fmL_put hok _ _ _ d d1]at h;exact h
theorem rnEnd_ok{K:List (Nat×Obj)}{R:Nat}{m:T.Fm}{pk st dn:Value}{w0 w:World}{L:List Acc}(f:T.Fl)(hB:BankK K w0 w (boxAcc R 78 (fmL m pk st dn)::L))(hok:Fok m):Calls Tryz.prog 72 #[.pointer (some ⟨R,0,none⟩),flV f] w (RnP K w0 R m pk st (.bool true) L):=by
 obtain⟨k,wh,nr,d,a,b,n,size,tt⟩:=f;unfold flV flL;have BK0:=Hd (hB.boxL [.int .u8 k,.int .u8 wh,.bool nr,.int .i64 d,.int .i64 a,.int .i64 b,W64 n,.int .i64 size,.int .i64 tt] 58 (by simp));clear hB;go_enter Tryz.func72,Tryz.ntmps72;go_upto_region 1 with fail;generalize w.heap.size=X at *
 first|refine wp_hid BK0 (fun w1 BK0=>?_)|refine wp_hidK BK0 (fun w1 BK0=>?_)
 have c0:=BK0.o.cell 1 rfl 531 (fmL_end hok _ _ _ 3);have f0:=BK0.o.free 1 rfl 531;have BKb:=Hd (BK0.o.boxSet 1 rfl 531 (.bool true));go_wp2;go_end0;refine⟨rfl,?_⟩;have h:=BKb.o.drop;rw[fmL_dn hok]at h;exact h
theorem rnJump_ok{K:List (Nat×Obj)}{R:Nat}{m:T.Fm}{pk st dn:Value}{w0 w:World}{L:List Acc}(f:T.Fl)(hB:BankK K w0 w (boxAcc R 78 (fmL m pk st dn)::L))(hok:Fok m)(t:Nat)(ht:f.to=(t:Int)):Calls Tryz.prog 70 #[.pointer (some ⟨R,0,none⟩),flV f] w (RnP K w0 R { m with at':=t } pk st dn L):=by
 obtain⟨k,wh,nr,d,a,b,n,size,tt⟩:=f;simp only at ht;subst ht;unfold flV flL;have BK0:=Hd (hB.boxL [.int .u8 k,.int .u8 wh,.bool nr,.int .i64 d,.int .i64 a,.int .i64 b,W64 n,.int .i64 size,.int .i64 (t:Int)] 58 (by simp));clear hB;go_enter Tryz.func70,Tryz.ntmps70;go_upto_region 1 with fail;generalize w.heap.size=X at *
 first|refine wp_hid BK0 (fun w1 BK0=>?_)|refine wp_hidK BK0 (fun w1 BK0=>?_)
 have c0:=BK0.o.cell 1 rfl 529 (fmL_end hok _ _ _ 1);have f0:=BK0.o.free 1 rfl 529;have x8:=BK0.o.cell 0 rfl 8 rfl;have BKb:=Hd (BK0.o.boxSet 1 rfl 529 (.int .i64 (t:Int)));go_wp2;go_end0;refine⟨rfl,?_⟩;have h:=BKb.o.drop;rw[fmL_at hok]at h;exact h
theorem rnMust_ok(w:World):Calls Tryz.prog 111 #[.int .i64 0] w fun e w'=>e=.returned (.tuple #[])/\w'=w:=by
 go_enter Tryz.func111,Tryz.ntmps111;go_wp2;go_end0;exact⟨rfl,rfl⟩
theorem rnFar_ok(R:Nat)(m:T.Fm)(pk st dn:Value)(f:T.Fl)(w:World)(hok:Fok m)(hR:RdC w R (fmL m pk st dn))(ha:T.reg16 f.a)(K:Int)(hK:(m.reg f.a+f.n).toInt=K):Calls Tryz.prog 112 #[.pointer (some ⟨R,0,none⟩),flV f] w (Ret w (.int .i64 K)):=by
 obtain⟨k,wh,nr,d,a,b,n,size,tt⟩:=f;simp only at *;obtain⟨a,rfl⟩:=Int.eq_ofNat_of_zero_le ha.1;have a1:a<16:=by have:=ha.2;omega
 have aj0:(0:Int)<=(a:Int):=by omega
 have aj1:(a:Int)<(16:Int):=by omega
 clear ha;have hcv:=fun w (y:BitVec 64)=>conv_W64_S64 (P:=Tryz.prog) (src:=39) (dst:=2) (w:=w) y Tryz.underlying39 Tryz.underlying2
 have hS:S64 (m.reg (a:Int)+n)=.int .i64 K:=by unfold S64;rw[hK]
 have hB:=Bank.nil (Below.refl w.heap.size w);clear hK;unfold flV flL;have BK0:=Hd (hB.boxL [.int .u8 k,.int .u8 wh,.bool nr,.int .i64 d,.int .i64 (a:Int),.int .i64 b,W64 n,.int .i64 size,.int .i64 tt] 58 (by simp));clear hB;go_enter Tryz.func112,Tryz.ntmps112;go_upto_region 1 with fail;generalize w.heap.size=X at *
 first|refine wp_hid BK0 (fun w1 BK0=>?_)|refine wp_hidK BK0 (fun w1 BK0=>?_)
 have ra:=BK0.o.since.keep (hR _ _ (fmL_reg hok pk st dn a a1));refine WL.begin 99 (fun _=>True) (fun w'=>w'.cell? ⟨X,4,none⟩=some (.int .i64 (a:Int))/\w'.cell? ⟨X,6,none⟩=some (W64 n)/\w'.cell? ⟨R,a,none⟩=some (W64 (m.reg (a:Int)))) (by kernel_rfl) trivial ⟨BK0.o.cell 0 rfl 4 rfl,BK0.o.cell 0 rfl 6 rfl,ra⟩ (fun hs=>?_);refine WL.tk [(0,[]),(1,[]),(2,[]),(3,[]),(4,[]),(5,[]),(6,[]),(7,[]),(8,[]),(9,[])] hs ?_;clear hs
 iterate 10
  (first|refine WLp ?_ ?_ ?_|refine WLl ?_ ?_ ?_);rotate_left
  ·intro w hc;go_simp<;>rfl
  simp only[Act.put,sA,sZ,sS]
 refine TKs.mk ?_;intro hs;refine WLo 10 hs ?_;clear hs;intro K hK;go_simp;refine hK.o _ _ (SaT ⟨BK0.o.cell 0 rfl 4 rfl,BK0.o.cell 0 rfl 6 rfl,BK0.o.since.keep (hR _ _ (fmL_reg hok pk st dn a a1))⟩) ?_;clear hK K;intro hs;try simp only[Act.put,sA,sZ,sS]
 clear hs;refine WLd ?_ _;try simp only[Exit.then]
 go_wp2;go_ret;exact⟨rfl,BK0.o.since.drew⟩
theorem rnCell_ok(R:Nat)(m:T.Fm)(pk st dn:Value)(f:T.Fl)(w:World)(hok:Fok m)(hR:RdC w R (fmL m pk st dn))(ha:T.reg16 f.a)(hs:T.sized f.size=true)(q:Nat)(hK:(m.reg f.a+f.n).toInt+512=(q:Int))(hq:(q:Int)<=512-f.size):Calls Tryz.prog 113 #[.pointer (some ⟨R,0,none⟩),flV f] w (Ret w (.int .i64 (q:Int))):=by
 have HF:=Hd (fun w hR=>rnFar_ok R m pk st dn f w hok hR ha ((q:Int)-512) (by omega));have hsz:=T.sized_cases hs;obtain⟨k,wh,nr,d,a,b,n,size,tt⟩:=f;simp only at *;have hB:=Bank.nil (Below.refl w.heap.size w);have k1:¬((q:Int)-512 < -512):=by omega
 have k2:¬(-size<(q:Int)-512):=by omega
 have kw:IntKind.i64.wrap (-size) = -size:=IntWalk.i64_in _ (by omega);have kq:IntKind.i64.wrap (q:Int)=(q:Int):=IntWalk.i64_in _ (by omega);clear hK hq hsz hs ha;unfold flV flL;have BK0:=Hd (hB.boxL [.int .u8 k,.int .u8 wh,.bool nr,.int .i64 d,.int .i64 a,.int .i64 b,W64 n,.int .i64 size,.int .i64 tt] 58 (by simp));clear hB;go_enter Tryz.func113,Tryz.ntmps113;go_upto_region 1 with fail;generalize w.heap.size=X at *
 first|refine wp_hid BK0 (fun w1 BK0=>?_)|refine wp_hidK BK0 (fun w1 BK0=>?_)
 have BKa:=Hd BK0.o.drew;refine WL.begin 4 (fun w'=>w'.cell? ⟨X,0,none⟩=some (.int .u8 k)/\w'.cell? ⟨X,1,none⟩=some (.int .u8 wh)/\w'.cell? ⟨X,2,none⟩=some (.bool nr)/\w'.cell? ⟨X,3,none⟩=some (.int .i64 d)/\w'.cell? ⟨X,4,none⟩=some (.int .i64 a)/\w'.cell? ⟨X,5,none⟩=some (.int .i64 b)/\w'.cell? ⟨X,6,none⟩=some (W64 n)/\w'.cell? ⟨X,7,none⟩=some (.int .i64 size)/\w'.cell? ⟨X,8,none⟩=some (.int .i64 tt)) (fun _=>True) (by kernel_rfl) ⟨BKa.o.cell 0 rfl 0 rfl,BKa.o.cell 0 rfl 1 rfl,BKa.o.cell 0 rfl 2 rfl,BKa.o.cell 0 rfl 3 rfl,BKa.o.cell 0 rfl 4 rfl,BKa.o.cell 0 rfl 5 rfl,BKa.o.cell 0 rfl 6 rfl,BKa.o.cell 0 rfl 7 rfl,BKa.o.cell 0 rfl 8 rfl⟩ trivial (fun hs=>?_);generalize w1.drew=w2 at *;refine WL.tk [(0,[]),(1,[]),(2,[]),(3,[3])] hs ?_;clear hs
 iterate 4
  (first|refine WLp ?_ ?_ ?_|refine WLl ?_ ?_ ?_);rotate_left
  ·intro w hc;go_simp<;>rfl
  simp only[Act.put,sA,sZ,sS]
 refine TKs.mk ?_;intro hs;refine WLo 4 hs ?_;clear hs;intro K hK;go_simp;refine(HF.o _ (fun j v hj=>BKa.o.since.keep (hR j v hj))).mono ?_;rintro e w7 ⟨rfl,hs⟩;have BKb:=Hd (BKa.o.call hs);clear hs;refine hK.o _ _ SaF ?_;clear hK K;intro hs;try simp only[Act.put,sA,sZ,sS]
 refine WLo 5 hs ?_;clear hs;intro K hK;go_simp;refine hK.o _ _ SaF ?_;clear hK K;intro hs;try simp only[Act.put,sA,sZ,sS]
 clear hs;refine WLd ?_ _;try simp only[Exit.then]
 have x7:=BKb.o.cell 0 rfl 7 rfl;go_wp2;go_ret;exact⟨rfl,BKb.o.since⟩
end Go.Proofs.YtfeipbgnjainlaaGreatDoor.K
