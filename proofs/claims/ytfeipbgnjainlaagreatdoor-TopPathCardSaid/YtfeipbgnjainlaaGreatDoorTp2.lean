/- Hd0, Lent, TAlu, TSpan, TSpan2, TIf, HeldL, TWL, Al2, TWP -/
import Derived.Lib.Hide
import Derived.Test.YtfeipbgnjainlaaGreatDoorTp1
import GoSem.ClaimData
import Derived.OrdersHeld
import Derived.Deep.RegionHeld
import Derived.Defers
set_option linter.unusedVariables false
set_option linter.unusedSimpArgs false
namespace Go.Proofs.YtfeipbgnjainlaaGreatDoor.K
theorem Hd{p:Prop}(h:p):RowKit.Hid p:=Lib.hid h
theorem _root_.Go.RowKit.Hid.o{p:Prop}(h:RowKit.Hid p):p:=h.out
end Go.Proofs.YtfeipbgnjainlaaGreatDoor.K
namespace Go.Proofs.YtfeipbgnjainlaaGreatDoor.K
open Go Go.RowKit
theorem infoByte:(Tryz.prog.info? 5).map (fun i=>(i.zero,i.size,i.bytes))=some (some (.int .u8 0),1,1):=by kernel_rfl
def marks(k i n:Nat):List (BitVec 8):=(List.range n).map fun j=>markB k (i+j:Nat)
theorem marks_length(k i n:Nat):(marks k i n).length=n:=by simp[marks]
theorem marks_succ(k i n:Nat):marks k i (n+1)=marks k i n ++ [markB k (i+n:Nat)]:=by simp[marks,List.range_succ]
theorem cell_last(w:World)(v:Value)(t:TypeId):∀j u,[v][j]?=some u->(w.alloc (.cells #[v] t)).cell? ((⟨w.heap.size,0,none⟩:Addr).add j)=some u:=by
 intro j u hu
 match j,hu with
 | 0,hu=>simp at hu;subst hu;simp[Addr.add]
set_option maxHeartbeats 400000 in
theorem LentBytes_any(A:Option Addr)(n c:Nat)(bs:List (BitVec 8))(w:World)(hr:Rd w A bs)(hn:bs.length=n)(hn2:n<=140737488000000)(hnone:A=none->c=0):
  Calls Tryz.prog 7 #[.slice A n c] w fun e w'=>∃g,e=.returned (.slice (some ⟨g,0,none⟩) n (n+12))/\w.heap.size<=g /\
   w'.heap[g]?=some (.cells (bv (bs++marks 1 0 12)).toArray 5 (0,0))/\Below w.heap.size w w':=by
 obtain⟨i0,hi,hz0,hz1,hz2⟩:=info_parts infoByte;have hL:Hid ((bv bs).length=n*1):=by show _=_;rw[bv_length];omega
 have hnone':A=none->n=0/\c=0:=fun h=>⟨by subst h;rw[hr.empty]at hn;simpa using hn.symm,hnone h⟩
 have HN:=Hd hnone';have hcells:=hr.cells;have HC:=Hd hcells;clear hcells hnone hnone';have HR:=Hd hr;have HLEN:=Hd hn;clear hr hn;go_enter Tryz.func7,Tryz.ntmps7
 go_wp2_with (first
  | (at_make;refine wpList_make_own _ rfl _ _ 23 rfl w.heap.size 5 i0 (.int .u8 0) 1 Tryz.underlying23 hi hz0 hz1 _ _ _ (n+12) rfl rfl (by omega) (by rw[hz2];omega) (by unfold maxLen;omega) (Nat.le_refl _) ?_;intro w1 hown1 hgrow1)
  | (at_builtin;refine wpList_append_fits_any _ rfl _ _ 23 rfl w.heap.size 5 i0 1 Tryz.underlying23 hi hz1 w.heap.size 0 (n+12) [] rfl hown1 A n c (bv bs) rfl hL.o HN.o (fun ad had j u hu=>hgrow1.cell (HC.o ad had j u hu) (by simp)) (bv_one bs) (by omega) ?_;intro w2 hown2 hgrow2))
 have hb2:Below w.heap.size w w2:=((Below.refl _ _).grown hgrow1 (Nat.le_refl _) (by simp)).grown hgrow2 hgrow1.size (by simp);clear hgrow1 hown1 hgrow2
 go_loopw [3,4] (fun v i wr=>∃k:Nat,k<=12/\i=.int .i64 k/\v=.slice (some ⟨w.heap.size,0,none⟩) (n+k) (n+12) /\
   wr.ownsRow w.heap.size 5 1 (.slice (some ⟨w.heap.size,0,none⟩) (n+k) (n+12)) (n+k) (bv (bs++marks 1 0 k))/\Below w.heap.size w wr) (fun _ i _=>12-(intOf i).toNat)
 case atStart=>exact⟨0,by omega,rfl,rfl,by simpa [marks]using hown2,hb2⟩
 case round =>
  clear hown2 hb2;obtain⟨k,hk,rfl,rfl,hown,hb⟩:=hrel;by_cases hlt:k<12
  ·have i1:(k:Int)<12:=by omega
   go_wp2_with (first
    | (go_at_call 18;refine(markByte_any _ _ _).mono ?_;rintro e w' ⟨rfl,rfl⟩)
    | (at_builtin;refine wpList_append_fits _ rfl _ _ 23 rfl w.heap.size 5 i0 1 Tryz.underlying23 hi hz1 w.heap.size (n+k) (n+12) (bv (bs++marks 1 0 k)) rfl (hown.alloc _) ⟨wr.heap.size,0,none⟩ 1 1 [B8 (markB 1 k)] rfl rfl (cell_last _ _ _) (by intro u hu;simp at hu;subst hu;rfl) (by omega) ?_;intro w3 hown3 hgrow3))
   have hb3:Below w.heap.size w w3:=(hb.alloc hb.size _).grown hgrow3 (by have:=hb.size;simp;omega) (by simp);clear hgrow3 hb hown
   go_roundw
   case rel=>exact⟨k+1,by omega,by go_num,by rw[Nat.add_assoc],by rw[marks_succ,<-List.append_assoc,bv_append,<-Nat.add_assoc];simpa [bv]using hown3,hb3⟩
   case measure=>simp[intOf];omega
  ·obtain rfl:k=12:=by omega
   go_wp2;go_ret;have⟨h1,h2⟩:=own_full hown;exact⟨_,rfl,h1,h2,hb⟩
theorem kept_at{bs:List (BitVec 8)}{k i n j:Nat}(hj:j<n):(bs++marks k i n)[bs.length+j]?=some (markB k (i+j:Nat)):=by
 rw[List.getElem?_append_right (by omega)];simp[marks,hj]
set_option maxHeartbeats 400000 in
theorem KeptBytes_any(g:Nat)(A:Option Addr)(n c:Nat)(bs:List (BitVec 8))(w:World)(hg:w.heap[g]?=some (.cells (bv (bs++marks 1 0 12)).toArray 5 (0,0)))(hr:Rd w A bs)(hn:bs.length=n)(hn2:n<=140737488000000):
  Calls Tryz.prog 10 #[.slice (some ⟨g,0,none⟩) n (n+12),.slice A n c] w fun e w'=>e=.returned (.bool true)/\∃k,w'=w.drewN k:=by
 subst hn;have hR2:Rd w (some ⟨g,0,none⟩) (bs++marks 1 0 12):=Rd.of_block hg (by rw[<-bv_length,List.take_length]);have HG:=Hd hR2;clear hR2 hg;go_enter Tryz.func10,Tryz.ntmps10;go_wp2;go_loopw [6] (fun i wr=>∃k:Nat,k<=bs.length+12/\i=.int .i64 k/\∃q,wr=w.drewN q) (fun i _=>bs.length+12-(intOf i).toNat)
 case atStart=>exact⟨0,Nat.zero_le _,rfl,0,rfl⟩
 case round =>
  obtain⟨k,hk,rfl,q,rfl⟩:=hrel;have i0:(0:Int)<=(k:Int):=by omega
  rcases Nat.lt_or_ge k bs.length with h1|h1
  ·obtain⟨b,o,rfl,hcx⟩:=hr k (by omega)
   obtain⟨b',o',ea,hcy⟩:=HG.o k (by simp;omega);obtain⟨rfl,rfl⟩:g=b'/\0=o':=by simpa using ea
   rw[List.getElem_append_left (by omega)]at hcy;have hcy':w.cell? ⟨g,k,none⟩=some (B8 (bs[k]'(by omega))):=by simpa using hcy
   have i1:(k:Int)<(bs.length:Int):=by omega
   have d1:decide ((k:Int)<(bs.length:Int))=true:=by simpa using i1
   have d2:decide (bs.length<=k)=false:=by simp;omega
   have d3:decide (k<bs.length)=true:=by simp;omega
   have i2:(k:Int)<(bs.length:Int)+12:=by omega
   clear hcy ea hr;go_wp2
   go_quiet (fail)
   go_wp2
   go_roundw
   case rel=>exact⟨k+1,by omega,by go_num,_,rfl⟩
   case measure=>simp[intOf];omega
  ·rcases Nat.lt_or_ge k (bs.length+12)with h2|h2
   ·obtain⟨b',o',ea,hcy⟩:=HG.o k (by simp[marks_length];omega)
    obtain⟨rfl,rfl⟩:g=b'/\0=o':=by simpa using ea
    have e1:=kept_at (bs:=bs) (k:=1) (i:=0) (n:=12) (j:=k-bs.length) (by omega);rw[show bs.length+(k-bs.length)=k by omega,List.getElem?_eq_getElem (by simp[marks_length];omega)]at e1;rw[Option.some.inj e1]at hcy
    have hcy':w.cell? ⟨g,k,none⟩=some (B8 (markB 1 ((k:Int)-(bs.length:Int)))):=by
     rw[show((0+(k-bs.length):Nat):Int)=(k:Int)-(bs.length:Int)by omega]at hcy;simpa using hcy
    have i1:(bs.length:Int)<=(k:Int):=by omega
    have d1:decide (k<bs.length)=false:=by simp;omega
    have d2:decide (bs.length<=k)=true:=by simp;omega
    have i2:(k:Int)<(bs.length:Int)+12:=by omega
    clear hcy ea hr e1;go_wp2
    go_quiet ((go_at_call 18;exact q_add (markByte_any _ _ _)))
    go_wp2
    go_roundw
    case rel=>exact⟨k+1,by omega,by go_num,_,rfl⟩
    case measure=>simp[intOf];omega
   ·obtain rfl:k=bs.length+12:=by omega
    have i2:¬(((bs.length+12:Nat):Int)<(bs.length:Int)+12):=by omega
    go_wp2;go_ret;exact⟨rfl,_,rfl⟩
end Go.Proofs.YtfeipbgnjainlaaGreatDoor.K
namespace Go.Proofs.YtfeipbgnjainlaaGreatDoor.T
abbrev U:=BitVec 64
def adoN(n:Nat)(op:Int)(a b:BitVec n):BitVec n :=
 if op=1 then a+b else if op=2 then a-b else if op=3 then a*b else if op=4 then a/b else if op=5 then a % b
 else if op=6 then a &&& b else if op=7 then a ||| b else if op=8 then a ^^^ b
 else if op=9 then a <<< (b.toNat % n)else if op=10 then a >>> (b.toNat % n)else if op=11 then a.sshiftRight (b.toNat % n)
 else if op=12 then b else -a
def aerrN(n:Nat)(op:Int)(b:BitVec n):Int:=if(op=4\/op=5)/\b=0#n then 113 else if 1<=op/\op<=13 then 0 else 2
def low(a:U):BitVec 32:=a.setWidth 32
def ado(op:Int)(narrow:Bool)(a b:U):U:=if narrow then(adoN 32 op (low a) (low b)).setWidth 64 else adoN 64 op a b
def aerr(op:Int)(narrow:Bool)(b:U):Int:=if narrow then aerrN 32 op (low b)else aerrN 64 op b
def aisN(n:Nat)(op:Int)(a b:BitVec n):Bool :=
 if op=17 then a==b else if op=18 then a != b else if op=19 then b.ult a else if op=20 then b.ule a else if op=21 then a.ult b else if op=22 then a.ule b
 else if op=23 then b.slt a else if op=24 then b.sle a else if op=25 then a.slt b else if op=26 then a.sle b else if op=27 then(a &&& b) != 0#n else false
def ais(op:Int)(narrow:Bool)(a b:U):Bool:=if narrow then aisN 32 op (low a) (low b)else aisN 64 op a b
theorem low_toNat(a:U):(low a).toNat=a.toNat % 4294967296:=by simp[low]
structure Sp where
 lo:U
 hi:U
deriving DecidableEq
def half:U:=4294967295#64
def ones:U:=18446744073709551615#64
def Sp.right(s:Sp):Bool:=s.lo.ule s.hi
def Sp.has(s:Sp)(n:U):Bool:=s.lo.ule n&&n.ule s.hi
def Sp.within(s t:Sp):Bool:=t.lo.ule s.lo&&s.hi.ule t.hi
def umin(a b:U):U:=if b.ult a then b else a
def umax(a b:U):U:=if a.ult b then b else a
def Sp.join(s t:Sp):Sp:=⟨umin s.lo t.lo,umax s.hi t.hi⟩
def Sp.of(n:U):Sp:=⟨n,n⟩
def Sp.all(narrow:Bool):Sp:=⟨0,if narrow then half else ones⟩
def Sp.one(s:Sp):Bool:=s==Sp.of s.lo
theorem umin_toNat(a b:U):(umin a b).toNat=min a.toNat b.toNat:=by
 unfold umin;split<;>rename_i h<;>simp only[BitVec.ult,decide_eq_true_eq]at h<;>omega
theorem umax_toNat(a b:U):(umax a b).toNat=max a.toNat b.toNat:=by
 unfold umax;split<;>rename_i h<;>simp only[BitVec.ult,decide_eq_true_eq]at h<;>omega
theorem Sp.right_iff(s:Sp):s.right=true↔s.lo.toNat<=s.hi.toNat:=by simp[Sp.right,BitVec.ule]
theorem Sp.has_iff(s:Sp)(n:U):s.has n=true↔s.lo.toNat<=n.toNat/\n.toNat<=s.hi.toNat:=by simp[Sp.has,BitVec.ule]
theorem Sp.within_iff(s t:Sp):s.within t=true↔t.lo.toNat<=s.lo.toNat/\s.hi.toNat<=t.hi.toNat:=by simp[Sp.within,BitVec.ule]
theorem Sp.one_iff(s:Sp):s.one=true↔s.lo.toNat=s.hi.toNat:=by
 obtain⟨l,h⟩:=s;simp only[Sp.one,Sp.of,beq_iff_eq,Sp.mk.injEq,true_and];exact⟨fun e=>by rw[e],fun e=>BitVec.eq_of_toNat_eq e.symm⟩
def Sp.cut(s:Sp)(narrow:Bool):Sp:=if narrow then(if s.lo >>> 32 != s.hi >>> 32 then Sp.all true else⟨s.lo &&& half,s.hi &&& half⟩)else s
def ucut(narrow:Bool)(n:U):U:=if narrow then n &&& half else n
theorem and_half(n:U):(n &&& half).toNat=n.toNat % 4294967296:=by
 rw[BitVec.toNat_and,show half.toNat=2 ^ 32-1 by decide,Nat.and_two_pow_sub_one_eq_mod]
theorem and_ones(n:U):n &&& ones=n:=by
 apply BitVec.eq_of_toNat_eq;rw[BitVec.toNat_and,show ones.toNat=2 ^ 64-1 by decide,Nat.and_two_pow_sub_one_eq_mod];exact Nat.mod_eq_of_lt n.isLt
theorem shr32(n:U):(n >>> 32).toNat=n.toNat/4294967296:=by
 rw[BitVec.toNat_ushiftRight,Nat.shiftRight_eq_div_pow]
theorem ucut_toNat(narrow:Bool)(n:U):(ucut narrow n).toNat=if narrow then n.toNat % 4294967296 else n.toNat:=by
 unfold ucut;cases narrow
 ·rfl
 ·simp only[if_true];exact and_half n
theorem Sp.cut_has{s:Sp}{n:U}(narrow:Bool)(h:s.has n=true):(s.cut narrow).has (ucut narrow n)=true:=by
 rw[Sp.has_iff]at h ⊢;rw[ucut_toNat];unfold Sp.cut;cases narrow with
 | false=>simpa using h
 | true =>
   simp only[if_true];split
   ·simp only[Sp.all,if_true]
    rw[show(0:U).toNat=0 by rfl,show half.toNat=4294967295 by decide];omega
   ·rename_i hne
    have e:(s.lo >>> 32).toNat=(s.hi >>> 32).toNat:=by
     simp only[bne_iff_ne,ne_eq,Decidable.not_not]at hne;rw[hne]
    rw[shr32,shr32]at e;simp only[and_half];omega
theorem Sp.cut_le{s:Sp}(narrow:Bool)(h:s.right=true):(s.cut narrow).right=true/\(narrow=true->(s.cut narrow).hi.toNat<4294967296):=by
 rw[Sp.right_iff]at h;rw[Sp.right_iff];unfold Sp.cut;cases narrow with
 | false=>exact⟨by simpa using h,fun h=>by cases h⟩
 | true =>
   simp only[if_true];split
   ·simp only[Sp.all,if_true]
    rw[show(0:U).toNat=0 by rfl,show half.toNat=4294967295 by decide];exact⟨by omega,fun _=>by omega⟩
   ·rename_i hne
    have e:(s.lo >>> 32).toNat=(s.hi >>> 32).toNat:=by
     simp only[bne_iff_ne,ne_eq,Decidable.not_not]at hne;rw[hne]
    rw[shr32,shr32]at e;simp only[and_half];exact⟨by omega,fun _=>by omega⟩
structure Wk where
 a:Sp
 b:Sp
 narrow:Bool
def Wk.over(narrow:Bool)(a b:Sp):Wk:=⟨a.cut narrow,b.cut narrow,narrow⟩
def Wk.most(w:Wk):U:=if w.narrow then half else ones
def Wk.size(w:Wk):U:=if w.narrow then 32 else 64
def Wk.both(w:Wk):Bool:=w.a.one&&w.b.one
def Wk.ends(w:Wk)(lo hi:U):Sp:=⟨lo &&& w.most,hi &&& w.most⟩
def ulen(n:Nat):Nat:=if n=0 then 0 else n.log2+1
def fill(n:U):U:=1#64 <<< ulen n.toNat-1
def Wk.below(w:Wk)(n:U):Bool:=(n >>> (w.size-1).toNat) &&& 1==1
def Wk.mixed(w:Wk)(s:Sp):Bool:=w.below s.lo != w.below s.hi
def Wk.add(w:Wk):Option Sp:=if w.b.hi.ule (w.most-w.a.hi)||(w.most-w.a.lo).ult w.b.lo then some (w.ends (w.a.lo+w.b.lo) (w.a.hi+w.b.hi))else none
def Wk.sub(w:Wk):Option Sp:=if w.b.hi.ule w.a.lo||w.a.hi.ult w.b.lo then some (w.ends (w.a.lo-w.b.hi) (w.a.hi-w.b.lo))else none
def Wk.mul(w:Wk):Option Sp:=if w.a.hi.toNat*w.b.hi.toNat<18446744073709551616/\w.a.hi.toNat*w.b.hi.toNat<=w.most.toNat then some ⟨w.a.lo*w.b.lo,w.a.hi*w.b.hi⟩else none
def Wk.div(w:Wk):Option Sp:=some ⟨w.a.lo/umax w.b.hi 1,w.a.hi/umax w.b.lo 1⟩
def Wk.mod(w:Wk):Option Sp:=some (if w.a.hi.ult (umax w.b.lo 1)then w.a else⟨0,umin w.a.hi (umax w.b.hi 1-1)⟩)
def Wk.and(w:Wk):Option Sp:=some (if w.both then Sp.of (w.a.lo &&& w.b.lo)else⟨0,umin w.a.hi w.b.hi⟩)
def Wk.or(w:Wk):Option Sp:=some (if w.both then Sp.of (w.a.lo ||| w.b.lo)else⟨umax w.a.lo w.b.lo,fill (w.a.hi ||| w.b.hi)⟩)
def Wk.xor(w:Wk):Option Sp:=some (if w.both then Sp.of (w.a.lo ^^^ w.b.lo)else⟨0,fill (w.a.hi ||| w.b.hi)⟩)
def Wk.shl(w:Wk):Option Sp:=if w.b.one&&w.a.hi.ule (w.most >>> (w.b.lo % w.size).toNat)then some ⟨w.a.lo <<< (w.b.lo % w.size).toNat,w.a.hi <<< (w.b.lo % w.size).toNat⟩else none
def Wk.shr(w:Wk):Option Sp :=
 if w.b.one then some ⟨w.a.lo >>> (w.b.hi % w.size).toNat,w.a.hi >>> (w.b.lo % w.size).toNat⟩
 else if w.size.ule w.b.hi then some ⟨0,w.a.hi⟩else some ⟨w.a.lo >>> w.b.hi.toNat,w.a.hi >>> w.b.lo.toNat⟩
def Wk.sar(w:Wk):Option Sp:=if w.b.one && !w.mixed w.a then some ⟨ado 11 w.narrow w.a.lo w.b.lo,ado 11 w.narrow w.a.hi w.b.lo⟩else none
def Wk.neg(w:Wk):Option Sp:=if w.a.hi==0 then some w.a else if(0:U).ult w.a.lo then some (w.ends (-w.a.hi) (-w.a.lo))else none
def Wk.rule(w:Wk)(op:Int):Option Sp :=
 if op=1 then w.add else if op=2 then w.sub else if op=3 then w.mul else if op=4 then w.div else if op=5 then w.mod
 else if op=6 then w.and else if op=7 then w.or else if op=8 then w.xor
 else if op=9 then w.shl else if op=10 then w.shr else if op=11 then w.sar else if op=12 then some w.b else w.neg
def sdo(op:Int)(narrow:Bool)(a b:Sp):Sp:=if(1<=op/\op<=13)/\a.right=true/\b.right=true then((Wk.over narrow a b).rule op).getD (Sp.all narrow)else Sp.all narrow
theorem half_nat:half.toNat=4294967295:=by decide
theorem ones_nat:ones.toNat=18446744073709551615:=by decide
theorem Wk.most_nat(w:Wk):w.most.toNat=if w.narrow then 4294967295 else 18446744073709551615:=by
 unfold Wk.most;split<;>rfl
theorem Wk.and_most(w:Wk)(n:U):(n &&& w.most).toNat=if w.narrow then n.toNat % 4294967296 else n.toNat:=by
 unfold Wk.most;split
 ·exact and_half n
 ·rw[and_ones]
theorem Wk.size_nat(w:Wk):w.size.toNat=if w.narrow then 32 else 64:=by
 unfold Wk.size;split<;>rfl
def md(narrow:Bool):Nat:=if narrow then 4294967296 else 18446744073709551616
structure Wk.Fit(w:Wk)(x y:Nat):Prop where
 al:w.a.lo.toNat<=x
 ah:x<=w.a.hi.toNat
 bl:w.b.lo.toNat<=y
 bh:y<=w.b.hi.toNat
 na:w.a.hi.toNat<md w.narrow
 nb:w.b.hi.toNat<md w.narrow
def In(s:Option Sp)(n:Nat):Prop:=∀t,s=some t->t.lo.toNat<=n/\n<=t.hi.toNat
section
variable{w:Wk}{x y:Nat}
theorem Wk.add_in(h:w.Fit x y):In w.add ((x+y) % md w.narrow):=by
 obtain⟨h1,h2,h3,h4,h5,h6⟩:=h;intro t ht;unfold Wk.add at ht;split at ht
 ·rename_i hc
  cases ht
  have e1:=Wk.and_most w (w.a.lo+w.b.lo);have e2:=Wk.and_most w (w.a.hi+w.b.hi);simp only[Wk.ends];rw[e1,e2,BitVec.toNat_add,BitVec.toNat_add];simp only[Bool.or_eq_true,BitVec.ule,BitVec.ult,decide_eq_true_eq,BitVec.toNat_sub,Wk.most_nat]at hc;unfold md at *;have:=w.a.hi.isLt;have:=w.b.hi.isLt;cases hn:w.narrow<;>simp only[hn,if_true,if_false,Bool.false_eq_true]at hc h5 h6 ⊢ <;> omega
 ·cases ht
theorem Wk.sub_in(h:w.Fit x y):In w.sub ((md w.narrow-y+x) % md w.narrow):=by
 obtain⟨h1,h2,h3,h4,h5,h6⟩:=h;intro t ht;unfold Wk.sub at ht;split at ht
 ·rename_i hc
  cases ht
  have e1:=Wk.and_most w (w.a.lo-w.b.hi);have e2:=Wk.and_most w (w.a.hi-w.b.lo);simp only[Wk.ends];rw[e1,e2,BitVec.toNat_sub,BitVec.toNat_sub];simp only[Bool.or_eq_true,BitVec.ule,BitVec.ult,decide_eq_true_eq]at hc;unfold md at *;have:=w.a.hi.isLt;have:=w.b.hi.isLt;cases hn:w.narrow<;>simp only[hn,if_true,if_false,Bool.false_eq_true]at h5 h6 ⊢ <;> omega
 ·cases ht
theorem Wk.mul_in(h:w.Fit x y):In w.mul (x*y % md w.narrow):=by
 obtain⟨h1,h2,h3,h4,h5,h6⟩:=h;intro t ht;unfold Wk.mul at ht;split at ht
 ·rename_i hc
  cases ht
  have m1:=Nat.mul_le_mul h1 h3;have m2:=Nat.mul_le_mul h2 h4;obtain⟨c1,c2⟩:=hc;rw[Wk.most_nat]at c2
  have hx:x*y<md w.narrow:=by
   unfold md;cases hn:w.narrow<;>simp only[hn,if_true,if_false,Bool.false_eq_true]at c2 ⊢ <;> omega
  rw[Nat.mod_eq_of_lt hx,BitVec.toNat_mul,BitVec.toNat_mul,Nat.mod_eq_of_lt (by omega),Nat.mod_eq_of_lt (by omega)];exact⟨m1,m2⟩
 ·cases ht
theorem Wk.div_in(h:w.Fit x y)(hy:y≠0):In w.div (x/y):=by
 obtain⟨h1,h2,h3,h4,h5,h6⟩:=h;intro t ht;cases ht
 rw[BitVec.toNat_udiv,BitVec.toNat_udiv,umax_toNat,umax_toNat];rw[show(1:U).toNat=1 by rfl];refine⟨?_,?_⟩
 ·rw[Nat.max_eq_left (by omega)]
  exact Nat.div_le_div h1 h4 hy
 ·exact Nat.div_le_div h2 (by omega) (by omega)
theorem Wk.mod_in(h:w.Fit x y)(hy:y≠0):In w.mod (x % y):=by
 obtain⟨h1,h2,h3,h4,h5,h6⟩:=h;intro t ht;cases ht
 have hl:=Nat.mod_lt x (show 0<y by omega);have hle:=Nat.mod_le x y;split
 ·rename_i hc
  simp only[BitVec.ult,decide_eq_true_eq,umax_toNat]at hc;rw[show(1:U).toNat=1 by rfl]at hc;rcases Nat.eq_zero_or_pos w.b.lo.toNat with hb|hb
  ·have hx:x=0:=by omega
   subst hx;rw[Nat.zero_mod];omega
  ·rw[Nat.mod_eq_of_lt (by omega)]
   exact⟨h1,h2⟩
 ·refine⟨Nat.zero_le _,?_⟩
  rw[umin_toNat,BitVec.toNat_sub,umax_toNat,show(1:U).toNat=1 by rfl];have:=w.b.hi.isLt;have e:(2 ^ 64-1+max w.b.hi.toNat 1) % 2 ^ 64=max w.b.hi.toNat 1-1:=by omega
  rw[e];omega
theorem Wk.both_eq(h:w.Fit x y)(hb:w.both=true):x=w.a.lo.toNat/\y=w.b.lo.toNat:=by
 obtain⟨h1,h2,h3,h4,h5,h6⟩:=h;simp only[Wk.both,Bool.and_eq_true,Sp.one_iff]at hb;omega
theorem Wk.and_in(h:w.Fit x y):In w.and (x &&& y):=by
 intro t ht;cases ht
 split
 ·rename_i hb
  obtain⟨rfl,rfl⟩:=Wk.both_eq h hb;simp only[Sp.of,BitVec.toNat_and];exact⟨Nat.le_refl _,Nat.le_refl _⟩
 ·refine⟨Nat.zero_le _,?_⟩
  rw[umin_toNat];have:=@Nat.and_le_left x y;have:=@Nat.and_le_right x y;have:=h.ah;have:=h.bh;omega
theorem lt_ulen(n:Nat):n<2 ^ ulen n:=by
 unfold ulen;split
 ·omega
 ·rename_i h
  exact Nat.lt_log2_self
theorem ulen_le(n:Nat)(h:n<2 ^ 64):ulen n<=64:=by
 unfold ulen;split
 ·omega
 ·rename_i h0
  have:=(Nat.log2_lt h0).2 h;omega
theorem ulen_mono{m n:Nat}(h:m<=n):m<2 ^ ulen n:=Nat.lt_of_le_of_lt h (lt_ulen n)
theorem fill_nat(n:U):(fill n).toNat=2 ^ ulen n.toNat-1:=by
 have h:=ulen_le n.toNat n.isLt;unfold fill;rw[BitVec.toNat_sub,BitVec.toNat_shiftLeft,show(1#64).toNat=1 by rfl,Nat.shiftLeft_eq,Nat.one_mul,show(1:U).toNat=1 by rfl];rcases Nat.lt_or_ge (ulen n.toNat) 64 with h1|h1
 ·have h2:2 ^ ulen n.toNat<2 ^ 64:=Nat.pow_lt_pow_right (by omega) h1
  have h3:0<2 ^ ulen n.toNat:=Nat.two_pow_pos _;omega
 ·have e:ulen n.toNat=64:=by omega
  rw[e]
theorem or_fill(h:w.Fit x y):x<2 ^ ulen (w.a.hi ||| w.b.hi).toNat/\y<2 ^ ulen (w.a.hi ||| w.b.hi).toNat:=by
 rw[BitVec.toNat_or];have e1:=@Nat.left_le_or w.a.hi.toNat w.b.hi.toNat;have e2:=@Nat.right_le_or w.a.hi.toNat w.b.hi.toNat;exact⟨ulen_mono (Nat.le_trans h.ah e1),ulen_mono (Nat.le_trans h.bh e2)⟩
theorem Wk.or_in(h:w.Fit x y):In w.or (x ||| y):=by
 intro t ht;cases ht
 split
 ·rename_i hb
  obtain⟨rfl,rfl⟩:=Wk.both_eq h hb;simp only[Sp.of,BitVec.toNat_or];exact⟨Nat.le_refl _,Nat.le_refl _⟩
 ·rw[umax_toNat,fill_nat]
  have e1:=@Nat.left_le_or x y;have e2:=@Nat.right_le_or x y;have h1:=h.al;have h2:=h.bl;obtain⟨h3,h4⟩:=or_fill h;have h5:=Nat.or_lt_two_pow h3 h4;omega
theorem Wk.xor_in(h:w.Fit x y):In w.xor (x ^^^ y):=by
 intro t ht;cases ht
 split
 ·rename_i hb
  obtain⟨rfl,rfl⟩:=Wk.both_eq h hb;simp only[Sp.of,BitVec.toNat_xor];exact⟨Nat.le_refl _,Nat.le_refl _⟩
 ·rw[fill_nat]
  obtain⟨h3,h4⟩:=or_fill h;have h5:=Nat.xor_lt_two_pow h3 h4;exact⟨Nat.zero_le _,by show _<=2 ^ _-1;omega⟩
theorem urem_size(w:Wk)(n:U):(n % w.size).toNat=n.toNat % (if w.narrow then 32 else 64):=by rw[BitVec.toNat_umod,Wk.size_nat]
theorem Wk.shl_in(h:w.Fit x y):In w.shl (x*2 ^ (y % (if w.narrow then 32 else 64)) % md w.narrow):=by
 obtain⟨h1,h2,h3,h4,h5,h6⟩:=h;intro t ht;unfold Wk.shl at ht;split at ht
 ·rename_i hc
  cases ht
  simp only[Bool.and_eq_true,Sp.one_iff,BitVec.ule,decide_eq_true_eq,BitVec.toNat_ushiftRight]at hc;obtain⟨c1,c2⟩:=hc;have hy:y=w.b.lo.toNat:=by omega
  rw[urem_size]at c2;simp only[BitVec.toNat_shiftLeft,urem_size,Nat.shiftLeft_eq];rw[<-hy]at c2 ⊢;obtain⟨s,hs⟩:∃s,s=y % (if w.narrow then 32 else 64):=⟨_,rfl⟩
  rw[<-hs]at c2 ⊢;rw[Nat.shiftRight_eq_div_pow,Nat.le_div_iff_mul_le (Nat.two_pow_pos _),Wk.most_nat]at c2;have m1:=Nat.mul_le_mul_right (2 ^ s) h1;have m2:=Nat.mul_le_mul_right (2 ^ s) h2;unfold md;cases hn:w.narrow<;>simp only[hn,if_true,if_false,Bool.false_eq_true]at c2 ⊢
  ·rw[Nat.mod_eq_of_lt (by omega),Nat.mod_eq_of_lt (by omega),Nat.mod_eq_of_lt (by omega)]
   exact⟨m1,m2⟩
  ·rw[Nat.mod_eq_of_lt (by omega),Nat.mod_eq_of_lt (by omega),Nat.mod_eq_of_lt (by omega)]
   exact⟨m1,m2⟩
 ·cases ht
theorem Wk.shr_in(h:w.Fit x y):In w.shr (x/2 ^ (y % (if w.narrow then 32 else 64))):=by
 obtain⟨h1,h2,h3,h4,h5,h6⟩:=h;intro t ht;unfold Wk.shr at ht;split at ht
 ·rename_i hc
  cases ht
  rw[Sp.one_iff]at hc;have hy:y=w.b.lo.toNat:=by omega
  have hy2:y=w.b.hi.toNat:=by omega
  simp only[BitVec.toNat_ushiftRight,urem_size,Nat.shiftRight_eq_div_pow,<-hy,<-hy2];exact⟨Nat.div_le_div_right h1,Nat.div_le_div_right h2⟩
 ·split at ht
  ·cases ht
   exact⟨Nat.zero_le _,Nat.le_trans (Nat.div_le_self _ _) h2⟩
  ·rename_i hc
   cases ht
   simp only[BitVec.ule,decide_eq_true_eq,Wk.size_nat]at hc;rw[Nat.mod_eq_of_lt (by omega)];simp only[BitVec.toNat_ushiftRight,Nat.shiftRight_eq_div_pow];refine⟨?_,?_⟩
   ·exact Nat.div_le_div h1 (Nat.pow_le_pow_right (by omega) h4) (Nat.ne_of_gt (Nat.two_pow_pos _))
   ·exact Nat.div_le_div h2 (Nat.pow_le_pow_right (by omega) h3) (Nat.ne_of_gt (Nat.two_pow_pos _))
theorem Wk.neg_in(h:w.Fit x y):In w.neg ((md w.narrow-x) % md w.narrow):=by
 obtain⟨h1,h2,h3,h4,h5,h6⟩:=h;intro t ht;unfold Wk.neg at ht;split at ht
 ·rename_i hc
  cases ht
  have h0:w.a.hi.toNat=0:=by rw[beq_iff_eq]at hc;rw[hc];rfl
  have hx:x=0:=by omega
  subst hx;unfold md;split<;>omega
 ·split at ht
  ·rename_i hc
   cases ht
   simp only[BitVec.ult,decide_eq_true_eq]at hc;rw[show(0:U).toNat=0 by rfl]at hc;have e1:=Wk.and_most w (-w.a.hi);have e2:=Wk.and_most w (-w.a.lo);simp only[Wk.ends];rw[e1,e2,BitVec.toNat_neg,BitVec.toNat_neg];have:=w.a.hi.isLt;have:=w.a.lo.isLt;unfold md at *;cases hn:w.narrow<;>simp only[hn,if_true,if_false,Bool.false_eq_true]at h5 h6 ⊢ <;> omega
  ·cases ht
end
theorem sar_mono{n:Nat}(p q:BitVec n)(s:Nat)(h:p.toNat<=q.toNat)(hm:p.msb=q.msb):(p.sshiftRight s).toNat<=(q.sshiftRight s).toNat:=by
 cases hp:p.msb with
 | false =>
   rw[BitVec.sshiftRight_eq_of_msb_false hp,BitVec.sshiftRight_eq_of_msb_false (hm▸hp)];simp only[BitVec.toNat_ushiftRight,Nat.shiftRight_eq_div_pow];exact Nat.div_le_div_right h
 | true =>
   rw[BitVec.sshiftRight_eq_of_msb_true hp,BitVec.sshiftRight_eq_of_msb_true (hm▸hp)];simp only[BitVec.toNat_not,BitVec.toNat_ushiftRight,Nat.shiftRight_eq_div_pow];have h1:(2 ^ n-1-q.toNat)/2 ^ s<=(2 ^ n-1-p.toNat)/2 ^ s:=Nat.div_le_div_right (by omega);omega
theorem and_one_eq(n:U):((n &&& 1)==1)=decide (n.toNat % 2=1):=by
 rw[Bool.eq_iff_iff,beq_iff_eq,decide_eq_true_eq]
 have e:(n &&& 1).toNat=n.toNat % 2:=by
  rw[BitVec.toNat_and,show(1:U).toNat=2 ^ 1-1 by rfl,Nat.and_two_pow_sub_one_eq_mod]
 constructor
 ·intro h
  rw[h]at e;exact e.symm
 ·intro h
  apply BitVec.eq_of_toNat_eq;rw[e,h];rfl
theorem Wk.below_nat(w:Wk)(n:U)(h:n.toNat<md w.narrow):w.below n=decide (md w.narrow/2<=n.toNat):=by
 unfold Wk.below;rw[and_one_eq,BitVec.toNat_ushiftRight,Nat.shiftRight_eq_div_pow]
 have e:(w.size-1).toNat=if w.narrow then 31 else 63:=by
  unfold Wk.size;split<;>rfl
 rw[e];unfold md at *;cases hn:w.narrow<;>simp only[hn,if_true,if_false,Bool.false_eq_true]at h ⊢
 ·rw[decide_eq_decide];omega
 ·rw[decide_eq_decide];omega
theorem msb32(p:BitVec 32):p.msb=decide (2147483648<=p.toNat):=by rw[BitVec.msb_eq_decide]
theorem msb64(p:BitVec 64):p.msb=decide (9223372036854775808<=p.toNat):=by rw[BitVec.msb_eq_decide]
section
variable{w:Wk}{x y:Nat}{X Y:U}
theorem low_of(hX:(ucut true X).toNat=x):(low X).toNat=x:=by
 rw[low_toNat,<-hX,ucut_toNat];rfl
theorem wide32(p:BitVec 32):(p.setWidth 64).toNat=p.toNat:=by
 rw[BitVec.toNat_setWidth];exact Nat.mod_eq_of_lt (by have:=p.isLt;omega)
theorem Wk.sar_in(h:w.Fit x y)(hX:(ucut w.narrow X).toNat=x)(hY:(ucut w.narrow Y).toNat=y):In w.sar (ado 11 w.narrow X Y).toNat:=by
 intro t ht;unfold Wk.sar at ht;split at ht
 ·rename_i hc
  cases ht
  simp only[Bool.and_eq_true,Sp.one_iff,Bool.not_eq_true',Wk.mixed,bne_eq_false_iff_eq]at hc;obtain⟨c1,c2⟩:=hc;have hna:=h.na;have hnb:=h.nb;have h1:=h.al;have h2:=h.ah;have hy:y=w.b.lo.toNat:=by have:=h.bl;have:=h.bh;omega
  rw[Wk.below_nat w _ (by omega),Wk.below_nat w _ hna,decide_eq_decide]at c2;unfold ado;unfold md at *;cases hn:w.narrow<;>simp only[hn,if_true,if_false,Bool.false_eq_true]at hX hY hna hnb c2 ⊢
  ·have eX:X.toNat=x:=by rw[<-hX,ucut_toNat];rfl
   have eY:Y.toNat=y:=by rw[<-hY,ucut_toNat];rfl
   have e:∀p q:BitVec 64,adoN 64 11 p q=p.sshiftRight (q.toNat % 64):=fun p q=>rfl
   rw[e,e,e,eY,hy];refine⟨sar_mono _ _ _ (by omega) ?_,sar_mono _ _ _ (by omega) ?_⟩
   ·rw[msb64,msb64,decide_eq_decide];omega
   ·rw[msb64,msb64,decide_eq_decide];omega
  ·have eX:=low_of hX
   have eY:=low_of hY;have e:∀p q:BitVec 32,adoN 32 11 p q=p.sshiftRight (q.toNat % 32):=fun p q=>rfl
   have l1:=low_toNat w.a.lo;have l2:=low_toNat w.a.hi;have l3:=low_toNat w.b.lo;rw[wide32,wide32,wide32,e,e,e,eY,l3,hy,Nat.mod_eq_of_lt (show w.b.lo.toNat<4294967296 by omega)];refine⟨sar_mono _ _ _ (by omega) ?_,sar_mono _ _ _ (by omega) ?_⟩
   ·rw[msb32,msb32,decide_eq_decide];omega
   ·rw[msb32,msb32,decide_eq_decide];omega
 ·cases ht
theorem ado_nat(op:Int)(narrow:Bool)(X Y:U)(x y:Nat)(hX:(ucut narrow X).toNat=x)(hY:(ucut narrow Y).toNat=y):
  (op=1->(ado op narrow X Y).toNat=(x+y) % md narrow)/\(op=2->(ado op narrow X Y).toNat=(md narrow-y+x) % md narrow)/\(op=3->(ado op narrow X Y).toNat=x*y % md narrow) /\
  (op=4->(ado op narrow X Y).toNat=x/y)/\(op=5->(ado op narrow X Y).toNat=x % y)/\(op=6->(ado op narrow X Y).toNat=x &&& y)/\(op=7->(ado op narrow X Y).toNat=x ||| y)/\(op=8->(ado op narrow X Y).toNat=x ^^^ y) /\
  (op=9->(ado op narrow X Y).toNat=x*2 ^ (y % (if narrow then 32 else 64)) % md narrow)/\(op=10->(ado op narrow X Y).toNat=x/2 ^ (y % (if narrow then 32 else 64)))/\(op=12->(ado op narrow X Y).toNat=y)/\(op=13->(ado op narrow X Y).toNat=(md narrow-x) % md narrow):=by
 cases narrow with
 | false =>
   have eX:X.toNat=x:=by rw[<-hX,ucut_toNat];rfl
   have eY:Y.toNat=y:=by rw[<-hY,ucut_toNat];rfl
   simp only[md,if_false,Bool.false_eq_true];refine⟨?_,?_,?_,?_,?_,?_,?_,?_,?_,?_,?_,?_⟩<;>(rintro rfl;simp only[ado,adoN,if_false,Bool.false_eq_true,<-eX,<-eY])
   ·exact BitVec.toNat_add _ _
   ·exact BitVec.toNat_sub _ _
   ·exact BitVec.toNat_mul _ _
   ·exact BitVec.toNat_udiv
   ·exact BitVec.toNat_umod
   ·exact BitVec.toNat_and _ _
   ·exact BitVec.toNat_or _ _
   ·exact BitVec.toNat_xor _ _
   ·show(X <<< (Y.toNat % 64)).toNat=_
    rw[BitVec.toNat_shiftLeft,Nat.shiftLeft_eq]
   ·show(X >>> (Y.toNat % 64)).toNat=_
    rw[BitVec.toNat_ushiftRight,Nat.shiftRight_eq_div_pow]
   ·rfl
   ·exact BitVec.toNat_neg _
 | true =>
   have eX:=low_of hX;have eY:=low_of hY;simp only[md,if_true];refine⟨?_,?_,?_,?_,?_,?_,?_,?_,?_,?_,?_,?_⟩<;>(rintro rfl;simp only[ado,adoN,if_true,<-eX,<-eY];rw[wide32])
   ·exact BitVec.toNat_add _ _
   ·exact BitVec.toNat_sub _ _
   ·exact BitVec.toNat_mul _ _
   ·exact BitVec.toNat_udiv
   ·exact BitVec.toNat_umod
   ·exact BitVec.toNat_and _ _
   ·exact BitVec.toNat_or _ _
   ·exact BitVec.toNat_xor _ _
   ·show(low X <<< ((low Y).toNat % 32)).toNat=_
    rw[BitVec.toNat_shiftLeft,Nat.shiftLeft_eq]
   ·show(low X >>> ((low Y).toNat % 32)).toNat=_
    rw[BitVec.toNat_ushiftRight,Nat.shiftRight_eq_div_pow]
   ·rfl
   ·exact BitVec.toNat_neg _
theorem ado_lt(op:Int)(narrow:Bool)(X Y:U):(ado op narrow X Y).toNat<md narrow:=by
 unfold ado md;cases narrow with
 | false=>exact(adoN 64 op X Y).isLt
 | true=>simp only[if_true];rw[wide32];exact(adoN 32 op (low X) (low Y)).isLt
theorem Wk.over_fit{narrow:Bool}{a b:Sp}{X Y:U}(hr:a.right=true)(hr2:b.right=true)(ha:a.has X=true)(hb:b.has Y=true):(Wk.over narrow a b).Fit (ucut narrow X).toNat (ucut narrow Y).toNat:=by
 have h1:=(Sp.has_iff _ _).1 (Sp.cut_has narrow ha);have h2:=(Sp.has_iff _ _).1 (Sp.cut_has narrow hb);refine⟨h1.1,h1.2,h2.1,h2.2,?_,?_⟩
 ·unfold md
  cases narrow with
  | false=>exact(a.cut false).hi.isLt
  | true=>exact(Sp.cut_le true hr).2 rfl
 ·unfold md
  cases narrow with
  | false=>exact(b.cut false).hi.isLt
  | true=>exact(Sp.cut_le true hr2).2 rfl
theorem sdo_sound(op:Int)(narrow:Bool)(a b:Sp)(X Y:U)(ho:1<=op/\op<=13)(ha:a.has X=true)(hb:b.has Y=true)(he:aerr op narrow Y=0):(sdo op narrow a b).has (ado op narrow X Y)=true:=by
 have hra:a.right=true:=by rw[Sp.right_iff];have:=(Sp.has_iff _ _).1 ha;omega
 have hrb:b.right=true:=by rw[Sp.right_iff];have:=(Sp.has_iff _ _).1 hb;omega
 have hF:=Wk.over_fit (narrow:=narrow) hra hrb ha hb;have hn:=ado_nat op narrow X Y _ _ rfl rfl;obtain⟨n1,n2,n3,n4,n5,n6,n7,n8,n9,n10,n12,n13⟩:=hn;have hwn:(Wk.over narrow a b).narrow=narrow:=rfl
 have hy:op=4\/op=5->(ucut narrow Y).toNat≠0:=fun h h0=>by
  have hz:∀(n:Nat) (p:BitVec n),p=0#n->aerrN n op p=113:=fun n p hp=>by unfold aerrN;rw[if_pos ⟨h,hp⟩]
  unfold aerr at he;cases narrow with
  | false =>
    have e:Y=0#64:=BitVec.eq_of_toNat_eq h0;simp only[if_false,Bool.false_eq_true]at he;rw[hz 64 Y e]at he;exact absurd he (by decide)
  | true =>
    have e:low Y=0#32:=BitVec.eq_of_toNat_eq (by rw[low_of rfl,h0];rfl);simp only[if_true]at he;rw[hz 32 (low Y) e]at he;exact absurd he (by decide)
 have key:In ((Wk.over narrow a b).rule op) (ado op narrow X Y).toNat:=by
  unfold Wk.rule;by_cases c1:op=1
  ·rw[if_pos c1,n1 c1];exact Wk.add_in hF
  rw[if_neg c1];by_cases c2:op=2
  ·rw[if_pos c2,n2 c2];exact Wk.sub_in hF
  rw[if_neg c2];by_cases c3:op=3
  ·rw[if_pos c3,n3 c3];exact Wk.mul_in hF
  rw[if_neg c3];by_cases c4:op=4
  ·rw[if_pos c4,n4 c4];exact Wk.div_in hF (hy (.inl c4))
  rw[if_neg c4];by_cases c5:op=5
  ·rw[if_pos c5,n5 c5];exact Wk.mod_in hF (hy (.inr c5))
  rw[if_neg c5];by_cases c6:op=6
  ·rw[if_pos c6,n6 c6];exact Wk.and_in hF
  rw[if_neg c6];by_cases c7:op=7
  ·rw[if_pos c7,n7 c7];exact Wk.or_in hF
  rw[if_neg c7];by_cases c8:op=8
  ·rw[if_pos c8,n8 c8];exact Wk.xor_in hF
  rw[if_neg c8];by_cases c9:op=9
  ·rw[if_pos c9,n9 c9];exact Wk.shl_in hF
  rw[if_neg c9];by_cases c10:op=10
  ·rw[if_pos c10,n10 c10];exact Wk.shr_in hF
  rw[if_neg c10];by_cases c11:op=11
  ·rw[if_pos c11]
   subst c11;exact Wk.sar_in hF rfl rfl
  rw[if_neg c11];by_cases c12:op=12
  ·rw[if_pos c12,n12 c12]
   intro t ht;cases ht
   exact⟨hF.bl,hF.bh⟩
  rw[if_neg c12];have c13:op=13:=by omega
  rw[n13 c13];exact Wk.neg_in hF
 have hall:(Sp.all narrow).has (ado op narrow X Y)=true:=by
  rw[Sp.has_iff];have:=ado_lt op narrow X Y;unfold md at this;unfold Sp.all;refine⟨Nat.zero_le _,?_⟩;cases narrow with
  | false=>simp only[if_false,Bool.false_eq_true]at this ⊢;rw[ones_nat];omega
  | true=>simp only[if_true]at this ⊢;rw[half_nat];omega
 unfold sdo;split
 ·cases hr:(Wk.over narrow a b).rule op with
  | none=>exact hall
  | some t=>rw[Sp.has_iff];exact key t hr
 ·exact hall
theorem sdo_right(op:Int)(narrow:Bool)(a b:Sp)(X Y:U)(ho:1<=op/\op<=13)(ha:a.has X=true)(hb:b.has Y=true)(he:aerr op narrow Y=0):(sdo op narrow a b).right=true:=by
 have h:=(Sp.has_iff _ _).1 (sdo_sound op narrow a b X Y ho ha hb he);rw[Sp.right_iff];omega
end
def Sp.meet(s t:Sp):Option Sp:=if(⟨umax s.lo t.lo,umin s.hi t.hi⟩:Sp).right then some ⟨umax s.lo t.lo,umin s.hi t.hi⟩else none
def Sp.without(s n:Sp):Sp:=if s.one || !n.one then s else⟨if s.lo==n.lo then s.lo+1 else s.lo,if s.hi==n.lo then s.hi-1 else s.hi⟩
def Wk.turned(w:Wk):Wk:=⟨w.b,w.a,w.narrow⟩
def Wk.gt(w:Wk):Option (Sp×Sp):=if w.b.lo.ult w.a.hi then some (⟨umax w.a.lo (w.b.lo+1),w.a.hi⟩,⟨w.b.lo,umin w.b.hi (w.a.hi-1)⟩)else none
def Wk.ge(w:Wk):Option (Sp×Sp):=if w.b.lo.ule w.a.hi then some (⟨umax w.a.lo w.b.lo,w.a.hi⟩,⟨w.b.lo,umin w.b.hi w.a.hi⟩)else none
def swap(p:Sp×Sp):Sp×Sp:=(p.2,p.1)
def Wk.plain(w:Wk)(op:Int):Option (Sp×Sp) :=
 if op=17 then(w.a.meet w.b).map fun m=>(m,m)
 else if op=18 then(if !w.both||w.a != w.b then some (w.a.without w.b,w.b.without w.a)else none)
 else if op=19 then w.gt else if op=20 then w.ge else if op=21 then w.turned.gt.map swap else w.turned.ge.map swap
def Wk.signed(w:Wk)(op:Int):Option (Sp×Sp) :=
 if w.mixed w.a||w.mixed w.b then some (w.a,w.b)
 else if w.below w.a.lo==w.below w.b.lo then w.plain (op-4)
 else if decide (op=23\/op=24)==w.below w.b.lo then some (w.a,w.b)else none
def Wk.set(w:Wk)(yes:Bool):Option (Sp×Sp) :=
 if yes then
  (if(0:U).ult w.a.hi&&(0:U).ult w.b.hi&&(!w.both||(w.a.lo &&& w.b.lo) != 0)then some (⟨umax w.a.lo 1,w.a.hi⟩,⟨umax w.b.lo 1,w.b.hi⟩)else none)
 else(if !w.both || !((w.a.lo &&& w.b.lo) != 0)then some (w.a,w.b)else none)
def opp(op:Int):Int:=if op=17 then 18 else if op=18 then 17 else if op=19 then 22 else if op=20 then 21 else if op=21 then 20 else if op=22 then 19 else if op=23 then 26 else if op=24 then 25 else if op=25 then 24 else if op=26 then 23 else 27
def Wk.askd(w:Wk)(op:Int):Option (Sp×Sp):=if 23<=op then w.signed op else w.plain op
def Wk.ask(w:Wk)(op:Int)(yes:Bool):Option (Sp×Sp):=if op=27 then w.set yes else w.askd (if yes then op else opp op)
def sif(op:Int)(narrow yes:Bool)(a b:Sp):Option (Sp×Sp) :=
 if 17<=op/\op<=27/\a.right=true/\b.right=true then
  ((Wk.over narrow a b).ask op yes).map fun p=>(if(Wk.over narrow a b).most.ult a.hi then a else p.1,if(Wk.over narrow a b).most.ult b.hi then b else p.2)
 else some (a,b)
def sgn(narrow:Bool)(x:Nat):Int:=if x<md narrow/2 then(x:Int)else(x:Int)-md narrow
def Is(narrow:Bool)(op:Int)(x y:Nat):Prop :=
 (op=17->x=y)/\(op=18->x≠y)/\(op=19->y<x)/\(op=20->y<=x)/\(op=21->x<y)/\(op=22->x<=y) /\
 (op=23->sgn narrow y<sgn narrow x)/\(op=24->sgn narrow y<=sgn narrow x)/\(op=25->sgn narrow x<sgn narrow y)/\(op=26->sgn narrow x<=sgn narrow y)
theorem sgn32(p:BitVec 32):p.toInt=sgn true p.toNat:=by
 unfold sgn md;rw[BitVec.toInt_eq_toNat_cond];simp only[if_true];split<;>split<;>omega
theorem sgn64(p:BitVec 64):p.toInt=sgn false p.toNat:=by
 unfold sgn md;rw[BitVec.toInt_eq_toNat_cond];simp only[if_false,Bool.false_eq_true];split<;>split<;>omega
theorem is_yes(n:Nat)(narrow:Bool)(hs:∀p:BitVec n,p.toInt=sgn narrow p.toNat)(op:Int)(p q:BitVec n)(h:aisN n op p q=true):Is narrow op p.toNat q.toNat:=by
 refine⟨?_,?_,?_,?_,?_,?_,?_,?_,?_,?_⟩<;>(rintro rfl;simp only[aisN]at h)
 ·simpa using congrArg BitVec.toNat (beq_iff_eq.1 (by simpa using h))
 ·have h2:p≠q:=by simpa using h
  exact fun e=>h2 (BitVec.eq_of_toNat_eq e)
 ·simpa [BitVec.ult]using h
 ·simpa [BitVec.ule]using h
 ·simpa [BitVec.ult]using h
 ·simpa [BitVec.ule]using h
 ·have h2:q.slt p=true:=by simpa using h
  rw[BitVec.slt_iff_toInt_lt,hs,hs]at h2;exact h2
 ·have h2:q.sle p=true:=by simpa using h
  rw[BitVec.sle_iff_toInt_le,hs,hs]at h2;exact h2
 ·have h2:p.slt q=true:=by simpa using h
  rw[BitVec.slt_iff_toInt_lt,hs,hs]at h2;exact h2
 ·have h2:p.sle q=true:=by simpa using h
  rw[BitVec.sle_iff_toInt_le,hs,hs]at h2;exact h2
theorem is_no(n:Nat)(op:Int)(p q:BitVec n)(ho:17<=op/\op<=26)(h:aisN n op p q=false):aisN n (opp op) p q=true:=by
 have hop:op=17\/op=18\/op=19\/op=20\/op=21\/op=22\/op=23\/op=24\/op=25\/op=26:=by omega
 rcases hop with rfl|rfl|rfl|rfl|rfl|rfl|rfl|rfl|rfl|rfl
 ·have h2:¬p=q:=by simpa [aisN]using h
  simpa [aisN,opp]using h2
 ·have h2:p=q:=by simpa [aisN]using h
  simpa [aisN,opp]using h2
 ·have h2:¬q.toNat<p.toNat:=by simpa [aisN,BitVec.ult]using h
  have h3:p.toNat<=q.toNat:=by omega
  simpa [aisN,opp,BitVec.ule]using h3
 ·have h2:¬q.toNat<=p.toNat:=by simpa [aisN,BitVec.ule]using h
  have h3:p.toNat<q.toNat:=by omega
  simpa [aisN,opp,BitVec.ult]using h3
 ·have h2:¬p.toNat<q.toNat:=by simpa [aisN,BitVec.ult]using h
  have h3:q.toNat<=p.toNat:=by omega
  simpa [aisN,opp,BitVec.ule]using h3
 ·have h2:¬p.toNat<=q.toNat:=by simpa [aisN,BitVec.ule]using h
  have h3:q.toNat<p.toNat:=by omega
  simpa [aisN,opp,BitVec.ult]using h3
 ·have h2:¬q.toInt<p.toInt:=by
   rw[<-BitVec.slt_iff_toInt_lt];simpa [aisN]using h
  have h3:p.sle q=true:=by rw[BitVec.sle_iff_toInt_le];omega
  simpa [aisN,opp]using h3
 ·have h2:¬q.toInt<=p.toInt:=by
   rw[<-BitVec.sle_iff_toInt_le];simpa [aisN]using h
  have h3:p.slt q=true:=by rw[BitVec.slt_iff_toInt_lt];omega
  simpa [aisN,opp]using h3
 ·have h2:¬p.toInt<q.toInt:=by
   rw[<-BitVec.slt_iff_toInt_lt];simpa [aisN]using h
  have h3:q.sle p=true:=by rw[BitVec.sle_iff_toInt_le];omega
  simpa [aisN,opp]using h3
 ·have h2:¬p.toInt<=q.toInt:=by
   rw[<-BitVec.sle_iff_toInt_le];simpa [aisN]using h
  have h3:q.slt p=true:=by rw[BitVec.slt_iff_toInt_lt];omega
  simpa [aisN,opp]using h3
def Left(o:Option (Sp×Sp))(x y:Nat):Prop:=∃s t,o=some (s,t)/\(s.lo.toNat<=x/\x<=s.hi.toNat)/\(t.lo.toNat<=y/\y<=t.hi.toNat)
section
variable{w:Wk}{x y:Nat}
theorem Wk.Fit.turn(h:w.Fit x y):w.turned.Fit y x:=⟨h.bl,h.bh,h.al,h.ah,h.nb,h.na⟩
theorem Left.swap{o:Option (Sp×Sp)}(h:Left o x y):Left (o.map T.swap) y x:=by
 obtain⟨s,t,rfl,h1,h2⟩:=h;exact⟨t,s,rfl,h2,h1⟩
theorem Wk.gt_in(h:w.Fit x y)(hi:y<x):Left w.gt x y:=by
 obtain⟨h1,h2,h3,h4,h5,h6⟩:=h;have:=w.a.hi.isLt;unfold Wk.gt;rw[if_pos (by simp only[BitVec.ult,decide_eq_true_eq];omega)];refine⟨_,_,rfl,⟨?_,h2⟩,h3,?_⟩
 ·rw[umax_toNat,BitVec.toNat_add,show(1:U).toNat=1 by rfl];omega
 ·rw[umin_toNat,BitVec.toNat_sub,show(1:U).toNat=1 by rfl];omega
theorem Wk.ge_in(h:w.Fit x y)(hi:y<=x):Left w.ge x y:=by
 obtain⟨h1,h2,h3,h4,h5,h6⟩:=h;unfold Wk.ge;rw[if_pos (by simp only[BitVec.ule,decide_eq_true_eq];omega)];refine⟨_,_,rfl,⟨?_,h2⟩,h3,?_⟩
 ·rw[umax_toNat];omega
 ·rw[umin_toNat];omega
theorem without_in{s n:Sp}{x y:Nat}(h1:s.lo.toNat<=x)(h2:x<=s.hi.toNat)(h3:n.lo.toNat<=y)(h4:y<=n.hi.toNat)(hne:x≠y):(s.without n).lo.toNat<=x/\x<=(s.without n).hi.toNat:=by
 unfold Sp.without;split
 ·exact⟨h1,h2⟩
 ·rename_i hc
  simp only[Bool.or_eq_true,Bool.not_eq_true',not_or,Bool.not_eq_false]at hc;obtain⟨c1,c2⟩:=hc;rw[Sp.one_iff]at c1 c2;have:=s.hi.isLt;have:=s.lo.isLt;have hy:y=n.lo.toNat:=by omega
  refine⟨?_,?_⟩
  ·simp only
   split
   ·rename_i e
    have e2:=congrArg BitVec.toNat (beq_iff_eq.1 e);rw[BitVec.toNat_add,show(1:U).toNat=1 by rfl];omega
   ·exact h1
  ·simp only
   split
   ·rename_i e
    have e2:=congrArg BitVec.toNat (beq_iff_eq.1 e);rw[BitVec.toNat_sub,show(1:U).toNat=1 by rfl];omega
   ·exact h2
theorem Wk.plain_in(h:w.Fit x y)(op:Int)(ho:17<=op/\op<=22)(hi:Is w.narrow op x y):Left (w.plain op) x y:=by
 obtain⟨i1,i2,i3,i4,i5,i6,_⟩:=hi;have hop:op=17\/op=18\/op=19\/op=20\/op=21\/op=22:=by omega
 have h0:=h;obtain⟨h1,h2,h3,h4,h5,h6⟩:=h0;rcases hop with rfl|rfl|rfl|rfl|rfl|rfl
 ·have e:=i1 rfl
  have hr:(⟨umax w.a.lo w.b.lo,umin w.a.hi w.b.hi⟩:Sp).right=true:=by
   rw[Sp.right_iff];simp only[umax_toNat,umin_toNat];omega
  show Left ((w.a.meet w.b).map fun m=>(m,m)) x y
  unfold Sp.meet;rw[if_pos hr];refine⟨_,_,rfl,?_,?_⟩<;>(simp only[umax_toNat,umin_toNat];omega)
 ·have e:=i2 rfl
  show Left (if !w.both||w.a != w.b then some (w.a.without w.b,w.b.without w.a)else none) x y
  rw[if_pos ?_]
  ·exact⟨_,_,rfl,without_in h1 h2 h3 h4 e,without_in h3 h4 h1 h2 (Ne.symm e)⟩
  ·cases hb:w.both with
   | false=>rfl
   | true =>
     obtain⟨e1,e2⟩:=Wk.both_eq h hb;rw[Bool.or_eq_true,bne_iff_ne];right;intro hab;rw[hab]at e1;omega
 ·exact Wk.gt_in h (i3 rfl)
 ·exact Wk.ge_in h (i4 rfl)
 ·exact(Wk.gt_in h.turn (i5 rfl)).swap
 ·exact(Wk.ge_in h.turn (i6 rfl)).swap
theorem Wk.unmixed{s:Sp}(hr:s.lo.toNat<=x)(hr2:x<=s.hi.toNat)(hn:s.hi.toNat<md w.narrow)(h:w.mixed s=false):w.below s.lo=decide (md w.narrow/2<=x):=by
 unfold Wk.mixed at h;rw[Wk.below_nat w _ (by omega),Wk.below_nat w _ hn,bne_eq_false_iff_eq,decide_eq_decide]at h;rw[Wk.below_nat w _ (by omega),decide_eq_decide];omega
theorem Wk.signed_in(h:w.Fit x y)(op:Int)(ho:23<=op/\op<=26)(hi:Is w.narrow op x y):Left (w.signed op) x y:=by
 obtain⟨_,_,_,_,_,_,i7,i8,i9,i10⟩:=hi;have h0:=h;obtain⟨h1,h2,h3,h4,h5,h6⟩:=h0;unfold Wk.signed;split
 ·exact⟨_,_,rfl,⟨h1,h2⟩,h3,h4⟩
 ·rename_i hm
  simp only[Bool.or_eq_true,not_or,Bool.not_eq_true]at hm;rw[Wk.unmixed h1 h2 h5 hm.1,Wk.unmixed h3 h4 h6 hm.2];have hxl:x<md w.narrow:=by omega
  have hyl:y<md w.narrow:=by omega
  have hmd:md w.narrow=2*(md w.narrow/2):=by unfold md;split<;>rfl
  unfold sgn at i7 i8 i9 i10;split
  ·rename_i hs
   rw[beq_iff_eq,decide_eq_decide]at hs;refine Wk.plain_in h (op-4) (by omega) ?_;refine⟨fun e=>by omega,fun e=>by omega,fun e=>?_,fun e=>?_,fun e=>?_,fun e=>?_,fun e=>by omega,fun e=>by omega,fun e=>by omega,fun e=>by omega⟩
   ·have hh:=i7 (by omega)
    split at hh<;>split at hh<;>omega
   ·have hh:=i8 (by omega)
    split at hh<;>split at hh<;>omega
   ·have hh:=i9 (by omega)
    split at hh<;>split at hh<;>omega
   ·have hh:=i10 (by omega)
    split at hh<;>split at hh<;>omega
  ·rename_i hs
   rw[beq_iff_eq,decide_eq_decide]at hs;rw[if_pos ?_]
   ·exact⟨_,_,rfl,⟨h1,h2⟩,h3,h4⟩
   ·rw[beq_iff_eq,decide_eq_decide]
    by_cases hy:md w.narrow/2<=y
    ·have hx:¬md w.narrow/2<=x:=fun hx=>hs ⟨fun _=>hy,fun _=>hx⟩
     refine⟨fun _=>hy,fun _=>?_⟩;by_cases e:op=25
     ·have hh:=i9 e
      rw[if_pos (by omega),if_neg (by omega)]at hh;omega
     ·by_cases e2:op=26
      ·have hh:=i10 e2
       rw[if_pos (by omega),if_neg (by omega)]at hh;omega
      ·omega
    ·have hx:md w.narrow/2<=x:=by
      rcases Nat.lt_or_ge x (md w.narrow/2)with hx|hx
      ·exact absurd ⟨fun h=>by omega,fun h=>absurd h hy⟩ hs
      ·exact hx
     refine⟨fun he=>?_,fun h=>absurd h hy⟩;rcases he with e|e
     ·have hh:=i7 e
      rw[if_pos (by omega),if_neg (by omega)]at hh;omega
     ·have hh:=i8 e
      rw[if_pos (by omega),if_neg (by omega)]at hh;omega
theorem Wk.askd_in(h:w.Fit x y)(op:Int)(ho:17<=op/\op<=26)(hi:Is w.narrow op x y):Left (w.askd op) x y:=by
 unfold Wk.askd;split
 ·exact Wk.signed_in h op (by omega) hi
 ·exact Wk.plain_in h op (by omega) hi
theorem Wk.set_in(h:w.Fit x y)(yes:Bool)(hi:yes=decide (x &&& y≠0)):Left (w.set yes) x y:=by
 have h0:=h;obtain⟨h1,h2,h3,h4,h5,h6⟩:=h0
 have hand:∀p q:U,((p &&& q) != 0)=decide (p.toNat &&& q.toNat≠0):=fun p q=>by
  rw[Bool.eq_iff_iff,bne_iff_ne,decide_eq_true_eq];constructor
  ·intro hne e
   exact hne (BitVec.eq_of_toNat_eq (by rw[BitVec.toNat_and];exact e))
  ·intro hne e
   have e2:=congrArg BitVec.toNat e;rw[BitVec.toNat_and]at e2;exact hne e2
 unfold Wk.set;rw[hand];cases yes with
 | true =>
   have hne:x &&& y≠0:=by simpa using hi.symm
   have hx:x≠0:=fun e=>hne (by rw[e,Nat.zero_and])
   have hy:y≠0:=fun e=>hne (by rw[e,Nat.and_zero])
   rw[if_pos rfl,if_pos ?_]
   ·refine⟨_,_,rfl,⟨?_,h2⟩,?_,h4⟩
    ·rw[umax_toNat,show(1:U).toNat=1 by rfl];omega
    ·rw[umax_toNat,show(1:U).toNat=1 by rfl];omega
   ·simp only[Bool.and_eq_true,BitVec.ult,decide_eq_true_eq]
    refine⟨⟨by rw[show(0:U).toNat=0 by rfl];omega,by rw[show(0:U).toNat=0 by rfl];omega⟩,?_⟩;cases hb:w.both with
    | false=>rfl
    | true =>
      obtain⟨e1,e2⟩:=Wk.both_eq h hb;rw[<-e1,<-e2];simp[hne]
 | false =>
   have he:x &&& y=0:=by simpa using hi.symm
   rw[if_neg (by simp),if_pos ?_]
   ·exact⟨_,_,rfl,⟨h1,h2⟩,h3,h4⟩
   ·cases hb:w.both with
    | false=>rfl
    | true =>
      obtain⟨e1,e2⟩:=Wk.both_eq h hb;rw[<-e1,<-e2];simp[he]
end
theorem ais_27(narrow:Bool)(X Y:U):ais 27 narrow X Y=decide ((ucut narrow X).toNat &&& (ucut narrow Y).toNat≠0):=by
 have hand:∀(n:Nat) (p q:BitVec n),((p &&& q) != 0#n)=decide (p.toNat &&& q.toNat≠0):=fun n p q=>by
  rw[Bool.eq_iff_iff,bne_iff_ne,decide_eq_true_eq];constructor
  ·intro hne e
   exact hne (BitVec.eq_of_toNat_eq (by rw[BitVec.toNat_and,e];simp))
  ·intro hne e
   have e2:=congrArg BitVec.toNat e;rw[BitVec.toNat_and]at e2;exact hne (by simpa using e2)
 unfold ais;cases narrow with
 | false =>
   show((X &&& Y) != 0#64)=_
   rw[hand];rfl
 | true =>
   show((low X &&& low Y) != 0#32)=_
   rw[hand,low_of rfl,low_of rfl]
theorem ais_is(op:Int)(narrow yes:Bool)(X Y:U)(ho:17<=op/\op<=26)(h:ais op narrow X Y=yes):Is narrow (if yes then op else opp op) (ucut narrow X).toNat (ucut narrow Y).toNat:=by
 unfold ais at h;cases narrow with
 | false =>
   simp only[if_false,Bool.false_eq_true]at h;cases yes with
   | true=>exact is_yes 64 false sgn64 op X Y h
   | false=>exact is_yes 64 false sgn64 _ X Y (is_no 64 op X Y ho h)
 | true =>
   simp only[if_true]at h;rw[<-low_of (X:=X) rfl,<-low_of (X:=Y) rfl];cases yes with
   | true=>exact is_yes 32 true sgn32 op _ _ h
   | false=>exact is_yes 32 true sgn32 _ _ _ (is_no 32 op _ _ ho h)
theorem opp_range(op:Int)(h:17<=op/\op<=26):17<=opp op/\opp op<=26:=by
 unfold opp
 repeat' split
 all_goals omega
theorem sif_sound(op:Int)(narrow yes:Bool)(a b:Sp)(X Y:U)(ho:17<=op/\op<=27)(ha:a.has X=true)(hb:b.has Y=true)(h:ais op narrow X Y=yes):
  ∃s t,sif op narrow yes a b=some (s,t)/\s.has X=true/\t.has Y=true:=by
 have hra:a.right=true:=by rw[Sp.right_iff];have:=(Sp.has_iff _ _).1 ha;omega
 have hrb:b.right=true:=by rw[Sp.right_iff];have:=(Sp.has_iff _ _).1 hb;omega
 have hF:=Wk.over_fit (narrow:=narrow) hra hrb ha hb
 have key:Left ((Wk.over narrow a b).ask op yes) (ucut narrow X).toNat (ucut narrow Y).toNat:=by
  unfold Wk.ask;split
  ·rename_i e
   subst e;exact Wk.set_in hF yes (by rw[<-h,ais_27])
  ·refine Wk.askd_in hF _ ?_ (ais_is op narrow yes X Y (by omega) h)
   cases yes with
   | true=>exact⟨ho.1,by show op<=26;omega⟩
   | false=>exact opp_range op ⟨ho.1,by omega⟩
 obtain⟨s,t,hst,⟨s1,s2⟩,t1,t2⟩:=key
 have hfull:∀(c:Sp) (Z:U) (r:Sp),c.has Z=true->r.lo.toNat<=(ucut narrow Z).toNat->(ucut narrow Z).toNat<=r.hi.toNat->(if(Wk.over narrow a b).most.ult c.hi then c else r).has Z=true:=by
  intro c Z r hc r1 r2;split
  ·exact hc
  ·rename_i hm
   rw[Sp.has_iff]at hc ⊢;simp only[BitVec.ult,decide_eq_true_eq,Wk.most_nat]at hm;rw[ucut_toNat]at r1 r2;have hwn:(Wk.over narrow a b).narrow=narrow:=rfl;rw[hwn]at hm;cases narrow with
   | false=>simpa using⟨r1,r2⟩
   | true =>
     simp only[if_true]at hm r1 r2;rw[Nat.mod_eq_of_lt (by omega)]at r1 r2;exact⟨r1,r2⟩
 unfold sif;rw[if_pos ⟨ho.1,ho.2,hra,hrb⟩,hst];exact⟨_,_,rfl,hfull a X s ha s1 s2,hfull b Y t hb t1 t2⟩
end Go.Proofs.YtfeipbgnjainlaaGreatDoor.T
namespace Go.Proofs.YtfeipbgnjainlaaGreatDoor.K
open Go
theorem _root_.Go.Shut.o{p:Prop}(h:Go.Shut p):p:=h
section
variable{P:Program}{ops:Array Oper}{Q:Exit->Act->World->Prop}{md:Region.Mode}{S:Array Bool->World->Prop}
def ShutL(md:Region.Mode)(ops:Array Oper)(l:Array Bool):Prop:=∀j oj,ops[j]?=some oj->l.getD j false=true->∀e∈oj.after,Region.binds md e=true->l.getD e.on false=true
theorem ShutL.start(n:Nat):ShutL md ops (Array.replicate n false):=fun j oj _ h=>by
 exfalso;rw[Array.getD_eq_getD_getElem?]at h;rcases Nat.lt_or_ge j n with h1|h1
 ·rw[Array.getElem?_replicate,if_pos h1]at h;simp at h
 ·rw[Array.getElem?_replicate,if_neg (by omega)]at h;simp at h
theorem getD_set_same{l:Array Bool}{i:Nat}(h:i<l.size)(d:Bool):(l.setIfInBounds i true).getD i d=true:=by
 simp[Array.getD_eq_getD_getElem?,h]
theorem getD_mono{l:Array Bool}{i j:Nat}(h:l.getD j false=true):(l.setIfInBounds i true).getD j false=true:=by
 by_cases hij:i=j
 ·subst hij
  have:i<l.size:=by
   rcases Nat.lt_or_ge i l.size with h1|h1
   ·exact h1
   ·rw[Array.getD_eq_getD_getElem?,Array.getElem?_eq_none h1]at h;simp at h
  exact getD_set_same this _
 ·rw[getD_set_ne false hij];exact h
theorem ShutL.set{l:Array Bool}{i:Nat}(h:ShutL md ops l)(hi:i∈Region.ready md ops l):ShutL md ops (l.setIfInBounds i true):=fun j oj hj hl e he hb=>by
 by_cases hij:i=j
 ·subst hij
  obtain⟨_,o,ho,hall⟩:=mem_ready.1 hi;rw[hj]at ho;cases ho
  exact getD_mono (hall e he hb)
 ·rw[getD_set_ne false hij]at hl
  exact getD_mono (h j oj hj hl e he hb)
def wpAnyL(P:Program)(md:Region.Mode)(ops:Array Oper)(Q:Exit->Act->World->Prop)(S:Array Bool->World->Prop):Nat->Array Bool->Act->World->Prop
 | 0,listed,a,w=>Region.ready md ops listed=[]/\Q .normal a w
 | fuel+1,listed,a,w =>
   (Region.ready md ops listed=[]->Q .normal a w) /\
   ∀i∈Region.ready md ops listed,wpOp P ops Q i (fun a' w'=>S (listed.setIfInBounds i true) w'/\wpAnyL P md ops Q S fuel (listed.setIfInBounds i true) a' w') a w
theorem wpAny_of_L:∀(fuel:Nat) (listed:Array Bool) (a:Act) (w:World),wpAnyL P md ops Q S fuel listed a w->wpAny P md ops Q fuel listed a w
 | 0,_,_,_,h=>h
 | fuel+1,_,_,_,h=>⟨h.1,fun i hi=>wpOp_mono (fun a' w' h'=>wpAny_of_L fuel _ a' w' h'.2) (h.2 i hi)⟩
theorem wpAnyL_first{i:Nat}{oi:Oper}{v:Value}{S0:World->Prop}(hi:ops[i]?=some oi)(hsel:∀(j:Nat) (o:Oper) cs b,ops[j]?=some o->o.op ≠ .select cs b)
  (hQ:∀c a w,Q (.panic c) (a.put oi.dst v) w->Q (.panic c) a w) (hm:∀l w,S (l.setIfInBounds i true) w↔S l w) (h0:∀l w,ShutL md ops l->l.getD i true=false->S l w->S0 w) :
  ∀(fuel:Nat) (listed:Array Bool) (a:Act) (w:World),ShutL md ops listed ->
   (∀j oj,ops[j]?=some oj->j≠i->listed.getD j true=false->(∀e∈oj.after,Region.binds md e=true->e.on≠i)->oi.apart ops oj=true) ->
   i∈Region.ready md ops listed->YieldsIf P ops S0 oi v a->S listed w ->
   wpAnyL P md ops Q S fuel (listed.setIfInBounds i true) (a.put oi.dst v) w->wpAnyL P md ops Q S (fuel+1) listed a w:=by
 intro fuel
 induction fuel with
 | zero =>
   intro listed a w hsh _ hr hy hS H;refine⟨fun h=>(by rw[h]at hr;cases hr),fun j hj=>?_⟩;by_cases hji:j=i
   ·subst hji;exact hy.wpOp hi (h0 _ _ hsh (mem_ready.1 hr).1 hS) ⟨(hm _ _).2 hS,H⟩
   ·have:=ready_mono hj hji
    rw[H.1]at this;cases this
 | succ fuel ih =>
   intro listed a w hsh hfree hr hy hS H;refine⟨fun h=>(by rw[h]at hr;cases hr),fun j hj=>?_⟩;by_cases hji:j=i
   ·subst hji;exact hy.wpOp hi (h0 _ _ hsh (mem_ready.1 hr).1 hS) ⟨(hm _ _).2 hS,H⟩
   ·have h1:=H.2 j (ready_mono hj hji)
    obtain⟨hjun,oj,hoj,hall⟩:=mem_ready.1 hj
    have hnot:∀e∈oj.after,Region.binds md e=true->e.on≠i:=fun e he hb heq=>by
     have h1:=hall e he hb;have h0:=(mem_ready.1 hr).1;rw[heq]at h1;rcases Nat.lt_or_ge i listed.size with h'|h'
     ·simp[h']at h0 h1;rw[h0]at h1;cases h1
     ·simp[Array.getElem?_eq_none h']at h1
    have h2:=wpOp_putIf hoj (hfree j oj hoj hji hjun hnot) (fun cs b=>hsel i oi cs b hi) (fun cs b=>hsel j oj cs b hoj) hQ hy h1
    have hfree':∀k ok,ops[k]?=some ok->k≠i->(listed.setIfInBounds j true).getD k true=false ->
      (∀e∈ok.after,Region.binds md e=true->e.on≠i)->oi.apart ops ok=true:=fun k ok hk hki hun hno=>by
     refine hfree k ok hk hki ?_ hno;by_cases hjk:j=k
     ·subst hjk;exact hjun
     ·rw[getD_set_ne true hjk]at hun;exact hun
    refine wpOp_mono (fun a' w' h3=>?_) h2;have h4:=h3.2;rw[Array.setIfInBounds_comm _ _ (Ne.symm hji)]at h4;have h5:=(hm _ _).1 h4.1;exact⟨h5,ih (listed.setIfInBounds j true) a' w' (hsh.set hj) hfree' (ready_mono hr (Ne.symm hji)) h3.1 h5 h4.2⟩
theorem wpAnyL_take{S0:World->Prop}{i:Nat}{oi:Oper}{v:Value}{fuel:Nat}{listed:Array Bool}{a:Act}{w:World}(hi:ops[i]?=some oi)
  (hs:Region.noSelect ops=true) (hf:Region.free md ops listed i=true) (hr:(Region.ready md ops listed).contains i=true)
  (hQ:∀c a w,Q (.panic c) (a.put oi.dst v) w->Q (.panic c) a w) (hm:∀l w,S (l.setIfInBounds i true) w↔S l w) (h0:∀l w,ShutL md ops l->l.getD i true=false->S l w->S0 w)
  (hsh:ShutL md ops listed) (hy:YieldsIf P ops S0 oi v a) (hS:S listed w)
  (h:ShutL md ops (listed.setIfInBounds i true)->S (listed.setIfInBounds i true) w->wpAnyL P md ops Q S fuel (listed.setIfInBounds i true) (a.put oi.dst v) w):wpAnyL P md ops Q S (fuel+1) listed a w :=
 wpAnyL_first hi (Region.noSelect_spec hs) hQ hm h0 fuel listed a w hsh (Region.free_spec hi hf) (by simpa using hr) hy hS (h (hsh.set (by simpa using hr)) ((hm _ _).2 hS))
theorem wpAnyL_one{i:Nat}{o:Oper}{fuel:Nat}{listed:Array Bool}{a:Act}{w:World}(hsh:ShutL md ops listed)(hr:Region.ready md ops listed=[i])(ho:ops[i]?=some o)
  (h:∀K':Act->World->Prop,Shut (∀a w,S (listed.setIfInBounds i true) w->(ShutL md ops (listed.setIfInBounds i true)->S (listed.setIfInBounds i true) w->wpAnyL P md ops Q S fuel (listed.setIfInBounds i true) a w)->K' a w)->if Region.wanted o (yielded ops a.tmps)=true then Oper.wp P o a w K' Q else K' (a.put o.dst undef) w) :
  wpAnyL P md ops Q S (fuel+1) listed a w :=
 ⟨fun h0=>(by rw[hr]at h0;cases h0),fun j hj=>by
  rw[hr]at hj;obtain rfl:=List.mem_singleton.1 hj
  exact wpOp_step ho (fun K' hK=>h K' (fun a w hS hW=>hK a w ⟨hS,hW (hsh.set (by rw[hr];exact List.mem_singleton.2 rfl)) hS⟩))⟩
theorem wpAnyL_done{listed:Array Bool}{a:Act}{w:World}(hr:Region.ready md ops listed=[])(h:Q .normal a w):∀fuel,wpAnyL P md ops Q S fuel listed a w
 | 0=>⟨hr,h⟩
 | _+1=>⟨fun _=>h,by rw[hr];simp⟩
theorem wp_region_L{id:Nat}{a:Act}{w:World}(S:Array Bool->World->Prop)(hm:P.follows .mixedOrders=true)
  (h:ShutL .any ops (Array.replicate ops.size false)->wpAnyL P .any ops Q S ops.size (Array.replicate ops.size false) a w.drew):(Code.region id ops true).wp P Q a w :=
 wp_region_any hm (wpAny_of_L _ _ _ _ (h (ShutL.start _)))
structure WL(P:Program)(md:Region.Mode)(ops:Array Oper)(Q:Exit->Act->World->Prop)(S:Array Bool->World->Prop)(fuel:Nat)(listed:Array Bool)(a:Act)(w:World):Prop where
 o:wpAnyL P md ops Q S fuel listed a w
theorem WL.take{S0:World->Prop}{i:Nat}{oi:Oper}{v:Value}{fuel:Nat}{listed:Array Bool}{a:Act}{w:World}(hi:ops[i]?=some oi)
  (hs:Region.noSelect ops=true) (hf:Region.free md ops listed i=true) (hr:(Region.ready md ops listed).contains i=true)
  (hQ:∀c a w,Q (.panic c) (a.put oi.dst v) w->Q (.panic c) a w) (hm:∀l w,S (l.setIfInBounds i true) w↔S l w) (h0:∀l w,ShutL md ops l->l.getD i true=false->S l w->S0 w)
  (hsh:ShutL md ops listed) (hy:YieldsIf P ops S0 oi v a) (hS:S listed w)
  (h:ShutL md ops (listed.setIfInBounds i true)->S (listed.setIfInBounds i true) w->WL P md ops Q S fuel (listed.setIfInBounds i true) (a.put oi.dst v) w):WL P md ops Q S (fuel+1) listed a w :=
 ⟨wpAnyL_take hi hs hf hr hQ hm h0 hsh hy hS (fun h1 h2=>(h h1 h2).o)⟩
theorem WL.one{i:Nat}{o:Oper}{fuel:Nat}{listed:Array Bool}{a:Act}{w:World}(hsh:ShutL md ops listed)(hr:Region.ready md ops listed=[i])(ho:ops[i]?=some o)
  (h:∀K':Act->World->Prop,Shut (∀a w,S (listed.setIfInBounds i true) w->(ShutL md ops (listed.setIfInBounds i true)->S (listed.setIfInBounds i true) w->WL P md ops Q S fuel (listed.setIfInBounds i true) a w)->K' a w)->if Region.wanted o (yielded ops a.tmps)=true then Oper.wp P o a w K' Q else K' (a.put o.dst undef) w) :
  WL P md ops Q S (fuel+1) listed a w :=
 ⟨wpAnyL_one hsh hr ho (fun K' hK=>h K' (fun a w hS hW=>hK a w hS (fun h1 h2=>(hW h1 h2).o)))⟩
theorem WL.done{listed:Array Bool}{a:Act}{w:World}(hr:Region.ready md ops listed=[])(h:Q .normal a w)(fuel:Nat):WL P md ops Q S fuel listed a w:=⟨wpAnyL_done hr h fuel⟩
theorem WL.region{id:Nat}{a:Act}{w:World}(S:Array Bool->World->Prop)(hm:P.follows .mixedOrders=true)
  (h:ShutL .any ops (Array.replicate ops.size false)->WL P .any ops Q S ops.size (Array.replicate ops.size false) a w.drew):(Code.region id ops true).wp P Q a w :=
 wp_region_L S hm (fun h1=>(h h1).o)
def SApp(j:Nat)(C D:World->Prop)(l:Array Bool)(w:World):Prop:=(l.getD j false=false->C w)/\D w
theorem SApp.intro{j:Nat}{C D:World->Prop}{l:Array Bool}{w:World}(h:l.getD j false=false->C w)(h2:D w):SApp j C D l w:=⟨h,h2⟩
theorem SApp.hm{i j:Nat}{C D:World->Prop}(hij:i≠j):∀(l:Array Bool) w,SApp j C D (l.setIfInBounds i true) w↔SApp j C D l w:=fun l w=>by
 unfold SApp;rw[getD_set_ne false hij]
theorem SApp.any{i j:Nat}{C D:World->Prop}:∀(l:Array Bool) w,ShutL md ops l->l.getD i true=false->SApp j C D l w->True:=fun _ _ _ _ _=>trivial
theorem SApp.both{i j:Nat}{C D:World->Prop}(h:(ops[j]?.map fun o=>o.after.any fun e=>Region.binds md e&&e.on==i)=some true):∀(l:Array Bool) w,ShutL md ops l->l.getD i true=false->SApp j C D l w->C w/\D w:=fun l w hl hi hS=>by
 refine⟨hS.1 ?_,hS.2⟩;cases hj:l.getD j false with
 | false=>rfl
 | true =>
   exfalso;cases ho:ops[j]? with
   | none=>rw[ho]at h;cases h
   | some o =>
     rw[ho]at h;simp only[Option.map_some,Option.some.injEq]at h;obtain⟨e,he,h2⟩:=Array.any_eq_true'.1 h;rw[Bool.and_eq_true]at h2;have h3:=hl j o ho hj e he h2.1;rw[show e.on=i by simpa using h2.2]at h3;rw[Array.getD_eq_getD_getElem?]at hi h3;cases hx:l[i]? with
     | none=>rw[hx]at hi;simp at hi
     | some b=>rw[hx]at hi h3;simp at hi h3;rw[hi]at h3;cases h3
def pathB(md:Region.Mode)(ops:Array Oper):Nat->List Nat->Bool
 | _,[]=>true
 | j,k::ks=>((ops[j]?.map fun o=>o.after.any fun e=>Region.binds md e&&e.on==k)==some true)&&pathB md ops k ks
theorem ShutL.path{l:Array Bool}(hl:ShutL md ops l):∀(ks:List Nat) (j:Nat),pathB md ops j ks=true->l.getD j false=true->l.getD (ks.getLastD j) false=true
 | [],j,_,h=>h
 | k::ks,j,hp,h=>by
   simp only[pathB,Bool.and_eq_true,beq_iff_eq]at hp;obtain⟨h1,h2⟩:=hp
   have h3:l.getD k false=true:=by
    cases ho:ops[j]? with
    | none=>rw[ho]at h1;cases h1
    | some o =>
      rw[ho]at h1;simp only[Option.map_some,Option.some.injEq]at h1;obtain⟨e,he,h4⟩:=Array.any_eq_true'.1 h1;rw[Bool.and_eq_true]at h4;have h5:=hl j o ho h e he h4.1;rw[show e.on=k by simpa using h4.2]at h5;exact h5
   have h6:=ShutL.path hl ks k h2 h3;cases ks with
   | nil=>exact h6
   | cons a b=>exact h6
theorem SApp.far{i j:Nat}{C D:World->Prop}(ks:List Nat)(h:pathB md ops j ks=true)(hi':ks.getLastD j=i):∀(l:Array Bool) w,ShutL md ops l->l.getD i true=false->SApp j C D l w->C w/\D w:=fun l w hl hi hS=>by
 refine⟨hS.1 ?_,hS.2⟩;cases hj:l.getD j false with
 | false=>rfl
 | true =>
   exfalso;have h3:=hl.path ks j h hj;rw[hi']at h3;rw[Array.getD_eq_getD_getElem?]at hi h3;cases hx:l[i]? with
   | none=>rw[hx]at hi;simp at hi
   | some b=>rw[hx]at hi h3;simp at hi h3;rw[hi]at h3;cases h3
theorem SApp.right{i j:Nat}{C D:World->Prop}:∀(l:Array Bool) w,ShutL md ops l->l.getD i true=false->SApp j C D l w->D w:=fun _ _ _ _ h=>h.2
end
section
variable{P:Program}{ops:Array Oper}{Q:Exit->Act->World->Prop}{md:Region.Mode}{j:Nat}{C D:World->Prop}{fuel:Nat}{listed:Array Bool}{a:Act}{w:World}
def HasL(md:Region.Mode)(ops:Array Oper)(S:Array Bool->World->Prop)(l:Array Bool)(w:World):Prop:=ShutL md ops l/\S l w
theorem WL.begin{id:Nat}{w:World}(j:Nat)(C D:World->Prop)(hm:P.follows .mixedOrders=true)(hC:C w.drew)(hD:D w.drew)
  (h:HasL .any ops (SApp j C D) (Array.replicate ops.size false) w.drew->WL P .any ops Q (SApp j C D) ops.size (Array.replicate ops.size false) a w.drew):(Code.region id ops true).wp P Q a w :=
 WL.region (SApp j C D) hm fun h1=>h ⟨h1,fun _=>hC,hD⟩
theorem takeB{i:Nat}(hb:(Region.noSelect ops&&Region.free md ops listed i&&(Region.ready md ops listed).contains i&&decide (i≠j))=true):Region.noSelect ops=true/\Region.free md ops listed i=true/\(Region.ready md ops listed).contains i=true/\i≠j:=by
 simp only[Bool.and_eq_true,decide_eq_true_eq]at hb;exact⟨hb.1.1.1,hb.1.1.2,hb.1.2,hb.2⟩
theorem WL.tp{i:Nat}{oi:Oper}{v:Value}(hi:ops[i]?=some oi)(hb:(Region.noSelect ops&&Region.free md ops listed i&&(Region.ready md ops listed).contains i&&decide (i≠j))=true)(hQ:∀c a w,Q (.panic c) (a.put oi.dst v) w->Q (.panic c) a w)
  (hs:HasL md ops (SApp j C D) listed w) (hy:YieldsIf P ops D oi v a)
  (h:HasL md ops (SApp j C D) (listed.setIfInBounds i true) w->WL P md ops Q (SApp j C D) fuel (listed.setIfInBounds i true) (a.put oi.dst v) w):WL P md ops Q (SApp j C D) (fuel+1) listed a w :=
 have hb:=takeB hb
 WL.take hi hb.1 hb.2.1 hb.2.2.1 hQ (SApp.hm hb.2.2.2) SApp.right hs.1 hy hs.2 (fun h1 h2=>h ⟨h1,h2⟩)
theorem WL.tl{i:Nat}{oi:Oper}{v:Value}(ks:List Nat)(hi:ops[i]?=some oi)(hb:(Region.noSelect ops&&Region.free md ops listed i&&(Region.ready md ops listed).contains i&&decide (i≠j))=true)(hp:(pathB md ops j ks&&ks.getLastD j==i)=true)(hQ:∀c a w,Q (.panic c) (a.put oi.dst v) w->Q (.panic c) a w)
  (hs:HasL md ops (SApp j C D) listed w) (hy:YieldsIf P ops (fun w=>C w/\D w) oi v a)
  (h:HasL md ops (SApp j C D) (listed.setIfInBounds i true) w->WL P md ops Q (SApp j C D) fuel (listed.setIfInBounds i true) (a.put oi.dst v) w):WL P md ops Q (SApp j C D) (fuel+1) listed a w :=
 have hb:=takeB hb
 WL.take hi hb.1 hb.2.1 hb.2.2.1 hQ (SApp.hm hb.2.2.2) (SApp.far ks (by simp only[Bool.and_eq_true]at hp;exact hp.1) (by simp only[Bool.and_eq_true,beq_iff_eq]at hp;exact hp.2)) hs.1 hy hs.2 (fun h1 h2=>h ⟨h1,h2⟩)
structure TKs(ts:List (Nat×List Nat))(P:Program)(md:Region.Mode)(ops:Array Oper)(Q:Exit->Act->World->Prop)(j:Nat)(C D:World->Prop)(fuel:Nat)(listed:Array Bool)(a:Act)(w:World):Prop where
 o:HasL md ops (SApp j C D) listed w->WL P md ops Q (SApp j C D) fuel listed a w
theorem WL.tk(ts:List (Nat×List Nat))(hs:HasL md ops (SApp j C D) listed w)(h:TKs ts P md ops Q j C D fuel listed a w):WL P md ops Q (SApp j C D) fuel listed a w:=h.o hs
theorem TKs.p{i:Nat}{ts:List (Nat×List Nat)}{oi:Oper}{v:Value}(hy:∀w,D w->(execOp a.eval oi).run P w=.ok (.value v) w)(h:TKs ts P md ops Q j C D fuel (listed.setIfInBounds i true) (a.put oi.dst v) w)
  (hi:ops[i]?=some oi:=by rfl) (hb:(Region.noSelect ops&&Region.free md ops listed i&&(Region.ready md ops listed).contains i&&decide (i≠j))=true:=by kernel_rfl) (hw:Region.wanted oi (yielded ops a.tmps)=true:=by kernel_rfl) (hQ:∀c a w,Q (.panic c) (a.put oi.dst v) w->Q (.panic c) a w:=by exact fun _ _ _ h=>h) :
  TKs ((i,[])::ts) P md ops Q j C D (fuel+1) listed a w:=⟨fun hs=>WL.tp hi hb hQ hs (Or.inl ⟨hw,hy⟩) h.o⟩
theorem TKs.l{i k:Nat}{ks:List Nat}{ts:List (Nat×List Nat)}{oi:Oper}{v:Value}(hy:∀w,C w/\D w->(execOp a.eval oi).run P w=.ok (.value v) w)(h:TKs ts P md ops Q j C D fuel (listed.setIfInBounds i true) (a.put oi.dst v) w)
  (hi:ops[i]?=some oi:=by rfl) (hb:(Region.noSelect ops&&Region.free md ops listed i&&(Region.ready md ops listed).contains i&&decide (i≠j))=true:=by kernel_rfl) (hp:(pathB md ops j (k::ks)&&(k::ks).getLastD j==i)=true:=by kernel_rfl) (hw:Region.wanted oi (yielded ops a.tmps)=true:=by kernel_rfl) (hQ:∀c a w,Q (.panic c) (a.put oi.dst v) w->Q (.panic c) a w:=by exact fun _ _ _ h=>h) :
  TKs ((i,k::ks)::ts) P md ops Q j C D (fuel+1) listed a w:=⟨fun hs=>WL.tl (k::ks) hi hb hp hQ hs (Or.inl ⟨hw,hy⟩) h.o⟩
theorem WL.o1{i:Nat}{o:Oper}{S:Array Bool->World->Prop}(hr:Region.ready md ops listed=[i])(ho:ops[i]?=some o)(hs:HasL md ops S listed w)
  (h:∀K':Act->World->Prop,RowKit.Hid (∀a w,S (listed.setIfInBounds i true) w->(HasL md ops S (listed.setIfInBounds i true) w->WL P md ops Q S fuel (listed.setIfInBounds i true) a w)->K' a w)->if Region.wanted o (yielded ops a.tmps)=true then Oper.wp P o a w K' Q else K' (a.put o.dst undef) w) :
  WL P md ops Q S (fuel+1) listed a w :=
 WL.one hs.1 hr ho fun K' hK=>h K' (Hd fun a w h1 h2=>hK.o a w h1 fun h3 h4=>h2 ⟨h3,h4⟩)
def StepL(P:Program)(md:Region.Mode)(ops:Array Oper)(Q:Exit->Act->World->Prop)(S:Array Bool->World->Prop)(fuel:Nat)(listed:Array Bool)(a:Act)(w:World)(i:Nat)(o:Oper):Prop :=
 ∀K':Act->World->Prop,RowKit.Hid (∀a w,S (listed.setIfInBounds i true) w->(HasL md ops S (listed.setIfInBounds i true) w->WL P md ops Q S fuel (listed.setIfInBounds i true) a w)->K' a w)->if Region.wanted o (yielded ops a.tmps)=true then Oper.wp P o a w K' Q else K' (a.put o.dst undef) w
theorem WL.oN{S:Array Bool->World->Prop}{rs:List Nat}(hr:Region.ready md ops listed=rs)(hs:HasL md ops S listed w)(h:∀i∈rs,∀o,ops[i]?=some o->StepL P md ops Q S fuel listed a w i o)(hne:rs ≠ []):WL P md ops Q S (fuel+1) listed a w :=
 ⟨fun h0=>(hne (by rw[<-hr,h0])).elim,fun i hi=>by
  have hi2:=hi;rw[hr]at hi2;obtain⟨_,o,ho,_⟩:=mem_ready.1 hi
  exact wpOp_step ho (fun K' hK=>h i hi2 o ho K' (Hd fun a w h1 h2=>hK a w ⟨h1,(h2 ⟨hs.1.set hi,h1⟩).o⟩))⟩
theorem StepL.at(i:Nat){S:Array Bool->World->Prop}{o:Oper}(h:StepL P md ops Q S fuel listed a w i o):StepL P md ops Q S fuel listed a w i o:=h
theorem WL.s1{S:Array Bool->World->Prop}{i:Nat}{oi:Oper}(hr:Region.ready md ops listed=[i])(hi:ops[i]?=some oi)(hs:HasL md ops S listed w)(h1:StepL P md ops Q S fuel listed a w i oi):WL P md ops Q S (fuel+1) listed a w :=
 WL.oN hr hs (fun k hk o ho=>by
  simp only[List.mem_singleton]at hk;subst hk
  rw[hi]at ho;cases ho;exact h1) (by simp)
theorem WL.o2{S:Array Bool->World->Prop}{i j:Nat}{oi oj:Oper}(hr:Region.ready md ops listed=[i,j])(hi:ops[i]?=some oi)(hj:ops[j]?=some oj)(hs:HasL md ops S listed w)
  (h1:StepL P md ops Q S fuel listed a w i oi) (h2:StepL P md ops Q S fuel listed a w j oj):WL P md ops Q S (fuel+1) listed a w :=
 WL.oN hr hs (fun k hk o ho=>by
  simp only[List.mem_cons,List.mem_nil_iff,or_false]at hk;rcases hk with rfl|rfl
  ·rw[hi]at ho;cases ho;exact h1
  ·rw[hj]at ho;cases ho;exact h2) (by simp)
theorem WL.o3{S:Array Bool->World->Prop}{i j k:Nat}{oi oj ok:Oper}(hr:Region.ready md ops listed=[i,j,k])(hi:ops[i]?=some oi)(hj:ops[j]?=some oj)(hk:ops[k]?=some ok)(hs:HasL md ops S listed w)
  (h1:StepL P md ops Q S fuel listed a w i oi) (h2:StepL P md ops Q S fuel listed a w j oj) (h3:StepL P md ops Q S fuel listed a w k ok):WL P md ops Q S (fuel+1) listed a w :=
 WL.oN hr hs (fun q hq o ho=>by
  simp only[List.mem_cons,List.mem_nil_iff,or_false]at hq;rcases hq with rfl|rfl|rfl
  ·rw[hi]at ho;cases ho;exact h1
  ·rw[hj]at ho;cases ho;exact h2
  ·rw[hk]at ho;cases ho;exact h3) (by simp)
end
section
variable{P:Program}{ops:Array Oper}{Q:Exit->Act->World->Prop}{md:Region.Mode}{j:Nat}{C D:World->Prop}{fuel:Nat}{listed:Array Bool}{a:Act}{w:World}
theorem WLp{i:Nat}{ts:List (Nat×List Nat)}{oi:Oper}(v:Value)(hy:∀w,D w->(execOp a.eval oi).run P w=.ok (.value v) w)(h:TKs ts P md ops Q j C D fuel (listed.setIfInBounds i true) (a.put oi.dst v) w)
    (hi:ops[i]?=some oi:=by rfl) (hb:(Region.noSelect ops&&Region.free md ops listed i&&(Region.ready md ops listed).contains i&&decide (i≠j))=true:=by kernel_rfl) (hw:Region.wanted oi (yielded ops a.tmps)=true:=by kernel_rfl) (hQ:∀c a w,Q (.panic c) (a.put oi.dst v) w->Q (.panic c) a w:=by exact fun _ _ _ h=>h):TKs ((i,[])::ts) P md ops Q j C D (fuel+1) listed a w:=TKs.p hy h hi hb hw hQ
theorem WLl{i k:Nat}{ks:List Nat}{ts:List (Nat×List Nat)}{oi:Oper}(v:Value)(hy:∀w,C w/\D w->(execOp a.eval oi).run P w=.ok (.value v) w)(h:TKs ts P md ops Q j C D fuel (listed.setIfInBounds i true) (a.put oi.dst v) w)
    (hi:ops[i]?=some oi:=by rfl) (hb:(Region.noSelect ops&&Region.free md ops listed i&&(Region.ready md ops listed).contains i&&decide (i≠j))=true:=by kernel_rfl) (hp:(pathB md ops j (k::ks)&&(k::ks).getLastD j==i)=true:=by kernel_rfl) (hw:Region.wanted oi (yielded ops a.tmps)=true:=by kernel_rfl) (hQ:∀c a w,Q (.panic c) (a.put oi.dst v) w->Q (.panic c) a w:=by exact fun _ _ _ h=>h):TKs ((i,k::ks)::ts) P md ops Q j C D (fuel+1) listed a w:=TKs.l hy h hi hb hp hw hQ
theorem WLo(i:Nat){o:Oper}{S:Array Bool->World->Prop}(hs:HasL md ops S listed w)
    (h:∀K':Act->World->Prop,RowKit.Hid (∀a w,S (listed.setIfInBounds i true) w->(HasL md ops S (listed.setIfInBounds i true) w->WL P md ops Q S fuel (listed.setIfInBounds i true) a w)->K' a w)->if Region.wanted o (yielded ops a.tmps)=true then Oper.wp P o a w K' Q else K' (a.put o.dst undef) w)
    (hr:Region.ready md ops listed=[i]:=by kernel_rfl) (ho:ops[i]?=some o:=by rfl):WL P md ops Q S (fuel+1) listed a w:=WL.o1 hr ho hs h
theorem WLd{S:Array Bool->World->Prop}(h:Q .normal a w)(fuel:Nat)(hr:Region.ready md ops listed=[]:=by kernel_rfl):WL P md ops Q S fuel listed a w:=WL.done hr h fuel
theorem SaT{l:Array Bool}(h:D w):SApp j (fun _=>True) D l w:=SApp.intro (fun _=>trivial) h
theorem SaF{l:Array Bool}(h:l.getD j false=true:=by rfl):SApp j C (fun _=>True) l w:=SApp.intro (fun e=>by rw[h]at e;cases e) trivial
end
section
variable{P:Program}{ops:Array Oper}{Q:Exit->Act->World->Prop}{md:Region.Mode}{I:Act->Prop}
def PanQ(I:Act->Prop)(Q:Exit->Act->World->Prop):Exit->Act->World->Prop
 | .panic c,a,w=>∀a',I a'->a'.defers=a.defers->Q (.panic c) a' w
 | e,a,w=>Q e a w
theorem PanQ.normal{a:Act}{w:World}(h:Q .normal a w):PanQ I Q .normal a w:=h
theorem PanQ.letsOut(h:LetsOut (PanQ I Q)):LetsOut Q:=h
theorem Oper.wp_inv{o:Oper}{a:Act}{w:World}{K K2:Act->World->Prop}(hI:∀a v,I a->I (a.put o.dst v))(hD:∀a d,I a->I { a with defers:=d::a.defers })(ha:I a)(h:∀a w,I a->K a w->K2 a w)
  (hh:o.wp P a w K (PanQ I Q)):o.wp P a w K2 Q:=by
 unfold Oper.wp at *;generalize(execOp a.eval o).run P w=r at *;cases r with
 | ok n w' =>
   cases n with
   | value v=>exact h _ _ (hI _ _ ha) hh
   | skip=>exact h _ _ (hI _ _ ha) hh
   | defer d=>exact h _ _ (hI _ _ (hD _ _ ha)) hh
   | enter f args =>
     simp only[Oper.upon]at hh ⊢;refine Calls.mono hh (fun e w'' he=>?_);cases e with
     | returned v=>exact h _ _ (hI _ _ ha) he
     | panicked c=>exact he a ha rfl
     | outgrown=>exact PanQ.letsOut he
   | row row args =>
     simp only[Oper.upon]at hh ⊢;exact Rows.mono hh (fun _ _ he=>h _ _ (hI _ _ ha) he)
   | _=>exact hh.elim
 | halt x w' =>
   cases x with
   | panic v=>exact hh a ha rfl
   | _=>exact hh.elim
theorem wpAny_inv(hI:∀(i:Nat) o,ops[i]?=some o->∀a v,I a->I (a.put o.dst v))(hD:∀a d,I a->I { a with defers:=d::a.defers }):∀(fuel:Nat) (listed:Array Bool) (a:Act) (w:World),I a->wpAny P md ops (PanQ I Q) fuel listed a w->wpAny P md ops Q fuel listed a w
 | 0,_,_,_,_,h=>h
 | fuel+1,listed,a,w,ha,h=>by
   refine⟨h.1,fun i hi=>?_⟩;have h2:=h.2 i hi;unfold wpOp at h2 ⊢;cases ho:ops[i]? with
   | none=>rw[ho]at h2;exact wpAny_inv hI hD fuel _ a w ha h2
   | some o =>
     rw[ho]at h2;simp only at h2 ⊢;by_cases hw:Region.wanted o (yielded ops a.tmps)=true
     ·rw[if_pos hw]at h2 ⊢
      rcases h2 with h2|h2
      ·exact .inl (Oper.wp_inv (hI i o ho) hD ha (fun a' w' ha' hk=>wpAny_inv hI hD fuel _ a' w' ha' hk) h2)
      ·exact .inr ⟨h2.1,PanQ.letsOut h2.2⟩
     ·rw[if_neg hw]at h2 ⊢
      exact wpAny_inv hI hD fuel _ _ w (hI i o ho _ _ ha) h2
def Slots(t u:Nat)(x y:Value)(a:Act):Prop:=a.tmps[t]?=some x/\a.tmps[u]?=some y
theorem Slots.put{t u:Nat}{x y:Value}{a:Act}(h:Slots t u x y a)(d:Option Tmp)(v:Value)(hd:d≠some t/\d≠some u):Slots t u x y (a.put d v):=by
 cases d with
 | none=>exact h
 | some k =>
   have h1:k≠t:=fun e=>hd.1 (by rw[e])
   have h2:k≠u:=fun e=>hd.2 (by rw[e])
   refine⟨?_,?_⟩
   ·show(a.tmps.setIfInBounds k v)[t]? = _
    rw[Array.getElem?_setIfInBounds_ne h1];exact h.1
   ·show(a.tmps.setIfInBounds k v)[u]? = _
    rw[Array.getElem?_setIfInBounds_ne h2];exact h.2
theorem WL.beginP{id:Nat}{a:Act}{w:World}(t u:Nat)(x y:Value)(j:Nat)(C D:World->Prop)(hm:P.follows .mixedOrders=true)(hs:Slots t u x y a)(hn:(ops.toList.all fun o=>decide (o.dst≠some t/\o.dst≠some u))=true)(hC:C w.drew)(hD:D w.drew)
  (h:HasL .any ops (SApp j C D) (Array.replicate ops.size false) w.drew->WL P .any ops (PanQ (Slots t u x y) Q) (SApp j C D) ops.size (Array.replicate ops.size false) a w.drew):(Code.region id ops true).wp P Q a w:=by
 refine wp_region_any hm (wpAny_inv (I:=Slots t u x y) (fun i o ho a v ha=>?_) (fun a d ha=>ha) _ _ _ _ hs (wpAny_of_L _ _ _ _ (h ⟨ShutL.start _,fun _=>hC,hD⟩).o));have h1:=List.all_eq_true.1 hn o (List.mem_of_getElem? (by rw[Array.getElem?_toList];exact ho));exact ha.put _ _ (of_decide_eq_true h1)
end
end Go.Proofs.YtfeipbgnjainlaaGreatDoor.K
