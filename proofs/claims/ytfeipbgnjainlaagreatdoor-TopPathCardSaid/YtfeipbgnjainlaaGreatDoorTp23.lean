/- TKnC -/
import Derived.Test.YtfeipbgnjainlaaGreatDoorTp10
import Derived.Test.YtfeipbgnjainlaaGreatDoorTp4
import Derived.Test.YtfeipbgnjainlaaGreatDoorTp2
import Derived.Test.YtfeipbgnjainlaaGreatDoorTp22
import Derived.Test.YtfeipbgnjainlaaGreatDoorTp14
set_option linter.unusedVariables false
set_option linter.unusedSimpArgs false
set_option maxRecDepth 100000
set_option maxHeartbeats 8000000
namespace Go.Proofs.YtfeipbgnjainlaaGreatDoor.K
open Go Go.RowKit Go.Maps Go.Sort
theorem spDo_agg(op:Int)(nr:Bool)(lo hi lo2 hi2:BitVec 64)(w:World)(hop:1<=op/\op<=13):Calls Tryz.prog 168 #[.int .u8 op,.bool nr,.agg #[W64 lo,W64 hi],.agg #[W64 lo2,W64 hi2]] w (Ret w (.agg #[W64 (T.sdo op nr ⟨lo,hi⟩ ⟨lo2,hi2⟩).lo,W64 (T.sdo op nr ⟨lo,hi⟩ ⟨lo2,hi2⟩).hi])):=spDo_any op nr ⟨lo,hi⟩ ⟨lo2,hi2⟩ w hop
theorem nought_agg(lo hi:BitVec 64)(b:Bool)(w:World):Calls Tryz.prog 167 #[.agg #[W64 lo,W64 hi],.bool b] w (Ret w (.bool (T.nought ⟨lo,hi⟩ b))):=nought_any ⟨lo,hi⟩ b w
def kdo2(op:Int)(narrow:Bool)(a b:T.Kn):T.Kn×Int :=
 if a.isN&&b.isN&&decide (op=4\/op=5)&&T.nought b.numS narrow then(T.Kn.none,113)
 else if a.isN&&b.isN then(⟨1,T.sdo op narrow a.numS b.numS⟩,0)
 else if(decide (op=1\/op=2) && !narrow&&b.isN)&&decide (a.k=2)||(decide (op=1\/op=2) && !narrow&&b.isN)&&decide (a.k=3)&&b.numS.lo==b.numS.hi then(⟨a.k,T.sdo op false a.s b.numS⟩,0)
 else(T.Kn.none,114)
section
variable{op:Int}{nr:Bool}{a b:T.Kn}
theorem kd_any(ho:1<=op/\op<=13)(ha:a.right=true)(hb:b.right=true):T.kdo op nr a b=if(op≠12/\a.k=0)\/(op≠13/\b.k=0)then(T.Kn.none,110)else if op=12/\nr=false then(b,0)else kdo2 op nr (if op=12 then b else a) (if op=13 then(if op=12 then b else a)else b):=by
 unfold T.kdo;rw[if_neg (by rw[ha,hb];simp;omega)];split
 ·rfl
 ·split
  ·rfl
  ·by_cases h13:op=13
   ·subst h13;rfl
   ·simp only[h13,if_false];rfl
theorem kd_unset(ho:1<=op/\op<=13)(ha:a.right=true)(hb:b.right=true)(h:(op≠12/\a.k=0)\/(op≠13/\b.k=0)):T.kdo op nr a b=(T.Kn.none,110):=by rw[kd_any ho ha hb,if_pos h]
theorem kd_mov(ha:a.right=true)(hb:b.right=true)(h:¬b.k=0):T.kdo 12 false a b=(b,0):=by rw[kd_any (by decide) ha hb,if_neg (by omega),if_pos ⟨rfl,rfl⟩]
theorem kd_movn(ha:a.right=true)(hb:b.right=true)(h:¬b.k=0):T.kdo 12 true a b=kdo2 12 true b b:=by rw[kd_any (by decide) ha hb,if_neg (by omega),if_neg (by simp)];rfl
theorem kd_neg(ha:a.right=true)(hb:b.right=true)(h:¬a.k=0):T.kdo 13 nr a b=kdo2 13 nr a a:=by rw[kd_any (by decide) ha hb,if_neg (by omega),if_neg (by simp)];rfl
theorem kd_else(ho:1<=op/\op<=13)(ha:a.right=true)(hb:b.right=true)(h12:¬op=12)(h13:¬op=13)(h1:¬a.k=0)(h2:¬b.k=0):T.kdo op nr a b=kdo2 op nr a b:=by
 rw[kd_any ho ha hb,if_neg (by omega),if_neg (fun e=>h12 e.1),if_neg h12,if_neg h13]
theorem k2_div(hi:a.isN=true)(hj:b.isN=true)(h45:op=4\/op=5)(hn:T.nought b.numS nr=true):kdo2 op nr a b=(T.Kn.none,113):=by
 unfold kdo2;rw[hi,hj,hn,decide_eq_true h45];rfl
theorem k2_num(hi:a.isN=true)(hj:b.isN=true)(h:¬((op=4\/op=5)/\T.nought b.numS nr=true)):kdo2 op nr a b=(⟨1,T.sdo op nr a.numS b.numS⟩,0):=by
 unfold kdo2;rw[hi,hj,if_neg (by simpa using h)];rfl
theorem k2_mv(hi:a.isN=false)(hj:b.isN=true)(h12:op=1\/op=2)(hk:a.k=2\/(a.k=3/\(b.numS.lo==b.numS.hi)=true)):kdo2 op false a b=(⟨a.k,T.sdo op false a.s b.numS⟩,0):=by
 unfold kdo2;rw[hi,hj,decide_eq_true h12];rcases hk with e|⟨e,e2⟩
 ·simp[e]
 ·simp[e,e2]
theorem k2_ptr(hn:(a.isN&&b.isN)=false)(h:¬((op=1\/op=2)/\nr=false/\b.isN=true/\(a.k=2\/(a.k=3/\(b.numS.lo==b.numS.hi)=true)))):kdo2 op nr a b=(T.Kn.none,114):=by
 unfold kdo2;rw[hn,if_neg (by simp),if_neg (by simp),if_neg];intro e;apply h;simp only[Bool.or_eq_true,Bool.and_eq_true,decide_eq_true_eq,Bool.not_eq_true']at e;rcases e with⟨⟨⟨e1,e2⟩,e3⟩,e4⟩|⟨⟨⟨⟨e1,e2⟩,e3⟩,e4⟩,e5⟩
 ·exact⟨e1,e2,e3,.inl e4⟩
 ·exact⟨e1,e2,e3,.inr ⟨e4,e5⟩⟩
end
section
variable{w w':World}{qA pA rA bA aA:Nat}{q_0 q_1 p_0 p_1 r_0 r_1 r_2 b_0 b_1 b_2 a_0 a_1 a_2:Value}(h:Bank w w' [boxAcc qA 122 [q_0,q_1],boxAcc pA 122 [p_0,p_1],boxAcc rA 124 [r_0,r_1,r_2],boxAcc bA 124 [b_0,b_1,b_2],boxAcc aA 124 [a_0,a_1,a_2]])
include h
theorem kdh_k:w'.cell? ⟨aA,0,none⟩=some a_0/\w'.cell? ⟨aA,1,none⟩=some a_1/\w'.cell? ⟨aA,2,none⟩=some a_2/\w'.cell? ⟨qA,0,none⟩=some q_0/\w'.cell? ⟨qA,1,none⟩=some q_1:=⟨h.cl 4 0,h.cl 4 1,h.cl 4 2,h.cl 0 0,h.cl 0 1⟩
theorem kdh_d:w'.drew.cell? ⟨aA,0,none⟩=some a_0/\w'.drew.cell? ⟨aA,1,none⟩=some a_1/\w'.drew.cell? ⟨aA,2,none⟩=some a_2/\w'.drew.cell? ⟨qA,0,none⟩=some q_0/\w'.drew.cell? ⟨qA,1,none⟩=some q_1:=⟨h.drew.cl 4 0,h.drew.cl 4 1,h.drew.cl 4 2,h.drew.cl 0 0,h.drew.cl 0 1⟩
theorem kdh_s(n0 n1 n2:Value):Bank w (((w'.setCell ⟨rA,0,none⟩ n0).setCell ⟨rA,1,none⟩ n1).setCell ⟨rA,2,none⟩ n2) [boxAcc qA 122 [q_0,q_1],boxAcc pA 122 [p_0,p_1],boxAcc rA 124 [n0,n1,n2],boxAcc bA 124 [b_0,b_1,b_2],boxAcc aA 124 [a_0,a_1,a_2]]:=(((h.bs 2 0 n0).bs 2 1 n1).bs 2 2 n2)
theorem kdh_f:w'.frozen? ⟨rA,0,none⟩=false/\w'.frozen? ⟨rA,1,none⟩=false/\w'.frozen? ⟨rA,2,none⟩=false/\w'.cell? ⟨rA,0,none⟩=some r_0/\w'.cell? ⟨rA,1,none⟩=some r_1/\w'.cell? ⟨rA,2,none⟩=some r_2:=⟨h.free 2 rfl 0,h.free 2 rfl 1,h.free 2 rfl 2,h.cl 2 0,h.cl 2 1,h.cl 2 2⟩
theorem kdh_ks(n0 n1 n2:Value):(((w'.setCell ⟨rA,0,none⟩ n0).setCell ⟨rA,1,none⟩ n1).setCell ⟨rA,2,none⟩ n2).cell? ⟨aA,0,none⟩=some a_0/\(((w'.setCell ⟨rA,0,none⟩ n0).setCell ⟨rA,1,none⟩ n1).setCell ⟨rA,2,none⟩ n2).cell? ⟨aA,1,none⟩=some a_1/\(((w'.setCell ⟨rA,0,none⟩ n0).setCell ⟨rA,1,none⟩ n1).setCell ⟨rA,2,none⟩ n2).cell? ⟨aA,2,none⟩=some a_2/\(((w'.setCell ⟨rA,0,none⟩ n0).setCell ⟨rA,1,none⟩ n1).setCell ⟨rA,2,none⟩ n2).cell? ⟨qA,0,none⟩=some q_0/\(((w'.setCell ⟨rA,0,none⟩ n0).setCell ⟨rA,1,none⟩ n1).setCell ⟨rA,2,none⟩ n2).cell? ⟨qA,1,none⟩=some q_1:=⟨(kdh_s h n0 n1 n2).cl 4 0,(kdh_s h n0 n1 n2).cl 4 1,(kdh_s h n0 n1 n2).cl 4 2,(kdh_s h n0 n1 n2).cl 0 0,(kdh_s h n0 n1 n2).cl 0 1⟩
theorem kdh_kd(n0 n1 n2:Value):(((w'.setCell ⟨rA,0,none⟩ n0).setCell ⟨rA,1,none⟩ n1).setCell ⟨rA,2,none⟩ n2).drew.cell? ⟨aA,0,none⟩=some a_0/\(((w'.setCell ⟨rA,0,none⟩ n0).setCell ⟨rA,1,none⟩ n1).setCell ⟨rA,2,none⟩ n2).drew.cell? ⟨aA,1,none⟩=some a_1/\(((w'.setCell ⟨rA,0,none⟩ n0).setCell ⟨rA,1,none⟩ n1).setCell ⟨rA,2,none⟩ n2).drew.cell? ⟨aA,2,none⟩=some a_2/\(((w'.setCell ⟨rA,0,none⟩ n0).setCell ⟨rA,1,none⟩ n1).setCell ⟨rA,2,none⟩ n2).drew.cell? ⟨qA,0,none⟩=some q_0/\(((w'.setCell ⟨rA,0,none⟩ n0).setCell ⟨rA,1,none⟩ n1).setCell ⟨rA,2,none⟩ n2).drew.cell? ⟨qA,1,none⟩=some q_1:=⟨(kdh_s h n0 n1 n2).drew.cl 4 0,(kdh_s h n0 n1 n2).drew.cl 4 1,(kdh_s h n0 n1 n2).drew.cl 4 2,(kdh_s h n0 n1 n2).drew.cl 0 0,(kdh_s h n0 n1 n2).drew.cl 0 1⟩
end
theorem kf3{w w':World}{rA bA aA:Nat}{r_0 r_1 r_2 b_0 b_1 b_2 a_0 a_1 a_2:Value}(h:Bank w w' [boxAcc rA 124 [r_0,r_1,r_2],boxAcc bA 124 [b_0,b_1,b_2],boxAcc aA 124 [a_0,a_1,a_2]]):w'.cell? ⟨aA,0,none⟩=some a_0/\w'.cell? ⟨aA,1,none⟩=some a_1/\w'.cell? ⟨aA,2,none⟩=some a_2/\w'.frozen? ⟨aA,0,none⟩=false/\w'.frozen? ⟨aA,1,none⟩=false/\w'.frozen? ⟨aA,2,none⟩=false/\w'.cell? ⟨bA,0,none⟩=some b_0/\w'.cell? ⟨bA,1,none⟩=some b_1/\w'.cell? ⟨bA,2,none⟩=some b_2/\w'.frozen? ⟨bA,0,none⟩=false/\w'.frozen? ⟨bA,1,none⟩=false/\w'.frozen? ⟨bA,2,none⟩=false/\w'.cell? ⟨rA,0,none⟩=some r_0/\w'.cell? ⟨rA,1,none⟩=some r_1/\w'.cell? ⟨rA,2,none⟩=some r_2/\w'.frozen? ⟨rA,0,none⟩=false/\w'.frozen? ⟨rA,1,none⟩=false/\w'.frozen? ⟨rA,2,none⟩=false:=⟨h.cl 2 0,h.cl 2 1,h.cl 2 2,h.free 2 rfl 0,h.free 2 rfl 1,h.free 2 rfl 2,h.cl 1 0,h.cl 1 1,h.cl 1 2,h.free 1 rfl 0,h.free 1 rfl 1,h.free 1 rfl 2,h.cl 0 0,h.cl 0 1,h.cl 0 2,h.free 0 rfl 0,h.free 0 rfl 1,h.free 0 rfl 2⟩
theorem kf4{w w':World}{pA rA bA aA:Nat}{p_0 p_1 r_0 r_1 r_2 b_0 b_1 b_2 a_0 a_1 a_2:Value}(h:Bank w w' [boxAcc pA 122 [p_0,p_1],boxAcc rA 124 [r_0,r_1,r_2],boxAcc bA 124 [b_0,b_1,b_2],boxAcc aA 124 [a_0,a_1,a_2]]):w'.cell? ⟨aA,0,none⟩=some a_0/\w'.cell? ⟨aA,1,none⟩=some a_1/\w'.cell? ⟨aA,2,none⟩=some a_2/\w'.frozen? ⟨aA,0,none⟩=false/\w'.frozen? ⟨aA,1,none⟩=false/\w'.frozen? ⟨aA,2,none⟩=false/\w'.cell? ⟨bA,0,none⟩=some b_0/\w'.cell? ⟨bA,1,none⟩=some b_1/\w'.cell? ⟨bA,2,none⟩=some b_2/\w'.frozen? ⟨bA,0,none⟩=false/\w'.frozen? ⟨bA,1,none⟩=false/\w'.frozen? ⟨bA,2,none⟩=false/\w'.cell? ⟨rA,0,none⟩=some r_0/\w'.cell? ⟨rA,1,none⟩=some r_1/\w'.cell? ⟨rA,2,none⟩=some r_2/\w'.frozen? ⟨rA,0,none⟩=false/\w'.frozen? ⟨rA,1,none⟩=false/\w'.frozen? ⟨rA,2,none⟩=false/\w'.cell? ⟨pA,0,none⟩=some p_0/\w'.cell? ⟨pA,1,none⟩=some p_1:=⟨h.cl 3 0,h.cl 3 1,h.cl 3 2,h.free 3 rfl 0,h.free 3 rfl 1,h.free 3 rfl 2,h.cl 2 0,h.cl 2 1,h.cl 2 2,h.free 2 rfl 0,h.free 2 rfl 1,h.free 2 rfl 2,h.cl 1 0,h.cl 1 1,h.cl 1 2,h.free 1 rfl 0,h.free 1 rfl 1,h.free 1 rfl 2,h.cl 0 0,h.cl 0 1⟩
theorem kf5{w w':World}{qA pA rA bA aA:Nat}{q_0 q_1 p_0 p_1 r_0 r_1 r_2 b_0 b_1 b_2 a_0 a_1 a_2:Value}(h:Bank w w' [boxAcc qA 122 [q_0,q_1],boxAcc pA 122 [p_0,p_1],boxAcc rA 124 [r_0,r_1,r_2],boxAcc bA 124 [b_0,b_1,b_2],boxAcc aA 124 [a_0,a_1,a_2]]):w'.cell? ⟨aA,0,none⟩=some a_0/\w'.cell? ⟨aA,1,none⟩=some a_1/\w'.cell? ⟨aA,2,none⟩=some a_2/\w'.frozen? ⟨aA,0,none⟩=false/\w'.frozen? ⟨aA,1,none⟩=false/\w'.frozen? ⟨aA,2,none⟩=false/\w'.cell? ⟨bA,0,none⟩=some b_0/\w'.cell? ⟨bA,1,none⟩=some b_1/\w'.cell? ⟨bA,2,none⟩=some b_2/\w'.frozen? ⟨bA,0,none⟩=false/\w'.frozen? ⟨bA,1,none⟩=false/\w'.frozen? ⟨bA,2,none⟩=false/\w'.cell? ⟨rA,0,none⟩=some r_0/\w'.cell? ⟨rA,1,none⟩=some r_1/\w'.cell? ⟨rA,2,none⟩=some r_2/\w'.frozen? ⟨rA,0,none⟩=false/\w'.frozen? ⟨rA,1,none⟩=false/\w'.frozen? ⟨rA,2,none⟩=false/\w'.cell? ⟨pA,0,none⟩=some p_0/\w'.cell? ⟨pA,1,none⟩=some p_1/\w'.cell? ⟨qA,0,none⟩=some q_0/\w'.cell? ⟨qA,1,none⟩=some q_1:=⟨h.cl 4 0,h.cl 4 1,h.cl 4 2,h.free 4 rfl 0,h.free 4 rfl 1,h.free 4 rfl 2,h.cl 3 0,h.cl 3 1,h.cl 3 2,h.free 3 rfl 0,h.free 3 rfl 1,h.free 3 rfl 2,h.cl 2 0,h.cl 2 1,h.cl 2 2,h.free 2 rfl 0,h.free 2 rfl 1,h.free 2 rfl 2,h.cl 1 0,h.cl 1 1,h.cl 0 0,h.cl 0 1⟩
theorem Bank.s3{w0 w:World}{L:List Acc}(h:Bank w0 w L)(i:Nat){g:Nat}{t:TypeId}{v0 v1 v2:Value}{vs:List Value}(hi:L[i]?=some (boxAcc g t (v0::v1::v2::vs)))(x y z:Value):Since w0 (((w.setCell ⟨g,0,Option.none⟩ x).setCell ⟨g,1,Option.none⟩ y).setCell ⟨g,2,Option.none⟩ z):=by
 have hl:i<L.length:=(List.getElem?_eq_some_iff.1 hi).1;exact(((h.boxSet i hi 0 x).boxSet i (by rw[List.getElem?_set_self hl]) 1 y).boxSet i (by rw[List.getElem?_set_self (by simpa using hl)]) 2 z).since
theorem kn_no{a b:T.Kn}(h:a.isN=false\/b.isN=false):(a.isN&&b.isN)=false:=by
 rcases h with h|h<;>rw[h]
 ·rfl
 ·exact Bool.and_false _
theorem kdo_any(op:Int)(nr:Bool)(x y:T.Kn)(hop:1<=op/\op<=13)(hx:x.right=true)(hy:y.right=true)(w:World):Calls Tryz.prog 123 #[.int .u8 op,.bool nr,knv x,knv y] w (Ret w (.tuple #[knv (T.kdo op nr x y).1,.int .i64 (T.kdo op nr x y).2])):=by
 obtain⟨a,⟨lo,hi⟩⟩:=x;obtain⟨b,⟨lo2,hi2⟩⟩:=y;have RA:=Hd hx;have RB:=Hd hy;have HOP:=Hd hop;have hl:¬op<1:=by omega
 have hm:¬ 13<op:=by omega
 clear hx hy hop;obtain⟨z,hz⟩:∃z,T.kdo op nr ⟨a,⟨lo,hi⟩⟩ ⟨b,⟨lo2,hi2⟩⟩=z:=⟨_,rfl⟩
 rw[hz];have HZ:=Hd hz;clear hz;unfold knv;have BK0:=bk3 w [.int .u8 a,W64 lo,W64 hi] 124 [.int .u8 b,W64 lo2,W64 hi2] 124 [.int .u8 0,W64 0#64,W64 0#64] 124;go_enter Tryz.func123,Tryz.ntmps123;go_upto_region 1 with fail;generalize w.heap.size=X at *;refine wp_hid BK0 (fun w1 BK0=>?_);obtain⟨a0,a1,a2,fa0,fa1,fa2,b0,b1,b2,fb0,fb1,fb2,r0,r1,r2,fr0,fr1,fr2⟩:=kf3 BK0.o;go_wp2_with fail;refine(kright_agg a lo hi _).mono ?_;rintro e w2 ⟨rfl,hs⟩;have BK1:=Hd (BK0.o.call hs);clear a0 a1 a2 fa0 fa1 fa2 b0 b1 b2 fb0 fb1 fb2 r0 r1 r2 fr0 fr1 fr2;clear hs BK0;obtain⟨a0,a1,a2,fa0,fa1,fa2,b0,b1,b2,fb0,fb1,fb2,r0,r1,r2,fr0,fr1,fr2⟩:=kf3 BK1.o;rw[RA.o];go_wp2_with fail;refine(kright_agg b lo2 hi2 _).mono ?_;rintro e w3 ⟨rfl,hs⟩;have BK2:=Hd (BK1.o.call hs);clear a0 a1 a2 fa0 fa1 fa2 b0 b1 b2 fb0 fb1 fb2 r0 r1 r2 fr0 fr1 fr2;clear hs BK1;obtain⟨a0,a1,a2,fa0,fa1,fa2,b0,b1,b2,fb0,fb1,fb2,r0,r1,r2,fr0,fr1,fr2⟩:=kf3 BK2.o;rw[RB.o];go_upto_region 3 with fail;clear hl hm;by_cases h12:op=12
 ·subst h12
  by_cases hb0:b=0
  ·have H0:=Hd hb0
   subst hb0;go_wp2;refine bodyPost_ret (v:=.tuple #[.agg #[.int .u8 0,W64 0#64,W64 0#64],.int .i64 110]) ?_ rfl ⟨by rw[<-HZ.o,kd_unset HOP.o RA.o RB.o (.inr ⟨by decide,rfl⟩)]<;>rfl,(BK2.o.s3 0 rfl _ _ _)⟩;simp[results,Tryz.results123,go_sem,r0,r1,r2]
  ·have H0:=Hd hb0
   cases nr
   case false =>
    go_wp2;refine bodyPost_ret (v:=.tuple #[.agg #[.int .u8 b,W64 lo2,W64 hi2],.int .i64 0]) ?_ rfl ⟨by rw[<-HZ.o,kd_mov RA.o RB.o H0.o]<;>rfl,(BK2.o.s3 0 rfl _ _ _)⟩;simp[results,Tryz.results123,go_sem,r0,r1,r2]
   case true =>
    go_upto_region 11 with fail;refine wp_hid (Hd (((BK2.o.bs 2 0 (.int .u8 b)).bs 2 1 (W64 lo2)).bs 2 2 (W64 hi2))) (fun w4 BK3=>?_);clear BK2;clear a0 a1 a2 fa0 fa1 fa2 b0 b1 b2 fb0 fb1 fb2 r0 r1 r2 fr0 fr1 fr2;obtain⟨a0,a1,a2,fa0,fa1,fa2,b0,b1,b2,fb0,fb1,fb2,r0,r1,r2,fr0,fr1,fr2⟩:=kf3 BK3.o;go_wp2_with fail;refine(knum_agg b lo2 hi2 _).mono ?_;rintro e w5 ⟨rfl,hs⟩;have BK4:=Hd (BK3.o.call hs);clear a0 a1 a2 fa0 fa1 fa2 b0 b1 b2 fb0 fb1 fb2 r0 r1 r2 fr0 fr1 fr2;clear hs BK3;obtain⟨a0,a1,a2,fa0,fa1,fa2,b0,b1,b2,fb0,fb1,fb2,r0,r1,r2,fr0,fr1,fr2⟩:=kf3 BK4.o;obtain⟨p,hp⟩:∃q,T.Kn.numS ⟨b,⟨lo2,hi2⟩⟩=q:=⟨_,rfl⟩
    rw[hp];have Hp:=Hd hp;clear hp;obtain⟨i,hi⟩:∃q,T.Kn.isN ⟨b,⟨lo2,hi2⟩⟩=q:=⟨_,rfl⟩
    rw[hi];have Hi:=Hd hi;clear hi;go_upto_region 12 with fail;refine wp_hid (Hd (BK4.o.bx [W64 p.lo,W64 p.hi] 122)) (fun w6 BK5=>?_);generalize w5.heap.size=D at *;clear BK4;clear a0 a1 a2 fa0 fa1 fa2 b0 b1 b2 fb0 fb1 fb2 r0 r1 r2 fr0 fr1 fr2;obtain⟨a0,a1,a2,fa0,fa1,fa2,b0,b1,b2,fb0,fb1,fb2,r0,r1,r2,fr0,fr1,fr2,p0,p1⟩:=kf4 BK5.o;go_wp2_with fail;refine(knum_agg b lo2 hi2 _).mono ?_;rintro e w7 ⟨rfl,hs⟩;have BK6:=Hd (BK5.o.call hs);clear a0 a1 a2 fa0 fa1 fa2 b0 b1 b2 fb0 fb1 fb2 r0 r1 r2 fr0 fr1 fr2 p0 p1;clear hs BK5;obtain⟨a0,a1,a2,fa0,fa1,fa2,b0,b1,b2,fb0,fb1,fb2,r0,r1,r2,fr0,fr1,fr2,p0,p1⟩:=kf4 BK6.o;have Hq:=Hd (rfl:p=p);have Hj:=Hi;rw[Hp.o,Hi.o];go_upto_region 13 with fail;refine wp_hid (Hd (BK6.o.bx [W64 p.lo,W64 p.hi] 122)) (fun w8 BK7=>?_);generalize w7.heap.size=E at *;clear BK6;clear a0 a1 a2 fa0 fa1 fa2 b0 b1 b2 fb0 fb1 fb2 r0 r1 r2 fr0 fr1 fr2 p0 p1;obtain⟨a0,a1,a2,fa0,fa1,fa2,b0,b1,b2,fb0,fb1,fb2,r0,r1,r2,fr0,fr1,fr2,p0,p1,q0,q1⟩:=kf5 BK7.o;cases i
    case true =>
     go_wp2_with fail;refine(spDo_agg 12 true p.lo p.hi p.lo p.hi _ HOP.o).mono ?_;rintro e w9 ⟨rfl,hs⟩;have BK8:=Hd (BK7.o.call hs);clear a0 a1 a2 fa0 fa1 fa2 b0 b1 b2 fb0 fb1 fb2 r0 r1 r2 fr0 fr1 fr2 p0 p1 q0 q1;clear hs BK7;obtain⟨a0,a1,a2,fa0,fa1,fa2,b0,b1,b2,fb0,fb1,fb2,r0,r1,r2,fr0,fr1,fr2,p0,p1,q0,q1⟩:=kf5 BK8.o;go_wp2;refine bodyPost_ret (v:=.tuple #[.agg #[.int .u8 1,W64 (T.sdo 12 true ⟨p.lo,p.hi⟩ ⟨p.lo,p.hi⟩).lo,W64 (T.sdo 12 true ⟨p.lo,p.hi⟩ ⟨p.lo,p.hi⟩).hi],.int .i64 0]) ?_ rfl ⟨by rw[<-HZ.o,kd_movn RA.o RB.o H0.o,k2_num Hi.o Hj.o (by omega),Hp.o]<;>rfl,(BK8.o.s3 2 rfl _ _ _)⟩;simp[results,Tryz.results123,go_sem,r0,r1,r2]
    case false =>
     go_wp2;refine bodyPost_ret (v:=.tuple #[.agg #[.int .u8 0,W64 0#64,W64 0#64],.int .i64 114]) ?_ rfl ⟨by rw[<-HZ.o,kd_movn RA.o RB.o H0.o,k2_ptr (kn_no (by first|exact .inl Hi.o|exact .inr Hj.o)) (by omega)]<;>rfl,(BK7.o.s3 2 rfl _ _ _)⟩;simp[results,Tryz.results123,go_sem,r0,r1,r2]
 ·by_cases h13:op=13
  ·clear h12
   subst h13;by_cases ha0:a=0
   ·have H0:=Hd ha0
    subst ha0;go_wp2;refine bodyPost_ret (v:=.tuple #[.agg #[.int .u8 0,W64 0#64,W64 0#64],.int .i64 110]) ?_ rfl ⟨by rw[<-HZ.o,kd_unset HOP.o RA.o RB.o (.inl ⟨by decide,rfl⟩)]<;>rfl,(BK2.o.s3 0 rfl _ _ _)⟩;simp[results,Tryz.results123,go_sem,r0,r1,r2]
   ·have H0:=Hd ha0
    go_upto_region 11 with fail;refine wp_hid (Hd (((BK2.o.bs 1 0 (.int .u8 a)).bs 1 1 (W64 lo)).bs 1 2 (W64 hi))) (fun w4 BK3=>?_);clear BK2;clear a0 a1 a2 fa0 fa1 fa2 b0 b1 b2 fb0 fb1 fb2 r0 r1 r2 fr0 fr1 fr2;obtain⟨a0,a1,a2,fa0,fa1,fa2,b0,b1,b2,fb0,fb1,fb2,r0,r1,r2,fr0,fr1,fr2⟩:=kf3 BK3.o;go_wp2_with fail;refine(knum_agg a lo hi _).mono ?_;rintro e w5 ⟨rfl,hs⟩;have BK4:=Hd (BK3.o.call hs);clear a0 a1 a2 fa0 fa1 fa2 b0 b1 b2 fb0 fb1 fb2 r0 r1 r2 fr0 fr1 fr2;clear hs BK3;obtain⟨a0,a1,a2,fa0,fa1,fa2,b0,b1,b2,fb0,fb1,fb2,r0,r1,r2,fr0,fr1,fr2⟩:=kf3 BK4.o;obtain⟨p,hp⟩:∃q,T.Kn.numS ⟨a,⟨lo,hi⟩⟩=q:=⟨_,rfl⟩
    rw[hp];have Hp:=Hd hp;clear hp;obtain⟨i,hi⟩:∃q,T.Kn.isN ⟨a,⟨lo,hi⟩⟩=q:=⟨_,rfl⟩
    rw[hi];have Hi:=Hd hi;clear hi;go_upto_region 12 with fail;refine wp_hid (Hd (BK4.o.bx [W64 p.lo,W64 p.hi] 122)) (fun w6 BK5=>?_);generalize w5.heap.size=D at *;clear BK4;clear a0 a1 a2 fa0 fa1 fa2 b0 b1 b2 fb0 fb1 fb2 r0 r1 r2 fr0 fr1 fr2;obtain⟨a0,a1,a2,fa0,fa1,fa2,b0,b1,b2,fb0,fb1,fb2,r0,r1,r2,fr0,fr1,fr2,p0,p1⟩:=kf4 BK5.o;go_wp2_with fail;refine(knum_agg a lo hi _).mono ?_;rintro e w7 ⟨rfl,hs⟩;have BK6:=Hd (BK5.o.call hs);clear a0 a1 a2 fa0 fa1 fa2 b0 b1 b2 fb0 fb1 fb2 r0 r1 r2 fr0 fr1 fr2 p0 p1;clear hs BK5;obtain⟨a0,a1,a2,fa0,fa1,fa2,b0,b1,b2,fb0,fb1,fb2,r0,r1,r2,fr0,fr1,fr2,p0,p1⟩:=kf4 BK6.o;have Hq:=Hd (rfl:p=p);have Hj:=Hi;rw[Hp.o,Hi.o];go_upto_region 13 with fail;refine wp_hid (Hd (BK6.o.bx [W64 p.lo,W64 p.hi] 122)) (fun w8 BK7=>?_);generalize w7.heap.size=E at *;clear BK6;clear a0 a1 a2 fa0 fa1 fa2 b0 b1 b2 fb0 fb1 fb2 r0 r1 r2 fr0 fr1 fr2 p0 p1;obtain⟨a0,a1,a2,fa0,fa1,fa2,b0,b1,b2,fb0,fb1,fb2,r0,r1,r2,fr0,fr1,fr2,p0,p1,q0,q1⟩:=kf5 BK7.o;cases i
    case true =>
     go_wp2_with fail;refine(spDo_agg 13 nr p.lo p.hi p.lo p.hi _ HOP.o).mono ?_;rintro e w9 ⟨rfl,hs⟩;have BK8:=Hd (BK7.o.call hs);clear a0 a1 a2 fa0 fa1 fa2 b0 b1 b2 fb0 fb1 fb2 r0 r1 r2 fr0 fr1 fr2 p0 p1 q0 q1;clear hs BK7;obtain⟨a0,a1,a2,fa0,fa1,fa2,b0,b1,b2,fb0,fb1,fb2,r0,r1,r2,fr0,fr1,fr2,p0,p1,q0,q1⟩:=kf5 BK8.o;go_wp2;refine bodyPost_ret (v:=.tuple #[.agg #[.int .u8 1,W64 (T.sdo 13 nr ⟨p.lo,p.hi⟩ ⟨p.lo,p.hi⟩).lo,W64 (T.sdo 13 nr ⟨p.lo,p.hi⟩ ⟨p.lo,p.hi⟩).hi],.int .i64 0]) ?_ rfl ⟨by rw[<-HZ.o,kd_neg RA.o RB.o H0.o,k2_num Hi.o Hj.o (by omega),Hp.o]<;>rfl,(BK8.o.s3 2 rfl _ _ _)⟩;simp[results,Tryz.results123,go_sem,r0,r1,r2]
    case false =>
     go_wp2;refine bodyPost_ret (v:=.tuple #[.agg #[.int .u8 0,W64 0#64,W64 0#64],.int .i64 114]) ?_ rfl ⟨by rw[<-HZ.o,kd_neg RA.o RB.o H0.o,k2_ptr (kn_no (by first|exact .inl Hi.o|exact .inr Hj.o)) (by omega)]<;>rfl,(BK7.o.s3 2 rfl _ _ _)⟩;simp[results,Tryz.results123,go_sem,r0,r1,r2]
  ·have H12:=Hd h12
   have H13:=Hd h13;by_cases ha0:a=0
   ·have HA0:=Hd ha0
    have hC:(op != 12&&a==0||op != 13&&b==0)=true:=by simp[h12,ha0]
    clear ha0 h12 h13;go_wp2;refine bodyPost_ret (v:=.tuple #[.agg #[.int .u8 0,W64 0#64,W64 0#64],.int .i64 110]) ?_ rfl ⟨by rw[<-HZ.o,kd_unset HOP.o RA.o RB.o (.inl ⟨H12.o,HA0.o⟩)]<;>rfl,(BK2.o.s3 0 rfl _ _ _)⟩;simp[results,Tryz.results123,go_sem,r0,r1,r2]
   ·have HA0:=Hd ha0
    by_cases hb0:b=0
    ·have HB0:=Hd hb0
     have hC:(op != 12&&a==0||op != 13&&b==0)=true:=by simp[h13,hb0]
     clear hb0 ha0 h12 h13;go_wp2;refine bodyPost_ret (v:=.tuple #[.agg #[.int .u8 0,W64 0#64,W64 0#64],.int .i64 110]) ?_ rfl ⟨by rw[<-HZ.o,kd_unset HOP.o RA.o RB.o (.inr ⟨H13.o,HB0.o⟩)]<;>rfl,(BK2.o.s3 0 rfl _ _ _)⟩;simp[results,Tryz.results123,go_sem,r0,r1,r2]
    ·have HB0:=Hd hb0
     rcases(show op=1\/op=2\/op=4\/op=5\/(¬op=1/\¬op=2/\¬op=4/\¬op=5)by omega)with rfl|rfl|rfl|rfl|⟨g1,g2,g4,g5⟩
     ·have ha0:(a==0)=false:=by simpa using HA0.o
      have hb0:(b==0)=false:=by simpa using HB0.o
      clear h12 h13;go_wp2_with fail;refine(knum_agg a lo hi _).mono ?_;rintro e w4 ⟨rfl,hs⟩;have BK3:=Hd (BK2.o.call hs);clear a0 a1 a2 fa0 fa1 fa2 b0 b1 b2 fb0 fb1 fb2 r0 r1 r2 fr0 fr1 fr2;clear hs BK2;obtain⟨a0,a1,a2,fa0,fa1,fa2,b0,b1,b2,fb0,fb1,fb2,r0,r1,r2,fr0,fr1,fr2⟩:=kf3 BK3.o;obtain⟨p,hp⟩:∃q,T.Kn.numS ⟨a,⟨lo,hi⟩⟩=q:=⟨_,rfl⟩
      rw[hp];have Hp:=Hd hp;clear hp;obtain⟨i,hi⟩:∃q,T.Kn.isN ⟨a,⟨lo,hi⟩⟩=q:=⟨_,rfl⟩
      rw[hi];have Hi:=Hd hi;clear hi;go_upto_region 12 with fail;refine wp_hid (Hd (BK3.o.bx [W64 p.lo,W64 p.hi] 122)) (fun w5 BK4=>?_);generalize w4.heap.size=D at *;clear BK3;clear a0 a1 a2 fa0 fa1 fa2 b0 b1 b2 fb0 fb1 fb2 r0 r1 r2 fr0 fr1 fr2;obtain⟨a0,a1,a2,fa0,fa1,fa2,b0,b1,b2,fb0,fb1,fb2,r0,r1,r2,fr0,fr1,fr2,p0,p1⟩:=kf4 BK4.o;go_wp2_with fail;refine(knum_agg b lo2 hi2 _).mono ?_;rintro e w6 ⟨rfl,hs⟩;have BK5:=Hd (BK4.o.call hs);clear a0 a1 a2 fa0 fa1 fa2 b0 b1 b2 fb0 fb1 fb2 r0 r1 r2 fr0 fr1 fr2 p0 p1;clear hs BK4;obtain⟨a0,a1,a2,fa0,fa1,fa2,b0,b1,b2,fb0,fb1,fb2,r0,r1,r2,fr0,fr1,fr2,p0,p1⟩:=kf4 BK5.o;obtain⟨q,hq⟩:∃q,T.Kn.numS ⟨b,⟨lo2,hi2⟩⟩=q:=⟨_,rfl⟩
      rw[hq];have Hq:=Hd hq;clear hq;obtain⟨j,hj⟩:∃q,T.Kn.isN ⟨b,⟨lo2,hi2⟩⟩=q:=⟨_,rfl⟩
      rw[hj];have Hj:=Hd hj;clear hj;go_upto_region 13 with fail;refine wp_hid (Hd (BK5.o.bx [W64 q.lo,W64 q.hi] 122)) (fun w7 BK6=>?_);generalize w6.heap.size=E at *;clear BK5;clear a0 a1 a2 fa0 fa1 fa2 b0 b1 b2 fb0 fb1 fb2 r0 r1 r2 fr0 fr1 fr2 p0 p1;obtain⟨a0,a1,a2,fa0,fa1,fa2,b0,b1,b2,fb0,fb1,fb2,r0,r1,r2,fr0,fr1,fr2,p0,p1,q0,q1⟩:=kf5 BK6.o;cases i
      case false =>
       cases j
       case false =>
        cases nr
        case false =>
         go_wp2;refine bodyPost_ret (v:=.tuple #[.agg #[.int .u8 0,W64 0#64,W64 0#64],.int .i64 114]) ?_ rfl ⟨by rw[<-HZ.o,kd_else HOP.o RA.o RB.o H12.o H13.o HA0.o HB0.o,k2_ptr (kn_no (by first|exact .inl Hi.o|exact .inr Hj.o)) (by rw[Hj.o];simp)]<;>rfl,(BK6.o.s3 2 rfl _ _ _)⟩;simp[results,Tryz.results123,go_sem,r0,r1,r2]
        case true =>
         go_wp2;refine bodyPost_ret (v:=.tuple #[.agg #[.int .u8 0,W64 0#64,W64 0#64],.int .i64 114]) ?_ rfl ⟨by rw[<-HZ.o,kd_else HOP.o RA.o RB.o H12.o H13.o HA0.o HB0.o,k2_ptr (kn_no (by first|exact .inl Hi.o|exact .inr Hj.o)) (by simp)]<;>rfl,(BK6.o.s3 2 rfl _ _ _)⟩;simp[results,Tryz.results123,go_sem,r0,r1,r2]
       case true =>
        cases nr
        case false =>
         by_cases h2:a=2
         ·subst h2
          go_upto_region 20 with fail;have hB:=BK6.o
          go_region_held3 (fun w'=>w'.cell? ⟨X,0,none⟩=some (.int .u8 2)/\w'.cell? ⟨X,1,none⟩=some (W64 lo)/\w'.cell? ⟨X,2,none⟩=some (W64 hi)/\w'.cell? ⟨E,0,none⟩=some (W64 q.lo)/\w'.cell? ⟨E,1,none⟩=some (W64 q.hi))
           (first | with_reducible exact kdh_k hB | with_reducible exact kdh_d hB | with_reducible exact kdh_ks hB _ _ _ | with_reducible exact kdh_kd hB _ _ _ | fail "keep")
           (first | (go_at_call 168; refine (spDo_agg 1 false lo hi q.lo q.hi _ HOP.o).mono ?_; rintro e wh ⟨rfl, hs⟩; (first | have hB := hB.call hs | have hB := hB.drew.call hs); (obtain ⟨fr0, fr1, fr2, r0, r1, r2⟩ := kdh_f hB); clear hs) | fail "arm")
          all_goals
           go_wp2;refine bodyPost_ret (v:=.tuple #[.agg #[.int .u8 2,W64 (T.sdo 1 false ⟨lo,hi⟩ ⟨q.lo,q.hi⟩).lo,W64 (T.sdo 1 false ⟨lo,hi⟩ ⟨q.lo,q.hi⟩).hi],.int .i64 0]) ?_ rfl ⟨by rw[<-HZ.o,kd_else HOP.o RA.o RB.o H12.o H13.o HA0.o HB0.o,k2_mv (op:=1) Hi.o Hj.o (by decide) (.inl rfl),Hq.o]<;>rfl,by first|exact(kdh_s hB _ _ _).since|exact(kdh_s hB _ _ _).since.drew⟩;simp[results,Tryz.results123,go_sem,r0,r1,r2]
         ·by_cases h3:a=3
          ·have HNI:=Hd (show(T.Kn.isN ⟨a,⟨lo,hi⟩⟩&&T.Kn.isN ⟨b,⟨lo2,hi2⟩⟩)=false by first|(rw[Hi.o];rfl)|(rw[Hi.o,Hj.o];rfl))
           subst h3;cases hq:q.lo==q.hi
           case false =>
            have HQ:=Hd hq;go_wp2;refine bodyPost_ret (v:=.tuple #[.agg #[.int .u8 0,W64 0#64,W64 0#64],.int .i64 114]) ?_ rfl ⟨by rw[<-HZ.o,kd_else HOP.o RA.o RB.o H12.o H13.o HA0.o HB0.o,k2_ptr (kn_no (by first|exact .inl Hi.o|exact .inr Hj.o)) (by rw[Hq.o,HQ.o];simp)]<;>rfl,(BK6.o.s3 2 rfl _ _ _)⟩;simp[results,Tryz.results123,go_sem,r0,r1,r2]
           case true =>
            have HQ:=Hd hq;go_upto_region 20 with fail;have hB:=BK6.o
            go_region_held3 (fun w'=>w'.cell? ⟨X,0,none⟩=some (.int .u8 3)/\w'.cell? ⟨X,1,none⟩=some (W64 lo)/\w'.cell? ⟨X,2,none⟩=some (W64 hi)/\w'.cell? ⟨E,0,none⟩=some (W64 q.lo)/\w'.cell? ⟨E,1,none⟩=some (W64 q.hi))
             (first | with_reducible exact kdh_k hB | with_reducible exact kdh_d hB | with_reducible exact kdh_ks hB _ _ _ | with_reducible exact kdh_kd hB _ _ _ | fail "keep")
             (first | (go_at_call 168; refine (spDo_agg 1 false lo hi q.lo q.hi _ HOP.o).mono ?_; rintro e wh ⟨rfl, hs⟩; (first | have hB := hB.call hs | have hB := hB.drew.call hs); (obtain ⟨fr0, fr1, fr2, r0, r1, r2⟩ := kdh_f hB); clear hs) | fail "arm")
            all_goals
             go_wp2;refine bodyPost_ret (v:=.tuple #[.agg #[.int .u8 3,W64 (T.sdo 1 false ⟨lo,hi⟩ ⟨q.lo,q.hi⟩).lo,W64 (T.sdo 1 false ⟨lo,hi⟩ ⟨q.lo,q.hi⟩).hi],.int .i64 0]) ?_ rfl ⟨by rw[<-HZ.o,kd_else HOP.o RA.o RB.o H12.o H13.o HA0.o HB0.o,k2_mv (op:=1) Hi.o Hj.o (by decide) (.inr ⟨rfl,by rw[Hq.o];exact HQ.o⟩),Hq.o]<;>rfl,by first|exact(kdh_s hB _ _ _).since|exact(kdh_s hB _ _ _).since.drew⟩;simp[results,Tryz.results123,go_sem,r0,r1,r2]
          ·have H2:=Hd h2
           have H3:=Hd h3;have h2:(a==2)=false:=by simpa using H2.o
           have h3:(a==3)=false:=by simpa using H3.o
           go_wp2;refine bodyPost_ret (v:=.tuple #[.agg #[.int .u8 0,W64 0#64,W64 0#64],.int .i64 114]) ?_ rfl ⟨by rw[<-HZ.o,kd_else HOP.o RA.o RB.o H12.o H13.o HA0.o HB0.o,k2_ptr (kn_no (by first|exact .inl Hi.o|exact .inr Hj.o)) (by intro e;rcases e.2.2.2 with e|e;exact H2.o e;exact H3.o e.1)]<;>rfl,(BK6.o.s3 2 rfl _ _ _)⟩;simp[results,Tryz.results123,go_sem,r0,r1,r2]
        case true =>
         go_wp2;refine bodyPost_ret (v:=.tuple #[.agg #[.int .u8 0,W64 0#64,W64 0#64],.int .i64 114]) ?_ rfl ⟨by rw[<-HZ.o,kd_else HOP.o RA.o RB.o H12.o H13.o HA0.o HB0.o,k2_ptr (kn_no (by first|exact .inl Hi.o|exact .inr Hj.o)) (by simp)]<;>rfl,(BK6.o.s3 2 rfl _ _ _)⟩;simp[results,Tryz.results123,go_sem,r0,r1,r2]
      case true =>
       cases j
       case false =>
        cases nr
        case false =>
         go_wp2;refine bodyPost_ret (v:=.tuple #[.agg #[.int .u8 0,W64 0#64,W64 0#64],.int .i64 114]) ?_ rfl ⟨by rw[<-HZ.o,kd_else HOP.o RA.o RB.o H12.o H13.o HA0.o HB0.o,k2_ptr (kn_no (by first|exact .inl Hi.o|exact .inr Hj.o)) (by rw[Hj.o];simp)]<;>rfl,(BK6.o.s3 2 rfl _ _ _)⟩;simp[results,Tryz.results123,go_sem,r0,r1,r2]
        case true =>
         go_wp2;refine bodyPost_ret (v:=.tuple #[.agg #[.int .u8 0,W64 0#64,W64 0#64],.int .i64 114]) ?_ rfl ⟨by rw[<-HZ.o,kd_else HOP.o RA.o RB.o H12.o H13.o HA0.o HB0.o,k2_ptr (kn_no (by first|exact .inl Hi.o|exact .inr Hj.o)) (by simp)]<;>rfl,(BK6.o.s3 2 rfl _ _ _)⟩;simp[results,Tryz.results123,go_sem,r0,r1,r2]
       case true =>
        cases nr
        case false =>
         go_wp2_with fail;refine(spDo_agg 1 false p.lo p.hi q.lo q.hi _ HOP.o).mono ?_;rintro e w8 ⟨rfl,hs⟩;have BK7:=Hd (BK6.o.call hs);clear a0 a1 a2 fa0 fa1 fa2 b0 b1 b2 fb0 fb1 fb2 r0 r1 r2 fr0 fr1 fr2 p0 p1 q0 q1;clear hs BK6;obtain⟨a0,a1,a2,fa0,fa1,fa2,b0,b1,b2,fb0,fb1,fb2,r0,r1,r2,fr0,fr1,fr2,p0,p1,q0,q1⟩:=kf5 BK7.o;go_wp2;refine bodyPost_ret (v:=.tuple #[.agg #[.int .u8 1,W64 (T.sdo 1 false ⟨p.lo,p.hi⟩ ⟨q.lo,q.hi⟩).lo,W64 (T.sdo 1 false ⟨p.lo,p.hi⟩ ⟨q.lo,q.hi⟩).hi],.int .i64 0]) ?_ rfl ⟨by rw[<-HZ.o,kd_else HOP.o RA.o RB.o H12.o H13.o HA0.o HB0.o,k2_num (op:=1) Hi.o Hj.o (by simp),Hp.o,Hq.o]<;>rfl,(BK7.o.s3 2 rfl _ _ _)⟩;simp[results,Tryz.results123,go_sem,r0,r1,r2]
        case true =>
         go_wp2_with fail;refine(spDo_agg 1 true p.lo p.hi q.lo q.hi _ HOP.o).mono ?_;rintro e w8 ⟨rfl,hs⟩;have BK7:=Hd (BK6.o.call hs);clear a0 a1 a2 fa0 fa1 fa2 b0 b1 b2 fb0 fb1 fb2 r0 r1 r2 fr0 fr1 fr2 p0 p1 q0 q1;clear hs BK6;obtain⟨a0,a1,a2,fa0,fa1,fa2,b0,b1,b2,fb0,fb1,fb2,r0,r1,r2,fr0,fr1,fr2,p0,p1,q0,q1⟩:=kf5 BK7.o;go_wp2;refine bodyPost_ret (v:=.tuple #[.agg #[.int .u8 1,W64 (T.sdo 1 true ⟨p.lo,p.hi⟩ ⟨q.lo,q.hi⟩).lo,W64 (T.sdo 1 true ⟨p.lo,p.hi⟩ ⟨q.lo,q.hi⟩).hi],.int .i64 0]) ?_ rfl ⟨by rw[<-HZ.o,kd_else HOP.o RA.o RB.o H12.o H13.o HA0.o HB0.o,k2_num (op:=1) Hi.o Hj.o (by simp),Hp.o,Hq.o]<;>rfl,(BK7.o.s3 2 rfl _ _ _)⟩;simp[results,Tryz.results123,go_sem,r0,r1,r2]
     ·have ha0:(a==0)=false:=by simpa using HA0.o
      have hb0:(b==0)=false:=by simpa using HB0.o
      clear h12 h13;go_wp2_with fail;refine(knum_agg a lo hi _).mono ?_;rintro e w4 ⟨rfl,hs⟩;have BK3:=Hd (BK2.o.call hs);clear a0 a1 a2 fa0 fa1 fa2 b0 b1 b2 fb0 fb1 fb2 r0 r1 r2 fr0 fr1 fr2;clear hs BK2;obtain⟨a0,a1,a2,fa0,fa1,fa2,b0,b1,b2,fb0,fb1,fb2,r0,r1,r2,fr0,fr1,fr2⟩:=kf3 BK3.o;obtain⟨p,hp⟩:∃q,T.Kn.numS ⟨a,⟨lo,hi⟩⟩=q:=⟨_,rfl⟩
      rw[hp];have Hp:=Hd hp;clear hp;obtain⟨i,hi⟩:∃q,T.Kn.isN ⟨a,⟨lo,hi⟩⟩=q:=⟨_,rfl⟩
      rw[hi];have Hi:=Hd hi;clear hi;go_upto_region 12 with fail;refine wp_hid (Hd (BK3.o.bx [W64 p.lo,W64 p.hi] 122)) (fun w5 BK4=>?_);generalize w4.heap.size=D at *;clear BK3;clear a0 a1 a2 fa0 fa1 fa2 b0 b1 b2 fb0 fb1 fb2 r0 r1 r2 fr0 fr1 fr2;obtain⟨a0,a1,a2,fa0,fa1,fa2,b0,b1,b2,fb0,fb1,fb2,r0,r1,r2,fr0,fr1,fr2,p0,p1⟩:=kf4 BK4.o;go_wp2_with fail;refine(knum_agg b lo2 hi2 _).mono ?_;rintro e w6 ⟨rfl,hs⟩;have BK5:=Hd (BK4.o.call hs);clear a0 a1 a2 fa0 fa1 fa2 b0 b1 b2 fb0 fb1 fb2 r0 r1 r2 fr0 fr1 fr2 p0 p1;clear hs BK4;obtain⟨a0,a1,a2,fa0,fa1,fa2,b0,b1,b2,fb0,fb1,fb2,r0,r1,r2,fr0,fr1,fr2,p0,p1⟩:=kf4 BK5.o;obtain⟨q,hq⟩:∃q,T.Kn.numS ⟨b,⟨lo2,hi2⟩⟩=q:=⟨_,rfl⟩
      rw[hq];have Hq:=Hd hq;clear hq;obtain⟨j,hj⟩:∃q,T.Kn.isN ⟨b,⟨lo2,hi2⟩⟩=q:=⟨_,rfl⟩
      rw[hj];have Hj:=Hd hj;clear hj;go_upto_region 13 with fail;refine wp_hid (Hd (BK5.o.bx [W64 q.lo,W64 q.hi] 122)) (fun w7 BK6=>?_);generalize w6.heap.size=E at *;clear BK5;clear a0 a1 a2 fa0 fa1 fa2 b0 b1 b2 fb0 fb1 fb2 r0 r1 r2 fr0 fr1 fr2 p0 p1;obtain⟨a0,a1,a2,fa0,fa1,fa2,b0,b1,b2,fb0,fb1,fb2,r0,r1,r2,fr0,fr1,fr2,p0,p1,q0,q1⟩:=kf5 BK6.o;cases i
      case false =>
       cases j
       case false =>
        cases nr
        case false =>
         go_wp2;refine bodyPost_ret (v:=.tuple #[.agg #[.int .u8 0,W64 0#64,W64 0#64],.int .i64 114]) ?_ rfl ⟨by rw[<-HZ.o,kd_else HOP.o RA.o RB.o H12.o H13.o HA0.o HB0.o,k2_ptr (kn_no (by first|exact .inl Hi.o|exact .inr Hj.o)) (by rw[Hj.o];simp)]<;>rfl,(BK6.o.s3 2 rfl _ _ _)⟩;simp[results,Tryz.results123,go_sem,r0,r1,r2]
        case true =>
         go_wp2;refine bodyPost_ret (v:=.tuple #[.agg #[.int .u8 0,W64 0#64,W64 0#64],.int .i64 114]) ?_ rfl ⟨by rw[<-HZ.o,kd_else HOP.o RA.o RB.o H12.o H13.o HA0.o HB0.o,k2_ptr (kn_no (by first|exact .inl Hi.o|exact .inr Hj.o)) (by simp)]<;>rfl,(BK6.o.s3 2 rfl _ _ _)⟩;simp[results,Tryz.results123,go_sem,r0,r1,r2]
       case true =>
        cases nr
        case false =>
         by_cases h2:a=2
         ·subst h2
          go_upto_region 20 with fail;have hB:=BK6.o
          go_region_held3 (fun w'=>w'.cell? ⟨X,0,none⟩=some (.int .u8 2)/\w'.cell? ⟨X,1,none⟩=some (W64 lo)/\w'.cell? ⟨X,2,none⟩=some (W64 hi)/\w'.cell? ⟨E,0,none⟩=some (W64 q.lo)/\w'.cell? ⟨E,1,none⟩=some (W64 q.hi))
           (first | with_reducible exact kdh_k hB | with_reducible exact kdh_d hB | with_reducible exact kdh_ks hB _ _ _ | with_reducible exact kdh_kd hB _ _ _ | fail "keep")
           (first | (go_at_call 168; refine (spDo_agg 2 false lo hi q.lo q.hi _ HOP.o).mono ?_; rintro e wh ⟨rfl, hs⟩; (first | have hB := hB.call hs | have hB := hB.drew.call hs); (obtain ⟨fr0, fr1, fr2, r0, r1, r2⟩ := kdh_f hB); clear hs) | fail "arm")
          all_goals
           go_wp2;refine bodyPost_ret (v:=.tuple #[.agg #[.int .u8 2,W64 (T.sdo 2 false ⟨lo,hi⟩ ⟨q.lo,q.hi⟩).lo,W64 (T.sdo 2 false ⟨lo,hi⟩ ⟨q.lo,q.hi⟩).hi],.int .i64 0]) ?_ rfl ⟨by rw[<-HZ.o,kd_else HOP.o RA.o RB.o H12.o H13.o HA0.o HB0.o,k2_mv (op:=2) Hi.o Hj.o (by decide) (.inl rfl),Hq.o]<;>rfl,by first|exact(kdh_s hB _ _ _).since|exact(kdh_s hB _ _ _).since.drew⟩;simp[results,Tryz.results123,go_sem,r0,r1,r2]
         ·by_cases h3:a=3
          ·have HNI:=Hd (show(T.Kn.isN ⟨a,⟨lo,hi⟩⟩&&T.Kn.isN ⟨b,⟨lo2,hi2⟩⟩)=false by first|(rw[Hi.o];rfl)|(rw[Hi.o,Hj.o];rfl))
           subst h3;cases hq:q.lo==q.hi
           case false =>
            have HQ:=Hd hq;go_wp2;refine bodyPost_ret (v:=.tuple #[.agg #[.int .u8 0,W64 0#64,W64 0#64],.int .i64 114]) ?_ rfl ⟨by rw[<-HZ.o,kd_else HOP.o RA.o RB.o H12.o H13.o HA0.o HB0.o,k2_ptr (kn_no (by first|exact .inl Hi.o|exact .inr Hj.o)) (by rw[Hq.o,HQ.o];simp)]<;>rfl,(BK6.o.s3 2 rfl _ _ _)⟩;simp[results,Tryz.results123,go_sem,r0,r1,r2]
           case true =>
            have HQ:=Hd hq;go_upto_region 20 with fail;have hB:=BK6.o
            go_region_held3 (fun w'=>w'.cell? ⟨X,0,none⟩=some (.int .u8 3)/\w'.cell? ⟨X,1,none⟩=some (W64 lo)/\w'.cell? ⟨X,2,none⟩=some (W64 hi)/\w'.cell? ⟨E,0,none⟩=some (W64 q.lo)/\w'.cell? ⟨E,1,none⟩=some (W64 q.hi))
             (first | with_reducible exact kdh_k hB | with_reducible exact kdh_d hB | with_reducible exact kdh_ks hB _ _ _ | with_reducible exact kdh_kd hB _ _ _ | fail "keep")
             (first | (go_at_call 168; refine (spDo_agg 2 false lo hi q.lo q.hi _ HOP.o).mono ?_; rintro e wh ⟨rfl, hs⟩; (first | have hB := hB.call hs | have hB := hB.drew.call hs); (obtain ⟨fr0, fr1, fr2, r0, r1, r2⟩ := kdh_f hB); clear hs) | fail "arm")
            all_goals
             go_wp2;refine bodyPost_ret (v:=.tuple #[.agg #[.int .u8 3,W64 (T.sdo 2 false ⟨lo,hi⟩ ⟨q.lo,q.hi⟩).lo,W64 (T.sdo 2 false ⟨lo,hi⟩ ⟨q.lo,q.hi⟩).hi],.int .i64 0]) ?_ rfl ⟨by rw[<-HZ.o,kd_else HOP.o RA.o RB.o H12.o H13.o HA0.o HB0.o,k2_mv (op:=2) Hi.o Hj.o (by decide) (.inr ⟨rfl,by rw[Hq.o];exact HQ.o⟩),Hq.o]<;>rfl,by first|exact(kdh_s hB _ _ _).since|exact(kdh_s hB _ _ _).since.drew⟩;simp[results,Tryz.results123,go_sem,r0,r1,r2]
          ·have H2:=Hd h2
           have H3:=Hd h3;have h2:(a==2)=false:=by simpa using H2.o
           have h3:(a==3)=false:=by simpa using H3.o
           go_wp2;refine bodyPost_ret (v:=.tuple #[.agg #[.int .u8 0,W64 0#64,W64 0#64],.int .i64 114]) ?_ rfl ⟨by rw[<-HZ.o,kd_else HOP.o RA.o RB.o H12.o H13.o HA0.o HB0.o,k2_ptr (kn_no (by first|exact .inl Hi.o|exact .inr Hj.o)) (by intro e;rcases e.2.2.2 with e|e;exact H2.o e;exact H3.o e.1)]<;>rfl,(BK6.o.s3 2 rfl _ _ _)⟩;simp[results,Tryz.results123,go_sem,r0,r1,r2]
        case true =>
         go_wp2;refine bodyPost_ret (v:=.tuple #[.agg #[.int .u8 0,W64 0#64,W64 0#64],.int .i64 114]) ?_ rfl ⟨by rw[<-HZ.o,kd_else HOP.o RA.o RB.o H12.o H13.o HA0.o HB0.o,k2_ptr (kn_no (by first|exact .inl Hi.o|exact .inr Hj.o)) (by simp)]<;>rfl,(BK6.o.s3 2 rfl _ _ _)⟩;simp[results,Tryz.results123,go_sem,r0,r1,r2]
      case true =>
       cases j
       case false =>
        cases nr
        case false =>
         go_wp2;refine bodyPost_ret (v:=.tuple #[.agg #[.int .u8 0,W64 0#64,W64 0#64],.int .i64 114]) ?_ rfl ⟨by rw[<-HZ.o,kd_else HOP.o RA.o RB.o H12.o H13.o HA0.o HB0.o,k2_ptr (kn_no (by first|exact .inl Hi.o|exact .inr Hj.o)) (by rw[Hj.o];simp)]<;>rfl,(BK6.o.s3 2 rfl _ _ _)⟩;simp[results,Tryz.results123,go_sem,r0,r1,r2]
        case true =>
         go_wp2;refine bodyPost_ret (v:=.tuple #[.agg #[.int .u8 0,W64 0#64,W64 0#64],.int .i64 114]) ?_ rfl ⟨by rw[<-HZ.o,kd_else HOP.o RA.o RB.o H12.o H13.o HA0.o HB0.o,k2_ptr (kn_no (by first|exact .inl Hi.o|exact .inr Hj.o)) (by simp)]<;>rfl,(BK6.o.s3 2 rfl _ _ _)⟩;simp[results,Tryz.results123,go_sem,r0,r1,r2]
       case true =>
        cases nr
        case false =>
         go_wp2_with fail;refine(spDo_agg 2 false p.lo p.hi q.lo q.hi _ HOP.o).mono ?_;rintro e w8 ⟨rfl,hs⟩;have BK7:=Hd (BK6.o.call hs);clear a0 a1 a2 fa0 fa1 fa2 b0 b1 b2 fb0 fb1 fb2 r0 r1 r2 fr0 fr1 fr2 p0 p1 q0 q1;clear hs BK6;obtain⟨a0,a1,a2,fa0,fa1,fa2,b0,b1,b2,fb0,fb1,fb2,r0,r1,r2,fr0,fr1,fr2,p0,p1,q0,q1⟩:=kf5 BK7.o;go_wp2;refine bodyPost_ret (v:=.tuple #[.agg #[.int .u8 1,W64 (T.sdo 2 false ⟨p.lo,p.hi⟩ ⟨q.lo,q.hi⟩).lo,W64 (T.sdo 2 false ⟨p.lo,p.hi⟩ ⟨q.lo,q.hi⟩).hi],.int .i64 0]) ?_ rfl ⟨by rw[<-HZ.o,kd_else HOP.o RA.o RB.o H12.o H13.o HA0.o HB0.o,k2_num (op:=2) Hi.o Hj.o (by simp),Hp.o,Hq.o]<;>rfl,(BK7.o.s3 2 rfl _ _ _)⟩;simp[results,Tryz.results123,go_sem,r0,r1,r2]
        case true =>
         go_wp2_with fail;refine(spDo_agg 2 true p.lo p.hi q.lo q.hi _ HOP.o).mono ?_;rintro e w8 ⟨rfl,hs⟩;have BK7:=Hd (BK6.o.call hs);clear a0 a1 a2 fa0 fa1 fa2 b0 b1 b2 fb0 fb1 fb2 r0 r1 r2 fr0 fr1 fr2 p0 p1 q0 q1;clear hs BK6;obtain⟨a0,a1,a2,fa0,fa1,fa2,b0,b1,b2,fb0,fb1,fb2,r0,r1,r2,fr0,fr1,fr2,p0,p1,q0,q1⟩:=kf5 BK7.o;go_wp2;refine bodyPost_ret (v:=.tuple #[.agg #[.int .u8 1,W64 (T.sdo 2 true ⟨p.lo,p.hi⟩ ⟨q.lo,q.hi⟩).lo,W64 (T.sdo 2 true ⟨p.lo,p.hi⟩ ⟨q.lo,q.hi⟩).hi],.int .i64 0]) ?_ rfl ⟨by rw[<-HZ.o,kd_else HOP.o RA.o RB.o H12.o H13.o HA0.o HB0.o,k2_num (op:=2) Hi.o Hj.o (by simp),Hp.o,Hq.o]<;>rfl,(BK7.o.s3 2 rfl _ _ _)⟩;simp[results,Tryz.results123,go_sem,r0,r1,r2]
     ·have ha0:(a==0)=false:=by simpa using HA0.o
      have hb0:(b==0)=false:=by simpa using HB0.o
      clear h12 h13;go_wp2_with fail;refine(knum_agg a lo hi _).mono ?_;rintro e w4 ⟨rfl,hs⟩;have BK3:=Hd (BK2.o.call hs);clear a0 a1 a2 fa0 fa1 fa2 b0 b1 b2 fb0 fb1 fb2 r0 r1 r2 fr0 fr1 fr2;clear hs BK2;obtain⟨a0,a1,a2,fa0,fa1,fa2,b0,b1,b2,fb0,fb1,fb2,r0,r1,r2,fr0,fr1,fr2⟩:=kf3 BK3.o;obtain⟨p,hp⟩:∃q,T.Kn.numS ⟨a,⟨lo,hi⟩⟩=q:=⟨_,rfl⟩
      rw[hp];have Hp:=Hd hp;clear hp;obtain⟨i,hi⟩:∃q,T.Kn.isN ⟨a,⟨lo,hi⟩⟩=q:=⟨_,rfl⟩
      rw[hi];have Hi:=Hd hi;clear hi;go_upto_region 12 with fail;refine wp_hid (Hd (BK3.o.bx [W64 p.lo,W64 p.hi] 122)) (fun w5 BK4=>?_);generalize w4.heap.size=D at *;clear BK3;clear a0 a1 a2 fa0 fa1 fa2 b0 b1 b2 fb0 fb1 fb2 r0 r1 r2 fr0 fr1 fr2;obtain⟨a0,a1,a2,fa0,fa1,fa2,b0,b1,b2,fb0,fb1,fb2,r0,r1,r2,fr0,fr1,fr2,p0,p1⟩:=kf4 BK4.o;go_wp2_with fail;refine(knum_agg b lo2 hi2 _).mono ?_;rintro e w6 ⟨rfl,hs⟩;have BK5:=Hd (BK4.o.call hs);clear a0 a1 a2 fa0 fa1 fa2 b0 b1 b2 fb0 fb1 fb2 r0 r1 r2 fr0 fr1 fr2 p0 p1;clear hs BK4;obtain⟨a0,a1,a2,fa0,fa1,fa2,b0,b1,b2,fb0,fb1,fb2,r0,r1,r2,fr0,fr1,fr2,p0,p1⟩:=kf4 BK5.o;obtain⟨q,hq⟩:∃q,T.Kn.numS ⟨b,⟨lo2,hi2⟩⟩=q:=⟨_,rfl⟩
      rw[hq];have Hq:=Hd hq;clear hq;obtain⟨j,hj⟩:∃q,T.Kn.isN ⟨b,⟨lo2,hi2⟩⟩=q:=⟨_,rfl⟩
      rw[hj];have Hj:=Hd hj;clear hj;go_upto_region 13 with fail;refine wp_hid (Hd (BK5.o.bx [W64 q.lo,W64 q.hi] 122)) (fun w7 BK6=>?_);generalize w6.heap.size=E at *;clear BK5;clear a0 a1 a2 fa0 fa1 fa2 b0 b1 b2 fb0 fb1 fb2 r0 r1 r2 fr0 fr1 fr2 p0 p1;obtain⟨a0,a1,a2,fa0,fa1,fa2,b0,b1,b2,fb0,fb1,fb2,r0,r1,r2,fr0,fr1,fr2,p0,p1,q0,q1⟩:=kf5 BK6.o;cases i
      case false =>
       cases j
       case false =>
        go_wp2;refine bodyPost_ret (v:=.tuple #[.agg #[.int .u8 0,W64 0#64,W64 0#64],.int .i64 114]) ?_ rfl ⟨by rw[<-HZ.o,kd_else HOP.o RA.o RB.o H12.o H13.o HA0.o HB0.o,k2_ptr (kn_no (by first|exact .inl Hi.o|exact .inr Hj.o)) (by omega)]<;>rfl,(BK6.o.s3 2 rfl _ _ _)⟩;simp[results,Tryz.results123,go_sem,r0,r1,r2]
       case true =>
        go_wp2;refine bodyPost_ret (v:=.tuple #[.agg #[.int .u8 0,W64 0#64,W64 0#64],.int .i64 114]) ?_ rfl ⟨by rw[<-HZ.o,kd_else HOP.o RA.o RB.o H12.o H13.o HA0.o HB0.o,k2_ptr (kn_no (by first|exact .inl Hi.o|exact .inr Hj.o)) (by omega)]<;>rfl,(BK6.o.s3 2 rfl _ _ _)⟩;simp[results,Tryz.results123,go_sem,r0,r1,r2]
      case true =>
       cases j
       case false =>
        go_wp2;refine bodyPost_ret (v:=.tuple #[.agg #[.int .u8 0,W64 0#64,W64 0#64],.int .i64 114]) ?_ rfl ⟨by rw[<-HZ.o,kd_else HOP.o RA.o RB.o H12.o H13.o HA0.o HB0.o,k2_ptr (kn_no (by first|exact .inl Hi.o|exact .inr Hj.o)) (by omega)]<;>rfl,(BK6.o.s3 2 rfl _ _ _)⟩;simp[results,Tryz.results123,go_sem,r0,r1,r2]
       case true =>
        go_wp2_with fail;refine(nought_agg q.lo q.hi nr _).mono ?_;rintro e w8 ⟨rfl,hs⟩;have BK7:=Hd (BK6.o.call hs);clear a0 a1 a2 fa0 fa1 fa2 b0 b1 b2 fb0 fb1 fb2 r0 r1 r2 fr0 fr1 fr2 p0 p1 q0 q1;clear hs BK6;obtain⟨a0,a1,a2,fa0,fa1,fa2,b0,b1,b2,fb0,fb1,fb2,r0,r1,r2,fr0,fr1,fr2,p0,p1,q0,q1⟩:=kf5 BK7.o;cases hN:T.nought ⟨q.lo,q.hi⟩ nr
        case false =>
         have HN:=Hd hN;clear hN;go_wp2_with fail;refine(spDo_agg 4 nr p.lo p.hi q.lo q.hi _ HOP.o).mono ?_;rintro e w9 ⟨rfl,hs⟩;have BK8:=Hd (BK7.o.call hs);clear a0 a1 a2 fa0 fa1 fa2 b0 b1 b2 fb0 fb1 fb2 r0 r1 r2 fr0 fr1 fr2 p0 p1 q0 q1;clear hs BK7;obtain⟨a0,a1,a2,fa0,fa1,fa2,b0,b1,b2,fb0,fb1,fb2,r0,r1,r2,fr0,fr1,fr2,p0,p1,q0,q1⟩:=kf5 BK8.o;go_wp2;refine bodyPost_ret (v:=.tuple #[.agg #[.int .u8 1,W64 (T.sdo 4 nr ⟨p.lo,p.hi⟩ ⟨q.lo,q.hi⟩).lo,W64 (T.sdo 4 nr ⟨p.lo,p.hi⟩ ⟨q.lo,q.hi⟩).hi],.int .i64 0]) ?_ rfl ⟨by rw[<-HZ.o,kd_else HOP.o RA.o RB.o H12.o H13.o HA0.o HB0.o,k2_num (op:=4) Hi.o Hj.o (by rw[Hq.o];intro e;exact Bool.noConfusion (HN.o.symm.trans e.2)),Hp.o,Hq.o]<;>rfl,(BK8.o.s3 2 rfl _ _ _)⟩;simp[results,Tryz.results123,go_sem,r0,r1,r2]
        case true =>
         have HN:=Hd hN;clear hN;go_wp2;refine bodyPost_ret (v:=.tuple #[.agg #[.int .u8 0,W64 0#64,W64 0#64],.int .i64 113]) ?_ rfl ⟨by rw[<-HZ.o,kd_else HOP.o RA.o RB.o H12.o H13.o HA0.o HB0.o,k2_div (op:=4) Hi.o Hj.o (by decide) (by rw[Hq.o];exact HN.o)]<;>rfl,(BK7.o.s3 2 rfl _ _ _)⟩;simp[results,Tryz.results123,go_sem,r0,r1,r2]
     ·have ha0:(a==0)=false:=by simpa using HA0.o
      have hb0:(b==0)=false:=by simpa using HB0.o
      clear h12 h13;go_wp2_with fail;refine(knum_agg a lo hi _).mono ?_;rintro e w4 ⟨rfl,hs⟩;have BK3:=Hd (BK2.o.call hs);clear a0 a1 a2 fa0 fa1 fa2 b0 b1 b2 fb0 fb1 fb2 r0 r1 r2 fr0 fr1 fr2;clear hs BK2;obtain⟨a0,a1,a2,fa0,fa1,fa2,b0,b1,b2,fb0,fb1,fb2,r0,r1,r2,fr0,fr1,fr2⟩:=kf3 BK3.o;obtain⟨p,hp⟩:∃q,T.Kn.numS ⟨a,⟨lo,hi⟩⟩=q:=⟨_,rfl⟩
      rw[hp];have Hp:=Hd hp;clear hp;obtain⟨i,hi⟩:∃q,T.Kn.isN ⟨a,⟨lo,hi⟩⟩=q:=⟨_,rfl⟩
      rw[hi];have Hi:=Hd hi;clear hi;go_upto_region 12 with fail;refine wp_hid (Hd (BK3.o.bx [W64 p.lo,W64 p.hi] 122)) (fun w5 BK4=>?_);generalize w4.heap.size=D at *;clear BK3;clear a0 a1 a2 fa0 fa1 fa2 b0 b1 b2 fb0 fb1 fb2 r0 r1 r2 fr0 fr1 fr2;obtain⟨a0,a1,a2,fa0,fa1,fa2,b0,b1,b2,fb0,fb1,fb2,r0,r1,r2,fr0,fr1,fr2,p0,p1⟩:=kf4 BK4.o;go_wp2_with fail;refine(knum_agg b lo2 hi2 _).mono ?_;rintro e w6 ⟨rfl,hs⟩;have BK5:=Hd (BK4.o.call hs);clear a0 a1 a2 fa0 fa1 fa2 b0 b1 b2 fb0 fb1 fb2 r0 r1 r2 fr0 fr1 fr2 p0 p1;clear hs BK4;obtain⟨a0,a1,a2,fa0,fa1,fa2,b0,b1,b2,fb0,fb1,fb2,r0,r1,r2,fr0,fr1,fr2,p0,p1⟩:=kf4 BK5.o;obtain⟨q,hq⟩:∃q,T.Kn.numS ⟨b,⟨lo2,hi2⟩⟩=q:=⟨_,rfl⟩
      rw[hq];have Hq:=Hd hq;clear hq;obtain⟨j,hj⟩:∃q,T.Kn.isN ⟨b,⟨lo2,hi2⟩⟩=q:=⟨_,rfl⟩
      rw[hj];have Hj:=Hd hj;clear hj;go_upto_region 13 with fail;refine wp_hid (Hd (BK5.o.bx [W64 q.lo,W64 q.hi] 122)) (fun w7 BK6=>?_);generalize w6.heap.size=E at *;clear BK5;clear a0 a1 a2 fa0 fa1 fa2 b0 b1 b2 fb0 fb1 fb2 r0 r1 r2 fr0 fr1 fr2 p0 p1;obtain⟨a0,a1,a2,fa0,fa1,fa2,b0,b1,b2,fb0,fb1,fb2,r0,r1,r2,fr0,fr1,fr2,p0,p1,q0,q1⟩:=kf5 BK6.o;cases i
      case false =>
       cases j
       case false =>
        go_wp2;refine bodyPost_ret (v:=.tuple #[.agg #[.int .u8 0,W64 0#64,W64 0#64],.int .i64 114]) ?_ rfl ⟨by rw[<-HZ.o,kd_else HOP.o RA.o RB.o H12.o H13.o HA0.o HB0.o,k2_ptr (kn_no (by first|exact .inl Hi.o|exact .inr Hj.o)) (by omega)]<;>rfl,(BK6.o.s3 2 rfl _ _ _)⟩;simp[results,Tryz.results123,go_sem,r0,r1,r2]
       case true =>
        go_wp2;refine bodyPost_ret (v:=.tuple #[.agg #[.int .u8 0,W64 0#64,W64 0#64],.int .i64 114]) ?_ rfl ⟨by rw[<-HZ.o,kd_else HOP.o RA.o RB.o H12.o H13.o HA0.o HB0.o,k2_ptr (kn_no (by first|exact .inl Hi.o|exact .inr Hj.o)) (by omega)]<;>rfl,(BK6.o.s3 2 rfl _ _ _)⟩;simp[results,Tryz.results123,go_sem,r0,r1,r2]
      case true =>
       cases j
       case false =>
        go_wp2;refine bodyPost_ret (v:=.tuple #[.agg #[.int .u8 0,W64 0#64,W64 0#64],.int .i64 114]) ?_ rfl ⟨by rw[<-HZ.o,kd_else HOP.o RA.o RB.o H12.o H13.o HA0.o HB0.o,k2_ptr (kn_no (by first|exact .inl Hi.o|exact .inr Hj.o)) (by omega)]<;>rfl,(BK6.o.s3 2 rfl _ _ _)⟩;simp[results,Tryz.results123,go_sem,r0,r1,r2]
       case true =>
        go_wp2_with fail;refine(nought_agg q.lo q.hi nr _).mono ?_;rintro e w8 ⟨rfl,hs⟩;have BK7:=Hd (BK6.o.call hs);clear a0 a1 a2 fa0 fa1 fa2 b0 b1 b2 fb0 fb1 fb2 r0 r1 r2 fr0 fr1 fr2 p0 p1 q0 q1;clear hs BK6;obtain⟨a0,a1,a2,fa0,fa1,fa2,b0,b1,b2,fb0,fb1,fb2,r0,r1,r2,fr0,fr1,fr2,p0,p1,q0,q1⟩:=kf5 BK7.o;cases hN:T.nought ⟨q.lo,q.hi⟩ nr
        case false =>
         have HN:=Hd hN;clear hN;go_wp2_with fail;refine(spDo_agg 5 nr p.lo p.hi q.lo q.hi _ HOP.o).mono ?_;rintro e w9 ⟨rfl,hs⟩;have BK8:=Hd (BK7.o.call hs);clear a0 a1 a2 fa0 fa1 fa2 b0 b1 b2 fb0 fb1 fb2 r0 r1 r2 fr0 fr1 fr2 p0 p1 q0 q1;clear hs BK7;obtain⟨a0,a1,a2,fa0,fa1,fa2,b0,b1,b2,fb0,fb1,fb2,r0,r1,r2,fr0,fr1,fr2,p0,p1,q0,q1⟩:=kf5 BK8.o;go_wp2;refine bodyPost_ret (v:=.tuple #[.agg #[.int .u8 1,W64 (T.sdo 5 nr ⟨p.lo,p.hi⟩ ⟨q.lo,q.hi⟩).lo,W64 (T.sdo 5 nr ⟨p.lo,p.hi⟩ ⟨q.lo,q.hi⟩).hi],.int .i64 0]) ?_ rfl ⟨by rw[<-HZ.o,kd_else HOP.o RA.o RB.o H12.o H13.o HA0.o HB0.o,k2_num (op:=5) Hi.o Hj.o (by rw[Hq.o];intro e;exact Bool.noConfusion (HN.o.symm.trans e.2)),Hp.o,Hq.o]<;>rfl,(BK8.o.s3 2 rfl _ _ _)⟩;simp[results,Tryz.results123,go_sem,r0,r1,r2]
        case true =>
         have HN:=Hd hN;clear hN;go_wp2;refine bodyPost_ret (v:=.tuple #[.agg #[.int .u8 0,W64 0#64,W64 0#64],.int .i64 113]) ?_ rfl ⟨by rw[<-HZ.o,kd_else HOP.o RA.o RB.o H12.o H13.o HA0.o HB0.o,k2_div (op:=5) Hi.o Hj.o (by decide) (by rw[Hq.o];exact HN.o)]<;>rfl,(BK7.o.s3 2 rfl _ _ _)⟩;simp[results,Tryz.results123,go_sem,r0,r1,r2]
     ·have ha0:(a==0)=false:=by simpa using HA0.o
      have hb0:(b==0)=false:=by simpa using HB0.o
      have HN45:=Hd (show ¬(op=4\/op=5)by omega);have HN12:=Hd (show ¬(op=1\/op=2)by omega);have h12:(op==12)=false:=by simpa using H12.o
      have h13:(op==13)=false:=by simpa using H13.o
      have g1:(op==1)=false:=by simpa using g1
      have g2:(op==2)=false:=by simpa using g2
      have g4:(op==4)=false:=by simpa using g4
      have g5:(op==5)=false:=by simpa using g5
      have k12:(op != 12)=true:=by simpa using H12.o
      have k13:(op != 13)=true:=by simpa using H13.o
      go_wp2_with fail;refine(knum_agg a lo hi _).mono ?_;rintro e w4 ⟨rfl,hs⟩;have BK3:=Hd (BK2.o.call hs);clear a0 a1 a2 fa0 fa1 fa2 b0 b1 b2 fb0 fb1 fb2 r0 r1 r2 fr0 fr1 fr2;clear hs BK2;obtain⟨a0,a1,a2,fa0,fa1,fa2,b0,b1,b2,fb0,fb1,fb2,r0,r1,r2,fr0,fr1,fr2⟩:=kf3 BK3.o;obtain⟨p,hp⟩:∃q,T.Kn.numS ⟨a,⟨lo,hi⟩⟩=q:=⟨_,rfl⟩
      rw[hp];have Hp:=Hd hp;clear hp;obtain⟨i,hi⟩:∃q,T.Kn.isN ⟨a,⟨lo,hi⟩⟩=q:=⟨_,rfl⟩
      rw[hi];have Hi:=Hd hi;clear hi;go_upto_region 12 with fail;refine wp_hid (Hd (BK3.o.bx [W64 p.lo,W64 p.hi] 122)) (fun w5 BK4=>?_);generalize w4.heap.size=D at *;clear BK3;clear a0 a1 a2 fa0 fa1 fa2 b0 b1 b2 fb0 fb1 fb2 r0 r1 r2 fr0 fr1 fr2;obtain⟨a0,a1,a2,fa0,fa1,fa2,b0,b1,b2,fb0,fb1,fb2,r0,r1,r2,fr0,fr1,fr2,p0,p1⟩:=kf4 BK4.o;go_wp2_with fail;refine(knum_agg b lo2 hi2 _).mono ?_;rintro e w6 ⟨rfl,hs⟩;have BK5:=Hd (BK4.o.call hs);clear a0 a1 a2 fa0 fa1 fa2 b0 b1 b2 fb0 fb1 fb2 r0 r1 r2 fr0 fr1 fr2 p0 p1;clear hs BK4;obtain⟨a0,a1,a2,fa0,fa1,fa2,b0,b1,b2,fb0,fb1,fb2,r0,r1,r2,fr0,fr1,fr2,p0,p1⟩:=kf4 BK5.o;obtain⟨q,hq⟩:∃q,T.Kn.numS ⟨b,⟨lo2,hi2⟩⟩=q:=⟨_,rfl⟩
      rw[hq];have Hq:=Hd hq;clear hq;obtain⟨j,hj⟩:∃q,T.Kn.isN ⟨b,⟨lo2,hi2⟩⟩=q:=⟨_,rfl⟩
      rw[hj];have Hj:=Hd hj;clear hj;go_upto_region 13 with fail;refine wp_hid (Hd (BK5.o.bx [W64 q.lo,W64 q.hi] 122)) (fun w7 BK6=>?_);generalize w6.heap.size=E at *;clear BK5;clear a0 a1 a2 fa0 fa1 fa2 b0 b1 b2 fb0 fb1 fb2 r0 r1 r2 fr0 fr1 fr2 p0 p1;obtain⟨a0,a1,a2,fa0,fa1,fa2,b0,b1,b2,fb0,fb1,fb2,r0,r1,r2,fr0,fr1,fr2,p0,p1,q0,q1⟩:=kf5 BK6.o;cases i
      case false =>
       cases j
       case false =>
        go_wp2;refine bodyPost_ret (v:=.tuple #[.agg #[.int .u8 0,W64 0#64,W64 0#64],.int .i64 114]) ?_ rfl ⟨by rw[<-HZ.o,kd_else HOP.o RA.o RB.o H12.o H13.o HA0.o HB0.o,k2_ptr (kn_no (by first|exact .inl Hi.o|exact .inr Hj.o)) (by exact fun e=>HN12.o e.1)]<;>rfl,(BK6.o.s3 2 rfl _ _ _)⟩;simp[results,Tryz.results123,go_sem,r0,r1,r2]
       case true =>
        go_wp2;refine bodyPost_ret (v:=.tuple #[.agg #[.int .u8 0,W64 0#64,W64 0#64],.int .i64 114]) ?_ rfl ⟨by rw[<-HZ.o,kd_else HOP.o RA.o RB.o H12.o H13.o HA0.o HB0.o,k2_ptr (kn_no (by first|exact .inl Hi.o|exact .inr Hj.o)) (by exact fun e=>HN12.o e.1)]<;>rfl,(BK6.o.s3 2 rfl _ _ _)⟩;simp[results,Tryz.results123,go_sem,r0,r1,r2]
      case true =>
       cases j
       case false =>
        go_wp2;refine bodyPost_ret (v:=.tuple #[.agg #[.int .u8 0,W64 0#64,W64 0#64],.int .i64 114]) ?_ rfl ⟨by rw[<-HZ.o,kd_else HOP.o RA.o RB.o H12.o H13.o HA0.o HB0.o,k2_ptr (kn_no (by first|exact .inl Hi.o|exact .inr Hj.o)) (by exact fun e=>HN12.o e.1)]<;>rfl,(BK6.o.s3 2 rfl _ _ _)⟩;simp[results,Tryz.results123,go_sem,r0,r1,r2]
       case true =>
        go_wp2_with fail;refine(spDo_agg op nr p.lo p.hi q.lo q.hi _ HOP.o).mono ?_;rintro e w8 ⟨rfl,hs⟩;have BK7:=Hd (BK6.o.call hs);clear a0 a1 a2 fa0 fa1 fa2 b0 b1 b2 fb0 fb1 fb2 r0 r1 r2 fr0 fr1 fr2 p0 p1 q0 q1;clear hs BK6;obtain⟨a0,a1,a2,fa0,fa1,fa2,b0,b1,b2,fb0,fb1,fb2,r0,r1,r2,fr0,fr1,fr2,p0,p1,q0,q1⟩:=kf5 BK7.o;go_wp2;refine bodyPost_ret (v:=.tuple #[.agg #[.int .u8 1,W64 (T.sdo op nr ⟨p.lo,p.hi⟩ ⟨q.lo,q.hi⟩).lo,W64 (T.sdo op nr ⟨p.lo,p.hi⟩ ⟨q.lo,q.hi⟩).hi],.int .i64 0]) ?_ rfl ⟨by rw[<-HZ.o,kd_else HOP.o RA.o RB.o H12.o H13.o HA0.o HB0.o,k2_num (op:=op) Hi.o Hj.o (fun e=>HN45.o e.1),Hp.o,Hq.o]<;>rfl,(BK7.o.s3 2 rfl _ _ _)⟩;simp[results,Tryz.results123,go_sem,r0,r1,r2]
end Go.Proofs.YtfeipbgnjainlaaGreatDoor.K
