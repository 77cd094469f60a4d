/- TStA, TCkA, TInA, TCkB, TStB, TSpC -/
import Derived.Test.YtfeipbgnjainlaaGreatDoorTp2
import Derived.Test.YtfeipbgnjainlaaGreatDoorTp8
import Derived.Deep.MidRow
import Derived.Test.YtfeipbgnjainlaaGreatDoorTp4
import Derived.Test.YtfeipbgnjainlaaGreatDoorTp3
import Derived.Deep.RegionHeld3
set_option linter.unusedVariables false
set_option linter.unusedSimpArgs false
set_option maxRecDepth 100000
set_option maxHeartbeats 1000000
namespace Go.Proofs.YtfeipbgnjainlaaGreatDoor.K
open Go Go.RowKit Go.Maps Go.Sort
def eP(n:Int):List PanicEntry:=[{ v:=.iface 25 (.int .i64 n),recovered:=false }]
theorem tr_from(a:Addr)(k:Nat)(hk:k<512)(w:World):(Instr.sliceAt 186 (.pointer (some a)) (some (.int .i64 (k:Int))) none none).run Tryz.prog w=.ok (.slice (some (a.add k)) (512-k) (512-k)) w:=by
 have h:(Instr.sliceBound (.int .i64 (k:Int)) 512 BoundsCode.sliceB).run Tryz.prog w=.ok k w:=by
  have h0:=run_sliceBound (P:=Tryz.prog) (w:=w) IntKind.i64 (k:Int) 512 BoundsCode.sliceB (by omega) (by omega)
  rwa [Int.toNat_natCast]at h0
 have hk':¬ 512=k:=by omega
 simp[Instr.sliceAt,run_underlying Tryz.underlying186,Instr.sureAddr,Instr.sliceBounds,h,Tryz.sizeOf4,hk']
theorem tr_all(a:Addr)(w:World):(Instr.sliceAt 186 (.pointer (some a)) none none none).run Tryz.prog w=.ok (.slice (some a) 512 512) w:=by
 have h0:a.add 0=a:=by cases a;rfl
 simp[Instr.sliceAt,run_underlying Tryz.underlying186,Instr.sureAddr,Instr.sliceBounds,Tryz.sizeOf4,h0]
theorem tr_at(a:Option Addr)(c:Nat)(w:World):(Instr.arrayAt 186 (.slice a 512 c)).run Tryz.prog w=.ok (.pointer a) w:=by
 simp[Instr.arrayAt,run_underlying Tryz.underlying186]
theorem stkOf_any(b o c:Nat)(hc:512<=c)(w:World):Calls Tryz.prog 130 #[.slice (some ⟨b,o,none⟩) 512 c] w fun e w'=>e=.returned (.pointer (some ⟨b,o,none⟩))/\w'=w:=by
 have hat:=fun w=>tr_at (some ⟨b,o,none⟩) c w
 go_enter Tryz.func130,Tryz.ntmps130;go_wp2;go_ret;exact⟨rfl,rfl⟩
def PartP(w:World)(b o:Nat)(at' size:Int)(e:Ending)(w':World):Prop:=(T.partErr at' size=0/\(∃c,e=.returned (.slice (some ⟨b,o+(512+at').toNat,none⟩) size.toNat c))/\w'=w)\/(T.partErr at' size≠0/\e=.panicked (eP (T.partErr at' size))/\w'=w)
theorem stkPart_any(b o:Nat)(at' size:Int)(w:World)(h1 : -9223372036854775808<=at')(h2:at'<9223372036854775808):Calls Tryz.prog 163 #[.pointer (some ⟨b,o,none⟩),.int .i64 at',.int .i64 size] w (PartP w b o at' size):=by
 by_cases hs:size=1\/size=2\/size=4\/size=8
 case neg =>
  have n1:(size==1)=false:=by simp;omega
  have n2:(size==2)=false:=by simp;omega
  have n4:(size==4)=false:=by simp;omega
  have n8:(size==8)=false:=by simp;omega
  have HE:=Hd (show T.partErr at' size=2 by unfold T.partErr T.sized;rw[decide_eq_false hs,if_pos rfl]);clear hs;go_enter Tryz.func163,Tryz.ntmps163;go_wp2;exact⟨rfl,.inr ⟨by rw[HE.o];decide,by rw[HE.o];rfl,rfl⟩⟩
 case pos =>
  have HE:=Hd (show T.partErr at' size=if at' < -512 \/ -size<at' then 112 else 0 by unfold T.partErr T.sized;rw[decide_eq_true hs,if_neg (by simp)]);by_cases ha:at' < -512
  ·rcases hs with rfl|rfl|rfl|rfl
   all_goals
    have HE2:=Hd (HE.o.trans (if_pos (.inl ha)));go_enter Tryz.func163,Tryz.ntmps163;go_wp2;exact⟨rfl,.inr ⟨by rw[HE2.o];decide,by rw[HE2.o];rfl,rfl⟩⟩
  by_cases hb : -size<at'
  ·rcases hs with rfl|rfl|rfl|rfl
   all_goals
    have HE2:=Hd (HE.o.trans (if_pos (.inr hb)));go_enter Tryz.func163,Tryz.ntmps163;go_wp2;exact⟨rfl,.inr ⟨by rw[HE2.o];decide,by rw[HE2.o];rfl,rfl⟩⟩
  ·have HE2:=Hd (HE.o.trans (if_neg (by omega)))
   obtain⟨k,hk⟩:∃k:Nat,(512+at')=k:=⟨(512+at').toNat,by omega⟩
   rcases hs with rfl|rfl|rfl|rfl
   all_goals
    have hsl:=fun w=>tr_from ⟨b,o,none⟩ k (by omega) w
    go_enter Tryz.func163,Tryz.ntmps163;go_wp2;go_ret;exact .inl ⟨HE2.o,⟨512-k,by rw[hk];rfl⟩,rfl⟩
set_option maxRecDepth 100000
set_option maxHeartbeats 2000000
def FailP(w:World)(n:Int)(e:Ending)(w':World):Prop:=(n=0/\e=.returned (.tuple #[])/\w'=w)\/(n≠0/\e=.panicked (eP n)/\w'=w)
theorem fail_no(n:Int)(w:World):Calls Tryz.prog 117 #[.bool false,.int .i64 n] w fun e w'=>e=.returned (.tuple #[])/\w'=w:=by
 go_enter Tryz.func117,Tryz.ntmps117;go_wp2;go_end0;exact⟨rfl,rfl⟩
theorem fail_yes(n:Int)(w:World):Calls Tryz.prog 117 #[.bool true,.int .i64 n] w fun e w'=>e=.panicked (eP n)/\w'=w:=by
 go_enter Tryz.func117,Tryz.ntmps117;go_wp2;exact⟨rfl,rfl,rfl⟩
theorem mustC_any(n:Int)(w:World):Calls Tryz.prog 114 #[.int .i64 n] w (FailP w n):=by
 by_cases h:n=0
 ·subst h
  go_enter Tryz.func114,Tryz.ntmps114;go_wp2_with fail;refine(fail_no 0 w).mono ?_;rintro e w2 ⟨rfl,rfl⟩;go_wp2;go_end0;exact Or.inl ⟨rfl,rfl,rfl⟩
 ·have HN:=Hd h
  have e0:(n != 0)=true:=by simpa using h
  clear h;go_enter Tryz.func114,Tryz.ntmps114;go_wp2_with fail;refine(fail_yes n w).mono ?_;rintro e w2 ⟨rfl,rfl⟩;exact⟨rfl,Or.inr ⟨HN.o,rfl,rfl⟩⟩
def numR(least:Int)(k:T.Kn):Int×T.Sp:=if k.k=0 then(110,T.Sp.zero)else if k.k=1 then(0,k.s)else if k.k=4 then(0,⟨T.wide least,65535#64⟩)else(111,T.Sp.zero)
theorem asN_numR(p:T.Pl)(k:T.Kn):T.asN p k=numR p.least k:=rfl
def NumP(w:World)(r:Int×T.Sp)(e:Ending)(w':World):Prop:=(r.1=0/\e=.returned (spv r.2)/\Since w w')\/(r.1≠0/\e=.panicked (eP r.1)/\Since w w')
theorem wide_W64(z:Int)(h0:0<=z)(h1:z<=65535):Value.int .u64 z=W64 (T.wide z):=by
 unfold W64 T.wide
 congr 1
 rw[BitVec.toNat_ofInt];omega
theorem numberC_any(Wk:Nat)(least:Int)(x:T.Kn)(w:World)(hc:w.cell? ⟨Wk,6,none⟩=some (.int .i64 least))(h0:0<=least)(h1:least<=65535):Calls Tryz.prog 118 #[.pointer (some ⟨Wk,0,none⟩),knv x] w (NumP w (numR least x)):=by
 obtain⟨k,⟨lo,hi⟩⟩:=x;have HC:=Hd hc;have HW:=Hd (wide_W64 least h0 h1);clear hc;unfold knv;have BK0:=bk2 w [.int .u8 k,W64 lo,W64 hi] 124 [W64 0#64,W64 0#64] 122;go_enter Tryz.func118,Tryz.ntmps118;go_upto_region 1 with fail;generalize w.heap.size=X at *;refine wp_hid BK0 (fun w1 BK0=>?_);obtain⟨a0,a1,a2⟩:=BK0.o.q3 1 rfl;obtain⟨r0,r1,fr0,fr1⟩:=BK0.o.r2 0 rfl;by_cases hk0:k=0
 ·have HV:=Hd (show numR least ⟨k,⟨lo,hi⟩⟩=(110,T.Sp.zero)from if_pos hk0)
  subst hk0;go_wp2_with fail;refine(fail_yes 110 _).mono ?_;rintro e wq ⟨rfl,rfl⟩;exact⟨rfl,Or.inr ⟨by rw[HV.o];decide,by rw[HV.o],BK0.o.since⟩⟩
 have HV0:=Hd (show numR least ⟨k,⟨lo,hi⟩⟩=if k=1 then(0,⟨lo,hi⟩)else if k=4 then(0,⟨T.wide least,65535#64⟩)else(111,T.Sp.zero)from if_neg hk0);have e0:(k==0)=false:=by simpa using hk0
 by_cases hk1:k=1
 ·have HV:=Hd (HV0.o.trans (if_pos hk1))
  subst hk1;go_wp2_with fail;refine(fail_no 110 _).mono ?_;rintro e wq ⟨rfl,rfl⟩;go_wp2_with fail;refine(fail_no 111 _).mono ?_;rintro e wq ⟨rfl,rfl⟩;go_wp2;refine bodyPost_ret (v:=.agg #[W64 lo,W64 hi]) ?_ rfl (Or.inl ⟨by rw[HV.o],by rw[HV.o];rfl,((BK0.o.bs 0 0 (W64 lo)).bs 0 1 (W64 hi)).since⟩);simp[results,Tryz.results118,go_sem,a0,a1,a2,r0,r1]
 by_cases hk4:k=4
 ·have HV:=Hd (HV0.o.trans ((if_neg hk1).trans (if_pos hk4)))
  subst hk4;go_wp2_with fail;refine(fail_no 110 _).mono ?_;rintro e wq ⟨rfl,rfl⟩;go_wp2_with fail;refine(fail_no 111 _).mono ?_;rintro e wq ⟨rfl,rfl⟩;have c6:=BK0.o.since.keep HC.o;go_wp2;refine bodyPost_ret (v:=.agg #[.int .u64 least,W64 65535#64]) ?_ rfl (Or.inl ⟨by rw[HV.o],by rw[HV.o,HW.o];rfl,((BK0.o.bs 0 0 (.int .u64 least)).bs 0 1 (W64 65535#64)).since⟩);simp[results,Tryz.results118,go_sem,a0,a1,a2,r0,r1]
 have HV:=Hd (HV0.o.trans ((if_neg hk1).trans (if_neg hk4)));have e1:(k != 1)=true:=by simpa using hk1
 have e4:(k != 4)=true:=by simpa using hk4
 go_wp2_with fail;refine(fail_no 110 _).mono ?_;rintro e wq ⟨rfl,rfl⟩;go_wp2_with fail;refine(fail_yes 111 _).mono ?_;rintro e wq ⟨rfl,rfl⟩;exact⟨rfl,Or.inr ⟨by rw[HV.o];decide,by rw[HV.o],BK0.o.since⟩⟩
set_option maxHeartbeats 2000000
def insL(i:T.Ins):List Value:=[.int .u8 i.op,.bool i.narrow,.int .i64 i.dst,.int .i64 i.src,.bool i.useImm,.int .i64 i.off,.int .i64 i.imm,.int .i64 i.size]
def insV(i:T.Ins):Value:=.agg (insL i).toArray
theorem fields_any(op:Int)(w:World):Calls Tryz.prog 90 #[.int .u8 op] w fun e w'=>e=.returned (.int .i64 (T.fields op:Int))/\w'=w:=by
 rcases(show(1<=op/\op<=12)\/(op=13)\/(op=14)\/(op=15)\/(op=16)\/(17<=op/\op<=27)\/(op=28)\/(op<1)\/(28<op)by omega)with⟨h1,h2⟩|rfl|rfl|rfl|rfl|⟨h1,h2⟩|rfl|h1|h1
 ·have HV:=Hd (show T.fields op=201 by unfold T.fields;(repeat' split)<;>first|rfl|omega)
  go_enter Tryz.func90,Tryz.ntmps90;go_wp2;go_ret;exact⟨by rw[HV.o];rfl,rfl⟩
 ·have HV:=Hd (show T.fields 13=193 by unfold T.fields;rfl)
  go_enter Tryz.func90,Tryz.ntmps90;go_wp2;go_ret;exact⟨by rw[HV.o];rfl,rfl⟩
 ·have HV:=Hd (show T.fields 14=181 by unfold T.fields;rfl)
  go_enter Tryz.func90,Tryz.ntmps90;go_wp2;go_ret;exact⟨by rw[HV.o];rfl,rfl⟩
 ·have HV:=Hd (show T.fields 15=186 by unfold T.fields;rfl)
  go_enter Tryz.func90,Tryz.ntmps90;go_wp2;go_ret;exact⟨by rw[HV.o];rfl,rfl⟩
 ·have HV:=Hd (show T.fields 16=144 by unfold T.fields;rfl)
  go_enter Tryz.func90,Tryz.ntmps90;go_wp2;go_ret;exact⟨by rw[HV.o];rfl,rfl⟩
 ·have HV:=Hd (show T.fields op=218 by unfold T.fields;(repeat' split)<;>first|rfl|omega)
  have g1:1<=op:=by omega
  have g2:¬op<=12:=by omega
  have e13:(op==13)=false:=by simp;omega
  have e14:(op==14)=false:=by simp;omega
  have e15:(op==15)=false:=by simp;omega
  have e16:(op==16)=false:=by simp;omega
  go_enter Tryz.func90,Tryz.ntmps90;go_wp2;go_ret;exact⟨by rw[HV.o];rfl,rfl⟩
 ·have HV:=Hd (show T.fields 28=128 by unfold T.fields;rfl)
  go_enter Tryz.func90,Tryz.ntmps90;go_wp2;go_ret;exact⟨by rw[HV.o];rfl,rfl⟩
 ·have HV:=Hd (show T.fields op=0 by unfold T.fields;(repeat' split)<;>first|rfl|omega)
  have g1:¬ 1<=op:=by omega
  have g3:¬ 17<=op:=by omega
  have e13:(op==13)=false:=by simp;omega
  have e14:(op==14)=false:=by simp;omega
  have e15:(op==15)=false:=by simp;omega
  have e16:(op==16)=false:=by simp;omega
  have e28:(op==28)=false:=by simp;omega
  go_enter Tryz.func90,Tryz.ntmps90;go_wp2;go_ret;exact⟨by rw[HV.o];rfl,rfl⟩
 ·have HV:=Hd (show T.fields op=0 by unfold T.fields;(repeat' split)<;>first|rfl|omega)
  have g1:1<=op:=by omega
  have g2:¬op<=12:=by omega
  have g3:17<=op:=by omega
  have g4:¬op<=27:=by omega
  have e13:(op==13)=false:=by simp;omega
  have e14:(op==14)=false:=by simp;omega
  have e15:(op==15)=false:=by simp;omega
  have e16:(op==16)=false:=by simp;omega
  have e28:(op==28)=false:=by simp;omega
  go_enter Tryz.func90,Tryz.ntmps90;go_wp2;go_ret;exact⟨by rw[HV.o];rfl,rfl⟩
theorem within_any(n a b:Int)(w:World):Calls Tryz.prog 92 #[.int .i64 n,.int .i64 a,.int .i64 b] w fun e w'=>e=.returned (.bool (T.wi n a b))/\w'=w:=by
 by_cases h1:a<=n
 ·by_cases h2:n<=b
  ·have HV:=Hd (show T.wi n a b=true by unfold T.wi;rw[decide_eq_true h1,decide_eq_true h2];rfl)
   go_enter Tryz.func92,Tryz.ntmps92;go_wp2;go_ret;exact⟨by rw[HV.o];rfl,rfl⟩
  ·have HV:=Hd (show T.wi n a b=false by unfold T.wi;rw[decide_eq_true h1,decide_eq_false h2];rfl)
   go_enter Tryz.func92,Tryz.ntmps92;go_wp2;go_ret;exact⟨by rw[HV.o];first|rfl|simp[h2],rfl⟩
 ·have HV:=Hd (show T.wi n a b=false by unfold T.wi;rw[decide_eq_false h1];rfl)
  go_enter Tryz.func92,Tryz.ntmps92;go_wp2;go_ret;exact⟨by rw[HV.o];first|rfl|simp[h1],rfl⟩
theorem jumps_any(i:T.Ins)(w:World):Calls Tryz.prog 37 #[insV i] w (Ret w (.bool i.jumps)):=by
 have S1:=Hd (Since.alloc (Below.refl w.heap.size w) (.cells (insL i).toArray 55));have HV:=Hd (show i.jumps=(decide (16<=i.op)&&decide (i.op<=27))by unfold T.Ins.jumps;rw[Bool.decide_and]);unfold insV;unfold insL at S1 ⊢;go_enter Tryz.func37,Tryz.ntmps37;go_wp2
 all_goals
  go_ret;refine⟨?_,S1.o⟩;rw[HV.o]
  first|(simp_all;done)|(simp_all;omega)
set_option maxHeartbeats 2000000
theorem wrap_wide(z:Int):Value.int .u64 (IntKind.u64.wrap z)=W64 (T.wide z):=by
 unfold W64;rw[wrap_u64_int]
theorem frameC_any(x:T.Kn)(i:T.Ins)(w:World):Calls Tryz.prog 116 #[knv x,insV i] w (Ret w (.int .i64 (T.frameAt x i))):=by
 obtain⟨k,⟨lo,hi⟩⟩:=x;unfold knv insV insL;have BK0:=bk2 w [.int .u8 k,W64 lo,W64 hi] 124 [.int .u8 i.op,.bool i.narrow,.int .i64 i.dst,.int .i64 i.src,.bool i.useImm,.int .i64 i.off,.int .i64 i.imm,.int .i64 i.size] 55;go_enter Tryz.func116,Tryz.ntmps116;go_upto_region 1 with fail;generalize w.heap.size=X at *;refine wp_hid BK0 (fun w1 BK0=>?_);obtain⟨a0,a1,a2⟩:=BK0.o.q3 1 rfl;obtain⟨b0,b1,b2,b3,b4,b5,b6,b7⟩:=BK0.o.q8 0 rfl;have hw:Value.int .u64 (IntKind.u64.wrap i.off)=W64 (T.wide i.off):=wrap_wide i.off;have hcv:=fun w (y:BitVec 64)=>conv_W64_S64 (P:=Tryz.prog) (src:=39) (dst:=2) (w:=w) y Tryz.underlying39 Tryz.underlying2
 go_wp2;go_ret;exact⟨rfl,BK0.o.since⟩
set_option maxRecDepth 100000
set_option maxHeartbeats 2000000
def BoRd(w:World)(b o:Nat)(bs:List Bool):Prop:=∀j u,bs[j]?=some u->w.cell? ⟨b,o+j,none⟩=some (.bool u)
def BoolP(w:World)(n:Int)(e:Ending)(w':World):Prop:=(n=0/\e=.returned (.bool true)/\Since w w')\/(n≠0/\e=.panicked (eP n)/\Since w w')
theorem stkPart_ok(b o:Nat)(at' size:Int)(w:World)(h1 : -9223372036854775808<=at')(h2:at'<9223372036854775808)(hz:T.partErr at' size=0):Calls Tryz.prog 163 #[.pointer (some ⟨b,o,none⟩),.int .i64 at',.int .i64 size] w fun e w'=>(∃c,e=.returned (.slice (some ⟨b,o+(512+at').toNat,none⟩) size.toNat c))/\w'=w:=by
 refine(stkPart_any b o at' size w h1 h2).mono ?_;rintro e w' (⟨_,h,hw⟩|⟨hn,_⟩)
 ·exact⟨h,hw⟩
 ·exact absurd hz hn
theorem stkPart_bad(b o:Nat)(at' size:Int)(w:World)(h1 : -9223372036854775808<=at')(h2:at'<9223372036854775808)(hz:T.partErr at' size≠0):Calls Tryz.prog 163 #[.pointer (some ⟨b,o,none⟩),.int .i64 at',.int .i64 size] w fun e w'=>e=.panicked (eP (T.partErr at' size))/\w'=w:=by
 refine(stkPart_any b o at' size w h1 h2).mono ?_;rintro e w' (⟨hn,_⟩|⟨_,h,hw⟩)
 ·exact absurd hn hz
 ·exact⟨h,hw⟩
theorem part_facts{at' size:Int}(h:T.partErr at' size=0):(size=1\/size=2\/size=4\/size=8)/\-512<=at'/\at' <= -size:=by
 unfold T.partErr at h;split at h
 ·cases h
 ·rename_i h1
  split at h
  ·cases h
  ·rename_i h2
   refine⟨?_,by omega,by omega⟩;exact of_decide_eq_true ((Bool.not_eq_false _).mp h1)
theorem allSet_succ(bs:List Bool)(k j:Nat)(h:k+j<bs.length):T.allSet bs k (j+1)=(T.allSet bs k j&&bs[k+j]):=by
 unfold T.allSet;rw[List.range_succ,List.all_append];simp[List.getD_eq_getElem?_getD,List.getElem?_eq_getElem h]
theorem allSet_mono{bs:List Bool}{k j n:Nat}(h:j<=n)(hs:T.allSet bs k n=true):T.allSet bs k j=true:=by
 unfold T.allSet at hs ⊢;rw[List.all_eq_true]at hs ⊢;exact fun x hx=>hs x (List.mem_range.2 (Nat.lt_of_lt_of_le (List.mem_range.1 hx) h))
theorem stkRead1_any(A B C b o c:Nat)(at' size:Int)(bs:List Bool)(w:World)(h1 : -9223372036854775808<=at')(h2:at'<9223372036854775808)(hl:bs.length=512)(hc:512<=c)(hr:BoRd w b o bs)
  (hA:w.cell? ⟨A,0,none⟩=some (.slice (some ⟨b,o,none⟩) 512 c)) (hB:w.cell? ⟨B,0,none⟩=some (.int .i64 at')) (hC:w.cell? ⟨C,0,none⟩=some (.int .i64 size)) :
  Calls Tryz.prog 162 #[.pointer (some ⟨A,0,none⟩),.pointer (some ⟨B,0,none⟩),.pointer (some ⟨C,0,none⟩)] w (BoolP w (T.readErr bs at' size)):=by
 have HR:=Hd hr;have HL:=Hd hl;clear hr hl;by_cases hz:T.partErr at' size=0
 case neg =>
  have HZ:=Hd hz;have HE:=Hd (show T.readErr bs at' size=T.partErr at' size from if_pos hz);clear hz;go_enter Tryz.func162,Tryz.ntmps162;go_upto_region 1 with fail;refine wp_region_held_drew (S:=fun w'=>w'.cell? ⟨A,0,none⟩=some (.slice (some ⟨b,o,none⟩) 512 c)/\w'.cell? ⟨B,0,none⟩=some (.int .i64 at')/\w'.cell? ⟨C,0,none⟩=some (.int .i64 size)/\Since w w') (by kernel_rfl) ⟨hA,hB,hC,(Below.refl w.heap.size w).drew⟩ (fun hHeld=>?_);refine wpAnyH_take (i:=0) (v:=.slice (some ⟨b,o,none⟩) 512 c) rfl (by kernel_rfl) (by kernel_rfl) (by kernel_rfl) (fun _ _ _ h=>h) (Or.inl ⟨by rfl,?_⟩) (by assumption) ?_
  ·intro w hSw
   obtain⟨s1,s2,s3,_⟩:=hSw;go_simp
  (try simp only[Act.put,sA,sZ,sS])
  refine wpAnyH_take (i:=2) (v:=.int .i64 at') rfl (by kernel_rfl) (by kernel_rfl) (by kernel_rfl) (fun _ _ _ h=>h) (Or.inl ⟨by rfl,?_⟩) (by assumption) ?_
  ·intro w hSw
   obtain⟨s1,s2,s3,_⟩:=hSw;go_simp
  (try simp only[Act.put,sA,sZ,sS])
  refine wpAnyH_take (i:=3) (v:=.int .i64 size) rfl (by kernel_rfl) (by kernel_rfl) (by kernel_rfl) (fun _ _ _ h=>h) (Or.inl ⟨by rfl,?_⟩) (by assumption) ?_
  ·intro w hSw
   obtain⟨s1,s2,s3,_⟩:=hSw;go_simp
  (try simp only[Act.put,sA,sZ,sS])
  refine wpAnyH_take (i:=6) (v:=.int .i64 0) rfl (by kernel_rfl) (by kernel_rfl) (by kernel_rfl) (fun _ _ _ h=>h) (Or.inl ⟨by rfl,?_⟩) (by assumption) ?_
  ·intro w hSw
   obtain⟨s1,s2,s3,_⟩:=hSw;go_simp
  (try simp only[Act.put,sA,sZ,sS])
  refine wpAnyH_ready (rs:=[1]) (by kernel_rfl) (by simp) ?_;refine AllReadyH.cons rfl (fun K hK=>?_) AllReadyH.nil;go_simp;refine(stkOf_any b o c hc _).mono ?_;rintro e wh ⟨rfl,rfl⟩;refine hK.o _ _ (by assumption) (fun hHeld=>?_);clear hK K
  (try simp only[Act.put,sA,sZ,sS])
  refine wpAnyH_ready (rs:=[4]) (by kernel_rfl) (by simp) ?_;refine AllReadyH.cons rfl (fun K hK=>?_) AllReadyH.nil;go_simp;refine(stkPart_bad b o at' size _ h1 h2 HZ.o).mono ?_;rintro e wh ⟨rfl,rfl⟩;exact⟨rfl,.inr ⟨by rw[HE.o];exact HZ.o,by rw[HE.o],hHeld.2.2.2⟩⟩
 case pos =>
  have HE:=Hd (show T.readErr bs at' size=if T.allSet bs (512+at').toNat size.toNat then 0 else 110 from if_neg (not_not_intro hz));obtain⟨k,hk⟩:∃k,(512+at').toNat=k:=⟨_,rfl⟩
  obtain⟨n,hn⟩:∃n:Nat,size=n:=⟨size.toNat,by have:=part_facts hz;omega⟩
  have hn8:n<=8:=by have:=part_facts hz;omega
  have HKN:=Hd (show k+n<=512 by have:=part_facts hz;omega);have HZ:=Hd hz;clear hz;have HE2:=Hd (show T.readErr bs at' size=if T.allSet bs k n then 0 else 110 by rw[HE.o,hk,hn,Int.toNat_natCast]);clear HE;subst hn;have HK:=Hd hk;clear hk;go_enter Tryz.func162,Tryz.ntmps162;go_upto_region 1 with fail
  go_region_held3 (fun w'=>w'.cell? ⟨A,0,none⟩=some (.slice (some ⟨b,o,none⟩) 512 c)/\w'.cell? ⟨B,0,none⟩=some (.int .i64 at')/\w'.cell? ⟨C,0,none⟩=some (.int .i64 (n:Int)))
   (first | with_reducible exact ⟨hA, hB, hC⟩ | with_reducible exact ⟨cell_drew hA, cell_drew hB, cell_drew hC⟩ | fail "keep")
   (first | (go_at_call 130; refine (stkOf_any b o c hc _).mono ?_; rintro e wh ⟨rfl, rfl⟩) | (go_at_call 163; refine (stkPart_ok b o at' n _ h1 h2 HZ.o).mono ?_; rintro e wh ⟨⟨cc, rfl⟩, rfl⟩; rw [HK.o, Int.toNat_natCast]) | fail "arm")
  go_wp2
  go_loop [5,12] (fun v i=>∃j:Nat,j<=n/\i=.int .i64 (j:Int)/\T.allSet bs k j=true) (fun _ i=>n-(intOf i).toNat)
  case atStart=>exact⟨0,by omega,rfl,rfl⟩
  case round =>
   obtain⟨j,hj,rfl,hset⟩:=hrel;have HS:=Hd hset;clear hset;have j0:(0:Int)<=(j:Int):=by omega
   by_cases hlt:j<n
   ·have i1:(j:Int)<(n:Int):=by omega
    have hkl:k+j<bs.length:=by rw[HL.o];have:=HKN.o;omega
    have hcell:=cell_drew (HR.o (k+j) bs[k+j] (List.getElem?_eq_getElem hkl));have HNX:=Hd (allSet_succ bs k j hkl);rw[<-Nat.add_assoc]at hcell;cases hy:bs[k+j]with
    | false =>
      have HE3:=Hd (show T.readErr bs at' (n:Int)=110 by rw[HE2.o,if_neg];exact fun e=>by have e2:=allSet_mono (show j+1<=n by omega) e;rw[HNX.o,hy,Bool.and_false]at e2;cases e2);rw[hy]at hcell;clear hy;go_wp2;exact⟨rfl,.inr ⟨by rw[HE3.o];decide,by rw[HE3.o];rfl,(Below.refl w.heap.size w).drew⟩⟩
    | true =>
      have HN2:=Hd (show T.allSet bs k (j+1)=true by rw[HNX.o,hy,HS.o];rfl);rw[hy]at hcell;clear hy;go_wp2;go_round
      case rel=>exact⟨j+1,by omega,by go_num,HN2.o⟩
      case measure=>simp[intOf];omega
   ·have i1:¬(j:Int)<(n:Int):=by omega
    obtain rfl:j=n:=by omega
    have HE3:=Hd (show T.readErr bs at' (j:Int)=0 by rw[HE2.o,HS.o];rfl);go_wp2;go_ret;exact .inl ⟨HE3.o,rfl,(Below.refl w.heap.size w).drew⟩
set_option maxRecDepth 100000
set_option maxHeartbeats 4000000
theorem ulen_eq:∀(n:Nat),n<2 ^ 64->Lib.bitLen n=T.ulen n
 | n,h=>by
   by_cases h0:n=0
   ·subst h0;rfl
   ·rw[Lib.bitLen_half n h0 h]
    have hl:n/2<n:=Nat.div_lt_self (by omega) (by decide);rw[ulen_eq (n/2) (by omega)];unfold T.ulen;rw[if_neg h0];by_cases h1:n/2=0
    ·have:n=1:=by omega
     subst this;rfl
    ·rw[if_neg h1,show n.log2=(n/2).log2+1 by rw[Nat.log2_def,if_pos (by omega)]]
     omega
termination_by n=>n
theorem len64_any(n:BitVec 64)(w:World):Calls Tryz.prog 195 #[W64 n] w fun e w'=>e=.returned (.int .i64 (T.ulen n.toNat))/\w=w':=by
 refine(Tryz.bits_Len64 (n.toNat:Int) w (by omega) (by have:=n.isLt;omega)).mono ?_;rintro e w' ⟨rfl,rfl⟩;exact⟨by rw[Int.toNat_natCast,ulen_eq n.toNat n.isLt],rfl⟩
theorem mul64_any(a b:BitVec 64)(w:World):Calls Tryz.prog 269 #[W64 a,W64 b] w fun e w'=>e=.returned (.tuple #[W64 (BitVec.ofNat 64 (a.toNat*b.toNat/18446744073709551616)),W64 (a*b)])/\w=w':=by
 refine(Tryz.bits_Mul64 a.toNat b.toNat a.isLt b.isLt w).mono ?_;rintro e w' ⟨rfl,rfl⟩;refine⟨?_,rfl⟩
 have h1:a.toNat*b.toNat/18446744073709551616<18446744073709551616:=by
  have:=Nat.mul_lt_mul'' a.isLt b.isLt;omega
 unfold W64;rw[BitVec.toNat_ofNat,Nat.mod_eq_of_lt h1,BitVec.toNat_mul]
theorem spfill_any(n:BitVec 64)(w:World):Calls Tryz.prog 270 #[W64 n] w fun e w'=>e=.returned (W64 (T.fill n))/\w=w':=by
 go_enter Tryz.func270,Tryz.ntmps270;go_wp2_with fail;refine(len64_any n w).mono ?_;rintro e w2 ⟨rfl,rfl⟩;have hk:¬((T.ulen n.toNat:Nat):Int)<0:=by omega
 go_wp2;go_ret;exact⟨rfl,rfl⟩
def RuleP(w:World)(o:Option T.Sp)(e:Ending)(w':World):Prop:=(∃s,o=some s/\e=.returned (spv s)/\Since w w')\/(o=none/\e=.panicked nothingP/\Since w w')
theorem ruleP_some{w w':World}{o:Option T.Sp}(a b:BitVec 64)(ho:o=some ⟨a,b⟩)(hs:Since w w'):RuleP w o (.returned (.agg #[W64 a,W64 b])) w':=Or.inl ⟨⟨a,b⟩,ho,rfl,hs⟩
theorem ruleP_none{w w':World}{o:Option T.Sp}(ho:o=none)(hs:Since w w'):RuleP w o (.panicked nothingP) w':=Or.inr ⟨ho,rfl,hs⟩
theorem rl_cells{w w':World}{x:T.Wk}{X Y:Nat}{u v:Value}(h:Bank w w' [boxAcc Y 122 [u,v],boxAcc X 229 [W64 x.a.lo,W64 x.a.hi,W64 x.b.lo,W64 x.b.hi,.bool x.narrow,W64 x.most,W64 x.size]]):
  w'.cell? ⟨X,0,none⟩=some (W64 x.a.lo)/\w'.cell? ⟨X,1,none⟩=some (W64 x.a.hi)/\w'.cell? ⟨X,2,none⟩=some (W64 x.b.lo)/\w'.cell? ⟨X,3,none⟩=some (W64 x.b.hi) /\
  w'.cell? ⟨X,4,none⟩=some (.bool x.narrow)/\w'.cell? ⟨X,5,none⟩=some (W64 x.most)/\w'.cell? ⟨X,6,none⟩=some (W64 x.size) /\
  w'.cell? ⟨Y,0,none⟩=some u/\w'.cell? ⟨Y,1,none⟩=some v/\w'.frozen? ⟨Y,0,none⟩=false/\w'.frozen? ⟨Y,1,none⟩=false :=
 ⟨h.cl 1 0,h.cl 1 1,h.cl 1 2,h.cl 1 3,h.cl 1 4,h.cl 1 5,h.cl 1 6,h.cl 0 0,h.cl 0 1,h.free 0 rfl 0,h.free 0 rfl 1⟩
theorem rl_since{w w':World}{g:Nat}{t:TypeId}{p:Acc}{u v:Value}(h:Bank w w' [boxAcc g t [u,v],p])(a b:Value):Since w ((w'.setCell ⟨g,0,none⟩ a).setCell ⟨g,1,none⟩ b):=((h.bs 0 0 a).bs 0 1 b).since
theorem add_t{x:T.Wk}(hq:x.b.hi.ule (x.most-x.a.hi)=true):x.add=some (x.ends (x.a.lo+x.b.lo) (x.a.hi+x.b.hi)):=by unfold T.Wk.add;rw[hq];rfl
theorem add_f{x:T.Wk}(hq:x.b.hi.ule (x.most-x.a.hi)=false)(hm:decide (x.most-x.a.lo<x.b.lo)=true):x.add=some (x.ends (x.a.lo+x.b.lo) (x.a.hi+x.b.hi)):=by unfold T.Wk.add;rw[hq];exact if_pos hm
theorem add_n{x:T.Wk}(hq:x.b.hi.ule (x.most-x.a.hi)=false)(hm:decide (x.most-x.a.lo<x.b.lo)=false):x.add=none:=by unfold T.Wk.add;rw[hq];exact if_neg (fun e=>Bool.noConfusion (hm.symm.trans e))
theorem wadd_any(x:T.Wk)(w:World):Calls Tryz.prog 247 #[wkv x] w (RuleP w x.add):=by
 have HE:=Hd (fun q lo hi=>wends_any x lo hi q);have HO:=Hd (fun q=>wboth_any x q);have HM:=Hd (fun q s=>wmixed_any x s q);unfold wkv at HE HO HM ⊢;unfold spv at HE HM;have BK:=bk2 w [W64 x.a.lo,W64 x.a.hi,W64 x.b.lo,W64 x.b.hi,.bool x.narrow,W64 x.most,W64 x.size] 229 [W64 0#64,W64 0#64] 122;go_enter Tryz.func247,Tryz.ntmps247;go_upto_region 1 with fail;generalize w.heap.size=X at *;refine wp_hid BK (fun w1 BK=>?_);obtain⟨c0,c1,c2,c3,c4,c5,c6,d0,d1,f0,f1⟩:=rl_cells BK.o;cases hq:x.b.hi.ule (x.most-x.a.hi)
 all_goals
  have HQ:=Hd hq;go_wp2_with fail;refine(must_any _ _).mono ?_;rintro e w2 (⟨hm,rfl,hs⟩|⟨hm,rfl,hs⟩)
  case inr =>
   have HFIN:=Hd (ruleP_none (o:=x.add) (by first|(cases hm;done)|exact add_n HQ.o hm) (BK.o.call hs).since);clear hs BK;clear c0 c1 c2 c3 c4 c5 c6 d0 d1 f0 f1;go_wp2;exact⟨rfl,HFIN.o⟩
  have BK2:=Hd (BK.o.call hs);have HMM:=Hd hm;clear c0 c1 c2 c3 c4 c5 c6 d0 d1 f0 f1;clear hs BK hm;obtain⟨c0,c1,c2,c3,c4,c5,c6,d0,d1,f0,f1⟩:=rl_cells BK2.o;go_wp2_with fail;refine(HE.o _ _ _).mono ?_;rintro e w3 ⟨rfl,hs⟩;have BK3:=Hd (BK2.o.call hs);clear c0 c1 c2 c3 c4 c5 c6 d0 d1 f0 f1;clear hs BK2;obtain⟨c0,c1,c2,c3,c4,c5,c6,d0,d1,f0,f1⟩:=rl_cells BK3.o;go_wp2;refine bodyPost_ret (v:=.agg #[W64 ((x.ends (x.a.lo+x.b.lo) (x.a.hi+x.b.hi)).lo),W64 ((x.ends (x.a.lo+x.b.lo) (x.a.hi+x.b.hi)).hi)]) ?_ rfl (ruleP_some ((x.ends (x.a.lo+x.b.lo) (x.a.hi+x.b.hi)).lo) ((x.ends (x.a.lo+x.b.lo) (x.a.hi+x.b.hi)).hi) (by first|exact add_t HQ.o|exact add_f HQ.o HMM.o) (rl_since BK3.o _ _));simp[results,Tryz.results247,go_sem,d0,d1]
theorem sub_t{x:T.Wk}(hq:x.b.hi.ule x.a.lo=true):x.sub=some (x.ends (x.a.lo-x.b.hi) (x.a.hi-x.b.lo)):=by unfold T.Wk.sub;rw[hq];rfl
theorem sub_f{x:T.Wk}(hq:x.b.hi.ule x.a.lo=false)(hm:decide (x.a.hi<x.b.lo)=true):x.sub=some (x.ends (x.a.lo-x.b.hi) (x.a.hi-x.b.lo)):=by unfold T.Wk.sub;rw[hq];exact if_pos hm
theorem sub_n{x:T.Wk}(hq:x.b.hi.ule x.a.lo=false)(hm:decide (x.a.hi<x.b.lo)=false):x.sub=none:=by unfold T.Wk.sub;rw[hq];exact if_neg (fun e=>Bool.noConfusion (hm.symm.trans e))
theorem wsub_any(x:T.Wk)(w:World):Calls Tryz.prog 248 #[wkv x] w (RuleP w x.sub):=by
 have HE:=Hd (fun q lo hi=>wends_any x lo hi q);have HO:=Hd (fun q=>wboth_any x q);have HM:=Hd (fun q s=>wmixed_any x s q);unfold wkv at HE HO HM ⊢;unfold spv at HE HM;have BK:=bk2 w [W64 x.a.lo,W64 x.a.hi,W64 x.b.lo,W64 x.b.hi,.bool x.narrow,W64 x.most,W64 x.size] 229 [W64 0#64,W64 0#64] 122;go_enter Tryz.func248,Tryz.ntmps248;go_upto_region 1 with fail;generalize w.heap.size=X at *;refine wp_hid BK (fun w1 BK=>?_);obtain⟨c0,c1,c2,c3,c4,c5,c6,d0,d1,f0,f1⟩:=rl_cells BK.o;cases hq:x.b.hi.ule x.a.lo
 all_goals
  have HQ:=Hd hq;go_wp2_with fail;refine(must_any _ _).mono ?_;rintro e w2 (⟨hm,rfl,hs⟩|⟨hm,rfl,hs⟩)
  case inr =>
   have HFIN:=Hd (ruleP_none (o:=x.sub) (by first|(cases hm;done)|exact sub_n HQ.o hm) (BK.o.call hs).since);clear hs BK;clear c0 c1 c2 c3 c4 c5 c6 d0 d1 f0 f1;go_wp2;exact⟨rfl,HFIN.o⟩
  have BK2:=Hd (BK.o.call hs);have HMM:=Hd hm;clear c0 c1 c2 c3 c4 c5 c6 d0 d1 f0 f1;clear hs BK hm;obtain⟨c0,c1,c2,c3,c4,c5,c6,d0,d1,f0,f1⟩:=rl_cells BK2.o;go_wp2_with fail;refine(HE.o _ _ _).mono ?_;rintro e w3 ⟨rfl,hs⟩;have BK3:=Hd (BK2.o.call hs);clear c0 c1 c2 c3 c4 c5 c6 d0 d1 f0 f1;clear hs BK2;obtain⟨c0,c1,c2,c3,c4,c5,c6,d0,d1,f0,f1⟩:=rl_cells BK3.o;go_wp2;refine bodyPost_ret (v:=.agg #[W64 ((x.ends (x.a.lo-x.b.hi) (x.a.hi-x.b.lo)).lo),W64 ((x.ends (x.a.lo-x.b.hi) (x.a.hi-x.b.lo)).hi)]) ?_ rfl (ruleP_some ((x.ends (x.a.lo-x.b.hi) (x.a.hi-x.b.lo)).lo) ((x.ends (x.a.lo-x.b.hi) (x.a.hi-x.b.lo)).hi) (by first|exact sub_t HQ.o|exact sub_f HQ.o HMM.o) (rl_since BK3.o _ _));simp[results,Tryz.results248,go_sem,d0,d1]
theorem mul_ok(a b m:BitVec 64):((BitVec.ofNat 64 (a.toNat*b.toNat/18446744073709551616)==0#64)&&(a*b).ule m)=decide (a.toNat*b.toNat<18446744073709551616/\a.toNat*b.toNat<=m.toNat):=by
 have h1:a.toNat*b.toNat/18446744073709551616<18446744073709551616:=by
  have:=Nat.mul_lt_mul'' a.isLt b.isLt;omega
 have h2:(BitVec.ofNat 64 (a.toNat*b.toNat/18446744073709551616)==0#64)=decide (a.toNat*b.toNat<18446744073709551616):=by
  rw[Bool.eq_iff_iff,beq_iff_eq,decide_eq_true_iff];constructor
  ·intro e
   have:=congrArg BitVec.toNat e;rw[BitVec.toNat_ofNat,Nat.mod_eq_of_lt h1]at this;simp at this;omega
  ·intro e
   rw[Nat.div_eq_of_lt e]
 rw[h2,BitVec.ule,BitVec.toNat_mul];by_cases hl:a.toNat*b.toNat<18446744073709551616
 ·rw[Nat.mod_eq_of_lt hl];simp[hl]
 ·simp[hl]
theorem mul_n{x:T.Wk}{p q:Bool}(hp:(BitVec.ofNat 64 (x.a.hi.toNat*x.b.hi.toNat/18446744073709551616)==0#64)=p)(hq:(p&&(x.a.hi*x.b.hi).ule x.most)=q):x.mul=bif q then some ⟨x.a.lo*x.b.lo,x.a.hi*x.b.hi⟩else none:=by
 have h:=mul_ok x.a.hi x.b.hi x.most;rw[hp,hq]at h;unfold T.Wk.mul;cases q
 ·rw[if_neg (of_decide_eq_false h.symm)];rfl
 ·rw[if_pos (of_decide_eq_true h.symm)];rfl
theorem wmul_any(x:T.Wk)(w:World):Calls Tryz.prog 249 #[wkv x] w (RuleP w x.mul):=by
 have HE:=Hd (fun q lo hi=>wends_any x lo hi q);have HO:=Hd (fun q=>wboth_any x q);have HM:=Hd (fun q s=>wmixed_any x s q);unfold wkv at HE HO HM ⊢;unfold spv at HE HM;have BK:=bk2 w [W64 x.a.lo,W64 x.a.hi,W64 x.b.lo,W64 x.b.hi,.bool x.narrow,W64 x.most,W64 x.size] 229 [W64 0#64,W64 0#64] 122;go_enter Tryz.func249,Tryz.ntmps249;go_upto_region 1 with fail;generalize w.heap.size=X at *;refine wp_hid BK (fun w1 BK=>?_);obtain⟨c0,c1,c2,c3,c4,c5,c6,d0,d1,f0,f1⟩:=rl_cells BK.o;go_wp2_with fail;refine(mul64_any x.a.hi x.b.hi _).mono ?_;rintro e w3 ⟨rfl,rfl⟩;cases hq:(BitVec.ofNat 64 (x.a.hi.toNat*x.b.hi.toNat/18446744073709551616)==0#64)
 all_goals
  have HQ:=Hd hq;go_wp2_with fail;refine(must_any _ _).mono ?_;rintro e w2 (⟨hm,rfl,hs⟩|⟨hm,rfl,hs⟩)
  case inr =>
   have HFIN:=Hd (ruleP_none (o:=x.mul) (by first|(cases hm;done)|exact mul_n HQ.o rfl|exact mul_n HQ.o hm) (BK.o.call hs).since);clear hs BK;clear c0 c1 c2 c3 c4 c5 c6 d0 d1 f0 f1;go_wp2;exact⟨rfl,HFIN.o⟩
  have BK2:=Hd (BK.o.call hs);have HMM:=Hd hm;clear c0 c1 c2 c3 c4 c5 c6 d0 d1 f0 f1;clear hs BK hm;obtain⟨c0,c1,c2,c3,c4,c5,c6,d0,d1,f0,f1⟩:=rl_cells BK2.o;go_wp2;refine bodyPost_ret (v:=.agg #[W64 (x.a.lo*x.b.lo),W64 (x.a.hi*x.b.hi)]) ?_ rfl (ruleP_some (x.a.lo*x.b.lo) (x.a.hi*x.b.hi) (by first|exact mul_n HQ.o HMM.o|(cases HMM.o;done)) (rl_since BK2.o _ _));simp[results,Tryz.results249,go_sem,d0,d1]
theorem umax1(a:BitVec 64):T.umax a 1#64≠0#64:=by
 intro e;have:=congrArg BitVec.toNat e;rw[T.umax_toNat]at this;have h2:max a.toNat 1=0:=this;omega
theorem size_ne(x:T.Wk):x.size≠0#64:=by
 unfold T.Wk.size;split<;>decide
theorem mod_t{x:T.Wk}(h:x.a.hi.ult (T.umax x.b.lo 1#64)=true):x.mod=some x.a:=by unfold T.Wk.mod;rw[show(1:T.U)=1#64 from rfl,h];rfl
theorem mod_f{x:T.Wk}(h:x.a.hi.ult (T.umax x.b.lo 1#64)=false):x.mod=some ⟨0#64,T.umin x.a.hi (T.umax x.b.hi 1#64-1#64)⟩:=by unfold T.Wk.mod;rw[show(1:T.U)=1#64 from rfl,h];rfl
theorem wmod_any(x:T.Wk)(w:World):Calls Tryz.prog 251 #[wkv x] w (RuleP w x.mod):=by
 have HE:=Hd (fun q lo hi=>wends_any x lo hi q);have HO:=Hd (fun q=>wboth_any x q);have HM:=Hd (fun q s=>wmixed_any x s q);unfold wkv at HE HO HM ⊢;unfold spv at HE HM;have BK:=bk2 w [W64 x.a.lo,W64 x.a.hi,W64 x.b.lo,W64 x.b.hi,.bool x.narrow,W64 x.most,W64 x.size] 229 [W64 0#64,W64 0#64] 122;go_enter Tryz.func251,Tryz.ntmps251;go_upto_region 1 with fail;generalize w.heap.size=X at *;refine wp_hid BK (fun w1 BK=>?_);obtain⟨c0,c1,c2,c3,c4,c5,c6,d0,d1,f0,f1⟩:=rl_cells BK.o;cases hq:decide (x.a.hi<T.umax x.b.lo 1#64)
 case false =>
  have HQ:=Hd hq;go_wp2;refine bodyPost_ret (v:=.agg #[W64 (0#64),W64 (T.umin x.a.hi (T.umax x.b.hi 1#64-1#64))]) ?_ rfl (ruleP_some (0#64) (T.umin x.a.hi (T.umax x.b.hi 1#64-1#64)) (mod_f HQ.o) (rl_since BK.o _ _));simp[results,Tryz.results251,go_sem,d0,d1]
 case true =>
  have HQ:=Hd hq;go_wp2;refine bodyPost_ret (v:=.agg #[W64 (x.a.lo),W64 (x.a.hi)]) ?_ rfl (ruleP_some (x.a.lo) (x.a.hi) (mod_t HQ.o) (rl_since BK.o _ _));simp[results,Tryz.results251,go_sem,d0,d1]
theorem wmov_any(x:T.Wk)(w:World):Calls Tryz.prog 258 #[wkv x] w (RuleP w (some x.b)):=by
 have HE:=Hd (fun q lo hi=>wends_any x lo hi q);have HO:=Hd (fun q=>wboth_any x q);have HM:=Hd (fun q s=>wmixed_any x s q);unfold wkv at HE HO HM ⊢;unfold spv at HE HM;have BK:=bk2 w [W64 x.a.lo,W64 x.a.hi,W64 x.b.lo,W64 x.b.hi,.bool x.narrow,W64 x.most,W64 x.size] 229 [W64 0#64,W64 0#64] 122;go_enter Tryz.func258,Tryz.ntmps258;go_upto_region 1 with fail;generalize w.heap.size=X at *;refine wp_hid BK (fun w1 BK=>?_);obtain⟨c0,c1,c2,c3,c4,c5,c6,d0,d1,f0,f1⟩:=rl_cells BK.o;go_wp2;refine bodyPost_ret (v:=.agg #[W64 (x.b.lo),W64 (x.b.hi)]) ?_ rfl (ruleP_some (x.b.lo) (x.b.hi) (rfl) (rl_since BK.o _ _));simp[results,Tryz.results258,go_sem,d0,d1]
theorem neg_t{x:T.Wk}(h:(x.a.hi==0#64)=true):x.neg=some x.a:=by unfold T.Wk.neg;exact if_pos h
theorem neg_f{x:T.Wk}{q:Bool}(h:(x.a.hi==0#64)=false)(hq:decide (0#64<x.a.lo)=q):x.neg=bif q then some (x.ends (-x.a.hi) (-x.a.lo))else none:=by
 unfold T.Wk.neg;rw[show(x.a.hi==(0:T.U))=false from h,show BitVec.ult 0 x.a.lo=q from hq];cases q<;>rfl
theorem wneg_any(x:T.Wk)(w:World):Calls Tryz.prog 259 #[wkv x] w (RuleP w x.neg):=by
 have HE:=Hd (fun q lo hi=>wends_any x lo hi q);have HO:=Hd (fun q=>wboth_any x q);have HM:=Hd (fun q s=>wmixed_any x s q);unfold wkv at HE HO HM ⊢;unfold spv at HE HM;have BK:=bk2 w [W64 x.a.lo,W64 x.a.hi,W64 x.b.lo,W64 x.b.hi,.bool x.narrow,W64 x.most,W64 x.size] 229 [W64 0#64,W64 0#64] 122;go_enter Tryz.func259,Tryz.ntmps259;go_upto_region 1 with fail;generalize w.heap.size=X at *;refine wp_hid BK (fun w1 BK=>?_);obtain⟨c0,c1,c2,c3,c4,c5,c6,d0,d1,f0,f1⟩:=rl_cells BK.o;cases hq:x.a.hi==0#64
 case true =>
  have HQ:=Hd hq;go_wp2;refine bodyPost_ret (v:=.agg #[W64 (x.a.lo),W64 (x.a.hi)]) ?_ rfl (ruleP_some (x.a.lo) (x.a.hi) (neg_t HQ.o) (rl_since BK.o _ _));simp[results,Tryz.results259,go_sem,d0,d1]
 case false =>
  have HQ:=Hd hq;go_wp2_with fail;refine(must_any _ _).mono ?_;rintro e w2 (⟨hm,rfl,hs⟩|⟨hm,rfl,hs⟩)
  case inr =>
   have HFIN:=Hd (ruleP_none (o:=x.neg) (neg_f HQ.o hm) (BK.o.call hs).since);clear hs BK;clear c0 c1 c2 c3 c4 c5 c6 d0 d1 f0 f1;go_wp2;exact⟨rfl,HFIN.o⟩
  have BK2:=Hd (BK.o.call hs);have HMM:=Hd hm;clear c0 c1 c2 c3 c4 c5 c6 d0 d1 f0 f1;clear hs BK hm;obtain⟨c0,c1,c2,c3,c4,c5,c6,d0,d1,f0,f1⟩:=rl_cells BK2.o;go_wp2_with fail;refine(HE.o _ _ _).mono ?_;rintro e w3 ⟨rfl,hs⟩;have BK3:=Hd (BK2.o.call hs);clear c0 c1 c2 c3 c4 c5 c6 d0 d1 f0 f1;clear hs BK2;obtain⟨c0,c1,c2,c3,c4,c5,c6,d0,d1,f0,f1⟩:=rl_cells BK3.o;go_wp2;refine bodyPost_ret (v:=.agg #[W64 ((x.ends (-x.a.hi) (-x.a.lo)).lo),W64 ((x.ends (-x.a.hi) (-x.a.lo)).hi)]) ?_ rfl (ruleP_some ((x.ends (-x.a.hi) (-x.a.lo)).lo) ((x.ends (-x.a.hi) (-x.a.lo)).hi) (neg_f HQ.o HMM.o) (rl_since BK3.o _ _));simp[results,Tryz.results259,go_sem,d0,d1]
end Go.Proofs.YtfeipbgnjainlaaGreatDoor.K
