/- TYi -/
import Derived.Test.YtfeipbgnjainlaaGreatDoorTp10
import Derived.Test.YtfeipbgnjainlaaGreatDoorTp2
import Derived.Test.YtfeipbgnjainlaaGreatDoorTp4
import Derived.Test.YtfeipbgnjainlaaGreatDoorTp36
set_option linter.unusedVariables false
set_option linter.unusedSimpArgs false
set_option maxRecDepth 100000
set_option maxHeartbeats 8000000
namespace Go.Proofs.YtfeipbgnjainlaaGreatDoor.K
open Go Go.RowKit Go.Maps Go.Sort
theorem dl{a b c d e f g h i j k l m n o:Prop}(x:a/\b/\c/\d/\e/\f/\g/\h)(y:i/\j/\k/\l)(z:m/\n/\o):d/\f/\h/\i/\j/\k/\l/\m/\n/\o:=⟨x.2.2.2.1,x.2.2.2.2.2.1,x.2.2.2.2.2.2.2,y.1,y.2.1,y.2.2.1,y.2.2.2,z⟩
theorem prd_of0{w0 w:World}{L:List Acc}(h:Bank w0 w L){z:PV}(h2:z.byA∈L):512<=z.cb:=by
 obtain⟨q,hq⟩:=List.mem_iff_getElem?.1 h2;exact h.rcap q hq
theorem T.sized_le{n:Int}(h:T.sized n=true):0<=n/\n<=8:=by
 unfold T.sized at h;have:=of_decide_eq_true h;omega
theorem sized_v{n:Int}(h:T.sized n=true):∃v:Int,(n=1/\v=255)\/(n=2/\v=65535)\/(n=4/\v=4294967295)\/(n=8/\v=18446744073709551615):=by
 rcases of_decide_eq_true h with h|h|h|h
 ·exact⟨_,.inl ⟨h,rfl⟩⟩
 ·exact⟨_,.inr (.inl ⟨h,rfl⟩)⟩
 ·exact⟨_,.inr (.inr (.inl ⟨h,rfl⟩))⟩
 ·exact⟨_,.inr (.inr (.inr ⟨h,rfl⟩))⟩
theorem loaded_v(i:T.Ins){v:Int}(h:(i.size=1/\v=255)\/(i.size=2/\v=65535)\/(i.size=4/\v=4294967295)\/(i.size=8/\v=18446744073709551615)):(T.loaded i).k=1/\W64 (T.loaded i).s.lo=.int .u64 0/\W64 (T.loaded i).s.hi=.int .u64 v:=by
 refine⟨rfl,rfl,?_⟩;unfold T.loaded;rcases h with⟨h,rfl⟩|⟨h,rfl⟩|⟨h,rfl⟩|⟨h,rfl⟩<;>rw[h]<;>rfl
theorem Bank.putLd{w0 w:World}{L:List Acc}(h:Bank w0 w L)(i:Nat){g n c:Nat}{ks:List T.Kn}(hi:L[i]?=some (rwA g n c 124 3 (knsL ks)))(k:Nat)(hk:k<ks.length){x:T.Kn}{v:Int}(hx:RowKit.Hid (x.k=1/\W64 x.s.lo=.int .u64 0/\W64 x.s.hi=.int .u64 v)):
  Bank w0 (((w.setCell ⟨g,k*3,Option.none⟩ (.int .u8 1)).setCell ⟨g,k*3+1,Option.none⟩ (.int .u64 0)).setCell ⟨g,k*3+2,Option.none⟩ (.int .u64 v)) (L.set i (rwA g n c 124 3 (knsL (ks.set k x)))):=by
 have h1:=h.putKn i hi k hk x;rw[hx.o.1,hx.o.2.1,hx.o.2.2]at h1;exact h1
theorem t5_fits(x:T.Kn)(hx:x.right=true)(hk:x.k=2)(off size:Int)(ho : -32768<=off/\off<=32767)(hs:0<=size/\size<=8)(hh:¬(65535#64).ult x.s.hi=true):IntKind.i64.wrap (BitVec.toInt (T.umin x.s.lo 65535#64)+off)=x.s.lo.toInt+off/\IntKind.i64.wrap (IntKind.i64.wrap (BitVec.toInt (T.umin x.s.hi 65535#64)+off)+size)=x.s.hi.toInt+off+size:=by
 have h1:x.s.hi.toNat<=65535:=by
  have h:=hh;simp[BitVec.ult]at h;omega
 have h0:x.s.lo.toNat<=x.s.hi.toNat:=(T.Sp.right_iff _).1 ((T.Kn.right_12 (Or.inr hk))▸hx);have m0:T.umin x.s.lo 65535#64=x.s.lo:=BitVec.eq_of_toNat_eq (by rw[T.umin_toNat];simp;omega);have m1:T.umin x.s.hi 65535#64=x.s.hi:=BitVec.eq_of_toNat_eq (by rw[T.umin_toNat];simp;omega);rw[m0,m1];have i0:x.s.lo.toInt=x.s.lo.toNat:=by rw[BitVec.toInt_eq_toNat_of_lt];omega
 have i1:x.s.hi.toInt=x.s.hi.toNat:=by rw[BitVec.toInt_eq_toNat_of_lt];omega
 rw[i0,i1]
 have w0:∀z:Int,-9223372036854775808<=z->z<9223372036854775808->IntKind.i64.wrap z=z:=fun z a b=>by
  have e:=wrap_i64_add 0#64 z;rw[show(0#64).toInt+z=z by simp]at e;rw[e];simp only[T.wide,BitVec.zero_add,BitVec.toInt_ofInt];rw[Int.bmod_def];omega
 constructor
 ·exact w0 _ (by omega) (by omega)
 ·rw[w0 (_+off) (by omega) (by omega)]
  exact w0 _ (by omega) (by omega)
theorem tyLoad1_ok(I Q:Nat)(y:PV)(i:T.Ins){w0 w:World}{R:List Acc}(hB:Bank w0 w (boxAcc Q 87 [.bool true,.slice (some ⟨y.gr,0,none⟩) 11 y.cr,.slice (some ⟨y.gb,0,none⟩) 512 y.cb,.int .i64 y.p.least]::y.regA::y.byA::R))(hI:∀k v,(insL i)[k]?=some v->w0.cell? ⟨I,k,none⟩=some v)(hw:y.p.Wf)(hr:i.right=true)(ho:i.op=14)(hk:T.loadErr i y.p=0):
  Calls Tryz.prog 177 #[.pointer (some ⟨Q,0,none⟩),.pointer (some ⟨I,0,none⟩)] w (TurnP w0 Q y R (y.p.put i.dst (T.loaded i))):=by
 have hf:=T.right_facts hr;obtain⟨op,nr,dst,src,u,off,imm,size⟩:=i;obtain⟨⟨d0,d1⟩,⟨s0,s1⟩,ho0,ho1,hz,_,_⟩:=hf;simp only at d0 d1 s0 s1 ho0 ho1 ho hz;have HZ:=Hd (hz (Or.inl ho));subst ho;obtain⟨d,rfl⟩:=Int.eq_ofNat_of_zero_le d0;obtain⟨s,rfl⟩:=Int.eq_ofNat_of_zero_le s0;have d11:d<11:=by omega
 have s11:s<11:=by omega
 have z0:(0:Int)<=(d:Int):=by omega
 have z1:(d:Int)<(11:Int):=by omega
 have y0:(0:Int)<=(s:Int):=by omega
 have y1:(s:Int)<(11:Int):=by omega
 obtain⟨x,hx⟩:∃x,y.p.reg (s:Int)=x:=⟨_,rfl⟩
 have HXR:=Hd (show x.right=true by rw[<-hx];exact hw.reg _);have HI:=Hd hI;have HX:=Hd (fun w' (h:RdC w' y.gr (knsL y.p.regs))=>hx▸knsReg h hw.rl s s11);have HL:=Hd hw;have HXD:=Hd (fun w' (h:RdC w' y.gr (knsL y.p.regs))=>knsReg h hw.rl d d11);have BK:=Hd hB;simp only[T.loadErr,hx]at hk;have HK:=Hd hk;clear hB hI hw hr hk hx d0 d1 s0 s1 hz;go_enter Tryz.func177,Tryz.ntmps177;go_upto_region 1 with fail;go_cut [4,5] (fun s4 s5 wx=>∃D,s4=.pointer (some ⟨D,0,none⟩)/\s5=.int .u64 65535/\Bank w0 wx (boxAcc D 124 [.int .u8 x.k,W64 x.s.lo,W64 x.s.hi]::boxAcc Q 87 [.bool true,.slice (some ⟨y.gr,0,none⟩) 11 y.cr,.slice (some ⟨y.gb,0,none⟩) 512 y.cb,.int .i64 y.p.least]::y.regA::y.byA::R))
 case first =>
  have BK:=Hd BK.o.drew;refine WL.begin 99 (fun _=>True) (fun w'=>w'.cell? ⟨I,3,none⟩=some (.int .i64 (s:Int))/\w'.cell? ⟨I,5,none⟩=some (.int .i64 off)/\w'.cell? ⟨I,7,none⟩=some (.int .i64 size)/\w'.cell? ⟨Q,0,none⟩=some (.bool true)/\w'.cell? ⟨Q,1,none⟩=some (.slice (some ⟨y.gr,0,none⟩) 11 y.cr)/\w'.cell? ⟨Q,2,none⟩=some (.slice (some ⟨y.gb,0,none⟩) 512 y.cb)/\w'.cell? ⟨Q,3,none⟩=some (.int .i64 y.p.least)/\w'.cell? ⟨y.gr,s*3,none⟩=some (.int .u8 x.k)/\w'.cell? ⟨y.gr,s*3+1,none⟩=some (W64 x.s.lo)/\w'.cell? ⟨y.gr,s*3+2,none⟩=some (W64 x.s.hi)) (by kernel_rfl) trivial (by first|exact dl (rkI (E:=[]) BK.o HI.o) (rkQ (E:=[]) BK.o) (HX.o _ (rkR (E:=[]) BK.o))|fail) (fun hs=>?_);generalize w.drew=wz at *;refine WL.tk [(0,[]),(1,[]),(2,[]),(3,[]),(4,[]),(5,[]),(6,[]),(7,[])] hs ?_;clear hs
  iterate 8
   (first|refine WLp ?_ ?_ ?_|refine WLl ?_ ?_ ?_);rotate_left
   ·intro w hc;go_simp<;>rfl
   simp only[Act.put,sA,sZ,sS]
  refine TKs.mk ?_;intro hs;refine WLo 8 hs ?_;clear hs;intro K hK;go_simp;have BK:=Hd (BK.o.bx [.int .u8 0,W64 0#64,W64 0#64] 124);refine hK.o _ _ (SaT (by first|exact dl (rkI (E:=[_]) BK.o HI.o) (rkQ (E:=[_]) BK.o) (HX.o _ (rkR (E:=[_]) BK.o))|fail)) ?_;generalize wz.heap.size=D at *;generalize(wz.alloc (.cells #[.int .u8 0,W64 0#64,W64 0#64] 124))=wz at *;clear hK K;intro hs;try simp only[Act.put,sA,sZ,sS]
  refine WLo 9 hs ?_;clear hs;intro K hK;have hb3:=BK.o.r3 0 rfl;have b0:=hb3.1;have b1:=hb3.2.1;have b2:=hb3.2.2.1;have fb0:=hb3.2.2.2.1;have fb1:=hb3.2.2.2.2.1;have fb2:=hb3.2.2.2.2.2;clear hb3;go_simp;have BK:=Hd (((BK.o.bs 0 0 (.int .u8 x.k)).bs 0 1 (W64 x.s.lo)).bs 0 2 (W64 x.s.hi));clear b0 b1 b2 fb0 fb1 fb2;refine hK.o _ _ (SaT (by first|exact dl (rkI (E:=[_]) BK.o HI.o) (rkQ (E:=[_]) BK.o) (HX.o _ (rkR (E:=[_]) BK.o))|fail)) ?_;clear hK K;intro hs;try simp only[Act.put]
  refine WLo 10 hs ?_;clear hs;intro K hK;go_simp;refine hK.o _ _ (SaT (by first|exact dl (rkI (E:=[_]) BK.o HI.o) (rkQ (E:=[_]) BK.o) (HX.o _ (rkR (E:=[_]) BK.o))|exact dl (rkI (E:=[]) BK.o HI.o) (rkQ (E:=[]) BK.o) (HX.o _ (rkR (E:=[]) BK.o))|fail)) ?_;clear hK K;intro hs;try simp only[Act.put,sA,sZ,sS]
  clear hs;refine WLd ?_ _;try simp only[Exit.then]
  go_wp2_with fail;go_meet;exact⟨_,rfl,rfl,BK.o⟩
 case rest =>
  obtain⟨D,rfl,rfl,hB⟩:=hcut;have BK:=Hd hB;clear hB;by_cases h3:x.k=3
  case' pos =>
   have HRE:=Hd (show T.readErr y.p.bytes (x.s.lo+T.wide off).toInt size=0 by have h:=HK.o;rw[if_pos h3]at h;exact h);have e2:(x.k==2)=false:=by simpa using(show ¬x.k=2 by omega)
   have e3:(x.k==3)=true:=by simpa using h3
   obtain⟨a,ha⟩:∃a,(x.s.lo+T.wide off).toInt=a:=⟨_,rfl⟩
   have HF:=Hd (show ∀w',Calls Tryz.prog 178 #[.agg #[.int .u8 x.k,W64 x.s.lo,W64 x.s.hi],.int .i64 off] w' (Ret w' (.int .i64 a))from ha▸fun w'=>tyFar_any x off w')
   have HS:=Hd (show ∀w',RdC w' y.gb (y.p.bytes.map Value.bool)->512<=y.cb->Calls Tryz.prog 115 #[.slice (some ⟨y.gb,0,none⟩) 512 y.cb,.int .i64 a,.int .i64 size] w' (Ret w' (.int .i64 0))from fun w' hb hc=>by
    have h:=stkRead_any y.gb 0 y.cb (x.s.lo+T.wide off).toInt size y.p.bytes w' (by have:=BitVec.le_toInt (x.s.lo+T.wide off);omega) (by have:=BitVec.toInt_lt (x:=x.s.lo+T.wide off);omega) HL.o.bl hc (boRd_of hb);rw[HRE.o,ha]at h
    exact h)
   have b0:=(BK.o.q3 0 rfl).1;clear h3 HRE HK ha;go_upto_region 9 with fail;have BK:=Hd BK.o.drew;clear b0;refine WL.begin 99 (fun _=>True) (fun w'=>w'.cell? ⟨I,5,none⟩=some (.int .i64 off)/\w'.cell? ⟨I,7,none⟩=some (.int .i64 size)/\w'.cell? ⟨Q,2,none⟩=some (.slice (some ⟨y.gb,0,none⟩) 512 y.cb)/\w'.cell? ⟨D,0,none⟩=some (.int .u8 x.k)/\w'.cell? ⟨D,1,none⟩=some (W64 x.s.lo)/\w'.cell? ⟨D,2,none⟩=some (W64 x.s.hi)) (by kernel_rfl) trivial ⟨(rkI (E:=[_]) BK.o HI.o).2.2.2.2.2.1,(rkI (E:=[_]) BK.o HI.o).2.2.2.2.2.2.2,(rkQ (E:=[_]) BK.o).2.2.1,BK.o.q3 0 rfl⟩ (fun hs=>?_);generalize wc.drew=wz at *;refine WL.tk [(0,[]),(1,[]),(2,[]),(3,[]),(4,[]),(5,[]),(6,[]),(8,[]),(9,[])] hs ?_;clear hs
   iterate 9
    (first|refine WLp ?_ ?_ ?_|refine WLl ?_ ?_ ?_);rotate_left
    ·intro w hc;go_simp<;>rfl
    simp only[Act.put,sA,sZ,sS]
   refine TKs.mk ?_;intro hs;refine WLo 7 hs ?_;clear hs;intro K hK;go_simp;refine(HF.o _).mono ?_;rintro e wz ⟨rfl,hs⟩;have BK:=Hd (BK.o.call hs);clear hs;refine hK.o _ _ (SaT ⟨(rkI (E:=[_]) BK.o HI.o).2.2.2.2.2.1,(rkI (E:=[_]) BK.o HI.o).2.2.2.2.2.2.2,(rkQ (E:=[_]) BK.o).2.2.1,BK.o.q3 0 rfl⟩) ?_;clear hK K;intro hs;try simp only[Act.put,sA,sZ,sS]
   refine WLo 10 hs ?_;clear hs;intro K hK;go_simp;refine(HS.o _ (byA_rd BK.o (by simp)) (prd_of0 BK.o (by simp))).mono ?_;rintro e wz ⟨rfl,hs⟩;have BK:=Hd (BK.o.call hs);clear hs;refine hK.o _ _ (SaT ⟨(rkI (E:=[_]) BK.o HI.o).2.2.2.2.2.1,(rkI (E:=[_]) BK.o HI.o).2.2.2.2.2.2.2,(rkQ (E:=[_]) BK.o).2.2.1,BK.o.q3 0 rfl⟩) ?_;clear hK K;intro hs;try simp only[Act.put,sA,sZ,sS]
   refine WLo 11 hs ?_;clear hs;intro K hK;go_simp;refine hK.o _ _ (SaT ⟨(rkI (E:=[_]) BK.o HI.o).2.2.2.2.2.1,(rkI (E:=[_]) BK.o HI.o).2.2.2.2.2.2.2,(rkQ (E:=[_]) BK.o).2.2.1,BK.o.q3 0 rfl⟩) ?_;clear hK K;intro hs;try simp only[Act.put,sA,sZ,sS]
   clear hs;refine WLd ?_ _;try simp only[Exit.then]
   go_upto_region 14 with fail;refine wp_hid BK (fun wc BK=>?_)
  case' neg =>
   have h2:x.k=2:=Classical.byContradiction (fun h2=>by have h:=HK.o;rw[if_neg h3,if_neg h2]at h;exact if q:(T.asN y.p x).1≠0 then(by rw[if_pos q]at h;exact q h)else(by rw[if_neg q]at h;exact absurd h (by decide)));have e2:(x.k==2)=true:=by simpa using h2
   have HRE:=Hd (show ¬(65535#64).ult x.s.hi=true/\¬(x.s.lo.toInt+off<0\/y.p.least<x.s.hi.toInt+off+size)by
    have h:=HK.o;rw[if_neg h3,if_pos h2]at h;split at h
    ·exact absurd h (by decide)
    ·rename_i q
     split at h
     ·exact absurd h (by decide)
     ·rename_i r
      exact⟨q,r⟩)
   have HV:=Hd (t5_fits x HXR.o h2 off size ho0 (T.sized_le HZ.o) HRE.o.1);have b0:=(BK.o.q3 0 rfl).1;clear h3 h2 HK;go_upto_region 5 with fail;go_cut [6,7] (fun s6 s7 wx=>s6=.int .i64 (x.s.lo.toInt+off)/\s7=.int .i64 (x.s.hi.toInt+off+size)/\Bank w0 wx (boxAcc D 124 [.int .u8 x.k,W64 x.s.lo,W64 x.s.hi]::boxAcc Q 87 [.bool true,.slice (some ⟨y.gr,0,none⟩) 11 y.cr,.slice (some ⟨y.gb,0,none⟩) 512 y.cb,.int .i64 y.p.least]::y.regA::y.byA::R))
   case first =>
    have BK:=Hd BK.o.drew;clear b0;refine WL.begin 99 (fun _=>True) (fun w'=>w'.cell? ⟨I,5,none⟩=some (.int .i64 off)/\w'.cell? ⟨I,7,none⟩=some (.int .i64 size)/\w'.cell? ⟨D,0,none⟩=some (.int .u8 x.k)/\w'.cell? ⟨D,1,none⟩=some (W64 x.s.lo)/\w'.cell? ⟨D,2,none⟩=some (W64 x.s.hi)) (by kernel_rfl) trivial ⟨(rkI (E:=[_]) BK.o HI.o).2.2.2.2.2.1,(rkI (E:=[_]) BK.o HI.o).2.2.2.2.2.2.2,BK.o.q3 0 rfl⟩ (fun hs=>?_);generalize wc.drew=wz at *;refine WL.tk [(0,[]),(1,[]),(2,[]),(3,[]),(4,[]),(5,[]),(6,[]),(7,[]),(8,[]),(9,[]),(10,[]),(11,[]),(12,[]),(13,[]),(14,[]),(15,[]),(16,[]),(17,[]),(18,[]),(19,[]),(20,[])] hs ?_;clear hs
    iterate 21
     (first|refine WLp ?_ ?_ ?_|refine WLl ?_ ?_ ?_);rotate_left
     ·intro w hc;go_simp<;>rfl
     simp only[Act.put,sA,sZ,sS]
    refine TKs.mk ?_;intro hs;refine WLo 21 hs ?_;clear hs;intro K hK;go_simp;refine hK.o _ _ (SaT ⟨(rkI (E:=[_]) BK.o HI.o).2.2.2.2.2.1,(rkI (E:=[_]) BK.o HI.o).2.2.2.2.2.2.2,BK.o.q3 0 rfl⟩) ?_;clear hK K;intro hs;try simp only[Act.put,sA,sZ,sS]
    refine WLo 22 hs ?_;clear hs;intro K hK;go_simp;refine hK.o _ _ (SaT ⟨(rkI (E:=[_]) BK.o HI.o).2.2.2.2.2.1,(rkI (E:=[_]) BK.o HI.o).2.2.2.2.2.2.2,BK.o.q3 0 rfl⟩) ?_;clear hK K;intro hs;try simp only[Act.put,sA,sZ,sS]
    clear hs;refine WLd ?_ _;try simp only[Exit.then]
    go_wp2_with fail;go_meet;exact⟨by rw[HV.o.1],by rw[HV.o.2],BK.o⟩
   case' rest =>
    obtain⟨rfl,rfl,hB⟩:=hcut;have BK:=Hd hB;clear hB HV;obtain⟨b0,b1,b2⟩:=BK.o.q3 0 rfl;have q3:=(rkQ (E:=[_]) BK.o).2.2.2;have e4:decide (65535#64<x.s.hi)=false:=by simpa [BitVec.ult,BitVec.lt_def]using HRE.o.1
    have e5:decide (x.s.lo.toInt+off<0)=false:=by simpa using(show ¬x.s.lo.toInt+off<0 from fun h=>HRE.o.2 (Or.inl h))
    have e6:decide (y.p.least<x.s.hi.toInt+off+size)=false:=by simpa using(show ¬y.p.least<x.s.hi.toInt+off+size from fun h=>HRE.o.2 (Or.inr h))
    clear HRE;go_upto_region 14 with fail;clear b0 b1 b2 q3 e4 e5 e6
  all_goals
   obtain⟨v,hv⟩:=sized_v HZ.o;have HLD:=Hd (loaded_v ⟨14,nr,(d:Int),(s:Int),u,off,imm,size⟩ hv);clear HZ;rcases hv with⟨rfl,rfl⟩|⟨rfl,rfl⟩|⟨rfl,rfl⟩|⟨rfl,rfl⟩
  all_goals
   have BK:=Hd BK.o.drew;refine WL.begin 16 (fun w'=>w'.cell? ⟨I,2,none⟩=some (.int .i64 (d:Int))/\w'.cell? ⟨I,7,none⟩=some (.int .i64 _)/\w'.cell? ⟨Q,1,none⟩=some (.slice (some ⟨y.gr,0,none⟩) 11 y.cr)) (fun _=>True) (by kernel_rfl) ⟨(rkI (E:=[_]) BK.o HI.o).2.2.1,(rkI (E:=[_]) BK.o HI.o).2.2.2.2.2.2.2,(rkQ (E:=[_]) BK.o).2.1⟩ trivial (fun hs=>?_);generalize wc.drew=wz at *;refine WL.tk [(0,[]),(1,[]),(2,[]),(3,[3]),(4,[]),(5,[5]),(6,[]),(7,[7]),(8,[]),(9,[]),(10,[]),(11,[]),(12,[]),(13,[]),(14,[]),(15,[])] hs ?_;clear hs
   iterate 16
    (first|refine WLp ?_ ?_ ?_|refine WLl ?_ ?_ ?_);rotate_left
    ·intro w hc;go_simp<;>rfl
    simp only[Act.put,sA,sZ,sS]
   refine TKs.mk ?_;intro hs;refine WLo 16 hs ?_;clear hs;intro K hK;have he:=HXD.o _ (rkR (E:=[_]) BK.o);have e0:=he.1;have e1:=he.2.1;have e2:=he.2.2;clear he;have f0:=BK.o.rfree 2 rfl (d*3);have f1:=BK.o.rfree 2 rfl (d*3+1);have f2:=BK.o.rfree 2 rfl (d*3+2);go_simp;have BK5:=Hd (BK.o.putLd 2 rfl d (by rw[HL.o.rl];exact d11) HLD);clear e0 e1 e2 f0 f1 f2;refine hK.o _ _ SaF ?_;clear hK K;intro hs;try simp only[Act.put]
   clear hs;refine WLd ?_ _;try simp only[Exit.then]
   go_wp2_with fail;go_ret;exact⟨{ y with p:=y.p.put (d:Int) _ },rfl,rfl,BK5.o.drop⟩
end Go.Proofs.YtfeipbgnjainlaaGreatDoor.K
