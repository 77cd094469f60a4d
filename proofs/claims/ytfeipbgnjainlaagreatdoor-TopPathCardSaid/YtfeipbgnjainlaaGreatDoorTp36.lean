/- TYh -/
import Derived.Test.YtfeipbgnjainlaaGreatDoorTp10
import Derived.Test.YtfeipbgnjainlaaGreatDoorTp2
import Derived.Test.YtfeipbgnjainlaaGreatDoorTp4
import Derived.Test.YtfeipbgnjainlaaGreatDoorTp35
import Derived.Test.YtfeipbgnjainlaaGreatDoorTp23
import Derived.Test.YtfeipbgnjainlaaGreatDoorTp24
set_option linter.unusedVariables false
set_option linter.unusedSimpArgs false
set_option maxRecDepth 100000
set_option maxHeartbeats 8000000
namespace Go.Proofs.YtfeipbgnjainlaaGreatDoor.K
open Go Go.RowKit Go.Maps Go.Sort
section
variable{w0 w:World}{Q I:Nat}{y:PV}{E R:List Acc}(h:Bank w0 w (E++(boxAcc Q 87 [.bool true,.slice (some ⟨y.gr,0,none⟩) 11 y.cr,.slice (some ⟨y.gb,0,none⟩) 512 y.cb,.int .i64 y.p.least]::y.regA::y.byA::R)))
include h
theorem rkQ:w.cell? ⟨Q,0,none⟩=some (.bool true)/\w.cell? ⟨Q,1,none⟩=some (.slice (some ⟨y.gr,0,none⟩) 11 y.cr)/\w.cell? ⟨Q,2,none⟩=some (.slice (some ⟨y.gb,0,none⟩) 512 y.cb)/\w.cell? ⟨Q,3,none⟩=some (.int .i64 y.p.least) :=
 h.q4 E.length (by rw[List.getElem?_append_right (Nat.le_refl _),Nat.sub_self];rfl)
theorem rkR:RdC w y.gr (knsL y.p.regs):=regA_rd h (by simp)
theorem rkI{i:T.Ins}(hI:∀k v,(insL i)[k]?=some v->w0.cell? ⟨I,k,none⟩=some v):w.cell? ⟨I,0,none⟩=some (.int .u8 i.op)/\w.cell? ⟨I,1,none⟩=some (.bool i.narrow)/\w.cell? ⟨I,2,none⟩=some (.int .i64 i.dst)/\w.cell? ⟨I,3,none⟩=some (.int .i64 i.src)/\w.cell? ⟨I,4,none⟩=some (.bool i.useImm)/\w.cell? ⟨I,5,none⟩=some (.int .i64 i.off)/\w.cell? ⟨I,6,none⟩=some (.int .i64 i.imm)/\w.cell? ⟨I,7,none⟩=some (.int .i64 i.size) :=
 ⟨h.since.keep (hI 0 _ rfl),h.since.keep (hI 1 _ rfl),h.since.keep (hI 2 _ rfl),h.since.keep (hI 3 _ rfl),h.since.keep (hI 4 _ rfl),h.since.keep (hI 5 _ rfl),h.since.keep (hI 6 _ rfl),h.since.keep (hI 7 _ rfl)⟩
end
def TurnP(w0:World)(Q:Nat)(y:PV)(R:List Acc)(p:T.Pl)(e:Ending)(w':World):Prop:=∃z:PV,z.p=p/\e=.returned .nilIface/\Bank w0 w' (boxAcc Q 87 [.bool true,.slice (some ⟨z.gr,0,none⟩) 11 z.cr,.slice (some ⟨z.gb,0,none⟩) 512 z.cb,.int .i64 z.p.least]::z.regA::z.byA::R)
theorem app12{a b c d e f g h i j k l:Prop}(x:a/\b/\c/\d/\e/\f/\g/\h)(y:i/\j/\k/\l):a/\b/\c/\d/\e/\f/\g/\h/\i/\j/\k/\l:=by
 obtain⟨x0,x1,x2,x3,x4,x5,x6,x7⟩:=x;exact⟨x0,x1,x2,x3,x4,x5,x6,x7,y⟩
theorem d4{a b c d e f g h i j k l m n o p q r:Prop}(x:a/\b/\c/\d/\e/\f/\g/\h)(y:i/\j/\k/\l)(z:m/\n/\o)(u:p/\q/\r):a/\b/\c/\j/\m/\n/\o/\p/\q/\r:=⟨x.1,x.2.1,x.2.2.1,y.2.1,z.1,z.2.1,z.2.2,u⟩
theorem tyReck1_ok(I Q:Nat)(y:PV)(i:T.Ins){w0 w:World}{R:List Acc}(hB:Bank w0 w (boxAcc Q 87 [.bool true,.slice (some ⟨y.gr,0,none⟩) 11 y.cr,.slice (some ⟨y.gb,0,none⟩) 512 y.cb,.int .i64 y.p.least]::y.regA::y.byA::R))(hI:∀k v,(insL i)[k]?=some v->w0.cell? ⟨I,k,none⟩=some v)(hw:y.p.Wf)(hr:i.right=true)(ho:i.op<=13)(hk:(T.kof i y.p).2=0):
  Calls Tryz.prog 174 #[.pointer (some ⟨Q,0,none⟩),.pointer (some ⟨I,0,none⟩)] w (TurnP w0 Q y R (y.p.put i.dst (T.kof i y.p).1)):=by
 have hf:=T.right_facts hr;obtain⟨op,nr,dst,src,u,off,imm,size⟩:=i;obtain⟨⟨d0,d1⟩,hs,_,_,_,hop,_⟩:=hf;simp only at d0 d1 hs hop ho;obtain⟨d,rfl⟩:=Int.eq_ofNat_of_zero_le d0;have d11:d<11:=by omega
 have z0:(0:Int)<=(d:Int):=by omega
 have z1:(d:Int)<(11:Int):=by omega
 obtain⟨b,hb⟩:∃b,T.second ⟨op,nr,(d:Int),src,u,off,imm,size⟩ y.p=b:=⟨_,rfl⟩
 obtain⟨x,hx⟩:∃x,y.p.reg (d:Int)=x:=⟨_,rfl⟩
 obtain⟨k,hkk⟩:∃k,(T.kof ⟨op,nr,(d:Int),src,u,off,imm,size⟩ y.p).1=k:=⟨_,rfl⟩
 rw[show(T.Ins.mk op nr (d:Int) src u off imm size).dst=(d:Int)from rfl,hkk];have HBR:=Hd (show b.right=true by rw[<-hb];exact T.second_right hw _);have HXR:=Hd (show x.right=true by rw[<-hx];exact hw.reg _)
 have HKO:=Hd (show T.kdo op nr x (if op=13 then T.Kn.none else b)=(k,0)by
  rw[<-hkk,<-hk,<-hb,<-hx]
  rfl)
 have HI:=Hd hI;have HX:=Hd (fun w' (h:RdC w' y.gr (knsL y.p.regs))=>hx▸knsReg h hw.rl d d11);have HP:=Hd (show ∀w',RdC w' y.gr (knsL y.p.regs)->Calls Tryz.prog 175 #[.agg #[.int .u8 op,.bool nr,.int .i64 (d:Int),.int .i64 src,.bool u,.int .i64 off,.int .i64 imm,.int .i64 size],.agg #[.bool true,.slice (some ⟨y.gr,0,none⟩) 11 y.cr,.slice (some ⟨y.gb,0,none⟩) 512 y.cb,.int .i64 y.p.least]] w' (Ret w' (.agg #[.int .u8 b.k,W64 b.s.lo,W64 b.s.hi]))from fun w' h=>by rw[<-hb];exact tyPart_any y ⟨op,nr,(d:Int),src,u,off,imm,size⟩ w' h hw.rl hs);have HL:=Hd hw.rl;have HOP:=Hd (⟨hop.1,ho⟩:1<=op/\op<=13);have BK:=Hd hB;clear hB hI hw hr ho hk hop hs hb hx hkk d0 d1;go_enter Tryz.func174,Tryz.ntmps174;go_upto_region 1 with fail;go_cut [4] (fun s4 wx=>∃D,s4=.pointer (some ⟨D,0,none⟩)/\Bank w0 wx (boxAcc D 124 [.int .u8 b.k,W64 b.s.lo,W64 b.s.hi]::boxAcc Q 87 [.bool true,.slice (some ⟨y.gr,0,none⟩) 11 y.cr,.slice (some ⟨y.gb,0,none⟩) 512 y.cb,.int .i64 y.p.least]::y.regA::y.byA::R))
 case first =>
  have BK:=Hd BK.o.drew;refine WL.begin 99 (fun _=>True) (fun w'=>w'.cell? ⟨I,0,none⟩=some (.int .u8 op)/\w'.cell? ⟨I,1,none⟩=some (.bool nr)/\w'.cell? ⟨I,2,none⟩=some (.int .i64 (d:Int))/\w'.cell? ⟨I,3,none⟩=some (.int .i64 src)/\w'.cell? ⟨I,4,none⟩=some (.bool u)/\w'.cell? ⟨I,5,none⟩=some (.int .i64 off)/\w'.cell? ⟨I,6,none⟩=some (.int .i64 imm)/\w'.cell? ⟨I,7,none⟩=some (.int .i64 size)/\w'.cell? ⟨Q,0,none⟩=some (.bool true)/\w'.cell? ⟨Q,1,none⟩=some (.slice (some ⟨y.gr,0,none⟩) 11 y.cr)/\w'.cell? ⟨Q,2,none⟩=some (.slice (some ⟨y.gb,0,none⟩) 512 y.cb)/\w'.cell? ⟨Q,3,none⟩=some (.int .i64 y.p.least)) (by kernel_rfl) trivial (by first|exact app12 (rkI (E:=[]) BK.o HI.o) (rkQ (E:=[]) BK.o)|fail) (fun hs=>?_);generalize w.drew=wz at *;refine WL.tk [(0,[]),(1,[]),(2,[]),(3,[])] hs ?_;clear hs
  iterate 4
   (first|refine WLp ?_ ?_ ?_|refine WLl ?_ ?_ ?_);rotate_left
   ·intro w hc;go_simp<;>rfl
   simp only[Act.put,sA,sZ,sS]
  refine TKs.mk ?_;intro hs;refine WL.o2 (i:=4) (j:=5) (by kernel_rfl) rfl rfl hs ?_ ?_<;>clear hs
  ·intro K hK
   go_simp;refine(HP.o _ (by first|exact rkR (E:=[]) BK.o|exact rkR (E:=[_]) BK.o|fail)).mono ?_;rintro e wz ⟨rfl,hs⟩;have BK:=Hd (BK.o.call hs);clear hs;refine hK.o _ _ (SaT (by first|exact app12 (rkI (E:=[]) BK.o HI.o) (rkQ (E:=[]) BK.o)|exact app12 (rkI (E:=[_]) BK.o HI.o) (rkQ (E:=[_]) BK.o)|fail)) ?_;clear hK K;intro hs;try simp only[Act.put,sA,sZ,sS]
   refine WLo 5 hs ?_;clear hs;intro K hK;go_simp;have BK:=Hd (BK.o.bx [.int .u8 0,W64 0#64,W64 0#64] 124);refine hK.o _ _ (SaT (by first|exact app12 (rkI (E:=[_]) BK.o HI.o) (rkQ (E:=[_]) BK.o)|fail)) ?_;generalize wz.heap.size=D at *;generalize(wz.alloc (.cells #[.int .u8 0,W64 0#64,W64 0#64] 124))=wz at *;clear hK K;intro hs;try simp only[Act.put,sA,sZ,sS]
   refine WLo 6 hs ?_;clear hs;intro K hK;have hb3:=BK.o.r3 0 rfl;have b0:=hb3.1;have b1:=hb3.2.1;have b2:=hb3.2.2.1;have fb0:=hb3.2.2.2.1;have fb1:=hb3.2.2.2.2.1;have fb2:=hb3.2.2.2.2.2;clear hb3;go_simp;have BK:=Hd (((BK.o.bs 0 0 (.int .u8 b.k)).bs 0 1 (W64 b.s.lo)).bs 0 2 (W64 b.s.hi));clear b0 b1 b2 fb0 fb1 fb2;refine hK.o _ _ (SaT (by first|exact app12 (rkI (E:=[_]) BK.o HI.o) (rkQ (E:=[_]) BK.o)|fail)) ?_;clear hK K;intro hs;try simp only[Act.put]
   clear hs;refine WLd ?_ _;try simp only[Exit.then]
   go_wp2_with fail;go_meet;exact⟨_,rfl,BK.o⟩
  ·intro K hK
   go_simp;have BK:=Hd (BK.o.bx [.int .u8 0,W64 0#64,W64 0#64] 124);refine hK.o _ _ (SaT (by first|exact app12 (rkI (E:=[_]) BK.o HI.o) (rkQ (E:=[_]) BK.o)|fail)) ?_;generalize wz.heap.size=D at *;generalize(wz.alloc (.cells #[.int .u8 0,W64 0#64,W64 0#64] 124))=wz at *;clear hK K;intro hs;try simp only[Act.put,sA,sZ,sS]
   refine WLo 4 hs ?_;clear hs;intro K hK;go_simp;refine(HP.o _ (by first|exact rkR (E:=[]) BK.o|exact rkR (E:=[_]) BK.o|fail)).mono ?_;rintro e wz ⟨rfl,hs⟩;have BK:=Hd (BK.o.call hs);clear hs;refine hK.o _ _ (SaT (by first|exact app12 (rkI (E:=[]) BK.o HI.o) (rkQ (E:=[]) BK.o)|exact app12 (rkI (E:=[_]) BK.o HI.o) (rkQ (E:=[_]) BK.o)|fail)) ?_;clear hK K;intro hs;try simp only[Act.put,sA,sZ,sS]
   refine WLo 6 hs ?_;clear hs;intro K hK;have hb3:=BK.o.r3 0 rfl;have b0:=hb3.1;have b1:=hb3.2.1;have b2:=hb3.2.2.1;have fb0:=hb3.2.2.2.1;have fb1:=hb3.2.2.2.2.1;have fb2:=hb3.2.2.2.2.2;clear hb3;go_simp;have BK:=Hd (((BK.o.bs 0 0 (.int .u8 b.k)).bs 0 1 (W64 b.s.lo)).bs 0 2 (W64 b.s.hi));clear b0 b1 b2 fb0 fb1 fb2;refine hK.o _ _ (SaT (by first|exact app12 (rkI (E:=[_]) BK.o HI.o) (rkQ (E:=[_]) BK.o)|fail)) ?_;clear hK K;intro hs;try simp only[Act.put]
   clear hs;refine WLd ?_ _;try simp only[Exit.then]
   go_wp2_with fail;go_meet;exact⟨_,rfl,BK.o⟩
 case rest =>
  obtain⟨D,rfl,hB⟩:=hcut;have BK:=Hd hB;clear hB HP;by_cases h13:op=13
  case' pos =>
   obtain⟨c,hc⟩:∃c,c=T.Kn.none:=⟨_,rfl⟩
   have HD:=Hd (show ∀w',Calls Tryz.prog 123 #[.int .u8 op,.bool nr,.agg #[.int .u8 x.k,W64 x.s.lo,W64 x.s.hi],.agg #[.int .u8 c.k,W64 c.s.lo,W64 c.s.hi]] w' (Ret w' (.tuple #[.agg #[.int .u8 k.k,W64 k.s.lo,W64 k.s.hi],.int .i64 0]))from fun w'=>by have e:=HKO.o;rw[if_pos h13,<-hc]at e;have h:=kdo_any op nr x c HOP.o HXR.o (by rw[hc];exact T.Kn.none_right) w';rw[e]at h;exact h);have e13:(op==13)=true:=by simpa using h13
   have i0:=(rkI (E:=[_]) BK.o HI.o).1;have hb3:=BK.o.r3 0 rfl;have b0:=hb3.1;have b1:=hb3.2.1;have b2:=hb3.2.2.1;have fb0:=hb3.2.2.2.1;have fb1:=hb3.2.2.2.2.1;have fb2:=hb3.2.2.2.2.2;clear hb3 h13;go_upto_region 4 with fail;refine wp_hid (Hd (((BK.o.bs 0 0 (.int .u8 0)).bs 0 1 (W64 0#64)).bs 0 2 (W64 0#64))) (fun wc BK=>?_);have BK:RowKit.Hid (Bank w0 wc (boxAcc D 124 [.int .u8 c.k,W64 c.s.lo,W64 c.s.hi]::boxAcc Q 87 [.bool true,.slice (some ⟨y.gr,0,none⟩) 11 y.cr,.slice (some ⟨y.gb,0,none⟩) 512 y.cb,.int .i64 y.p.least]::y.regA::y.byA::R)):=Hd (by rw[hc];exact BK.o);clear hc i0 b0 b1 b2 fb0 fb1 fb2 e13
  case' neg =>
   obtain⟨c,hc⟩:∃c,c=b:=⟨_,rfl⟩
   have HD:=Hd (show ∀w',Calls Tryz.prog 123 #[.int .u8 op,.bool nr,.agg #[.int .u8 x.k,W64 x.s.lo,W64 x.s.hi],.agg #[.int .u8 c.k,W64 c.s.lo,W64 c.s.hi]] w' (Ret w' (.tuple #[.agg #[.int .u8 k.k,W64 k.s.lo,W64 k.s.hi],.int .i64 0]))from fun w'=>by have e:=HKO.o;rw[if_neg h13,<-hc]at e;have h:=kdo_any op nr x c HOP.o HXR.o (by rw[hc];exact HBR.o) w';rw[e]at h;exact h);have e13:(op==13)=false:=by simpa using h13
   have i0:=(rkI (E:=[_]) BK.o HI.o).1;clear h13;go_upto_region 4 with fail;have BK:RowKit.Hid (Bank w0 wc (boxAcc D 124 [.int .u8 c.k,W64 c.s.lo,W64 c.s.hi]::boxAcc Q 87 [.bool true,.slice (some ⟨y.gr,0,none⟩) 11 y.cr,.slice (some ⟨y.gb,0,none⟩) 512 y.cb,.int .i64 y.p.least]::y.regA::y.byA::R)):=Hd (by rw[hc];exact BK.o);clear hc i0 e13
  all_goals
   clear HKO;go_cut [5,6] (fun s5 s6 wx=>∃A,s5=.pointer (some ⟨A,0,none⟩)/\s6=.int .i64 0/\Bank w0 wx (boxAcc A 124 [.int .u8 k.k,W64 k.s.lo,W64 k.s.hi]::boxAcc D 124 [.int .u8 c.k,W64 c.s.lo,W64 c.s.hi]::boxAcc Q 87 [.bool true,.slice (some ⟨y.gr,0,none⟩) 11 y.cr,.slice (some ⟨y.gb,0,none⟩) 512 y.cb,.int .i64 y.p.least]::y.regA::y.byA::R))
   case first =>
    have BK:=Hd BK.o.drew;refine WL.begin 99 (fun _=>True) (fun w'=>w'.cell? ⟨I,0,none⟩=some (.int .u8 op)/\w'.cell? ⟨I,1,none⟩=some (.bool nr)/\w'.cell? ⟨I,2,none⟩=some (.int .i64 (d:Int))/\w'.cell? ⟨Q,1,none⟩=some (.slice (some ⟨y.gr,0,none⟩) 11 y.cr)/\w'.cell? ⟨y.gr,d*3,none⟩=some (.int .u8 x.k)/\w'.cell? ⟨y.gr,d*3+1,none⟩=some (W64 x.s.lo)/\w'.cell? ⟨y.gr,d*3+2,none⟩=some (W64 x.s.hi)/\w'.cell? ⟨D,0,none⟩=some (.int .u8 c.k)/\w'.cell? ⟨D,1,none⟩=some (W64 c.s.lo)/\w'.cell? ⟨D,2,none⟩=some (W64 c.s.hi)) (by kernel_rfl) trivial (by first|exact d4 (rkI (E:=[_]) BK.o HI.o) (rkQ (E:=[_]) BK.o) (HX.o _ (rkR (E:=[_]) BK.o)) (BK.o.q3 0 rfl)|fail) (fun hs=>?_);generalize wc.drew=wz at *;refine WL.tk [(0,[]),(1,[]),(2,[]),(3,[]),(4,[]),(5,[]),(6,[]),(7,[]),(8,[]),(9,[]),(10,[]),(11,[]),(12,[])] hs ?_;clear hs
    iterate 13
     (first|refine WLp ?_ ?_ ?_|refine WLl ?_ ?_ ?_);rotate_left
     ·intro w hc;go_simp<;>rfl
     simp only[Act.put,sA,sZ,sS]
    refine TKs.mk ?_;intro hs;refine WL.o2 (i:=13) (j:=17) (by kernel_rfl) rfl rfl hs ?_ ?_<;>clear hs
    ·intro K hK
     go_simp;refine(HD.o _).mono ?_;rintro e wz ⟨rfl,hs⟩;have BK:=Hd (BK.o.call hs);clear hs;refine hK.o _ _ (SaT (by first|exact d4 (rkI (E:=[_]) BK.o HI.o) (rkQ (E:=[_]) BK.o) (HX.o _ (rkR (E:=[_]) BK.o)) (BK.o.q3 0 rfl)|exact d4 (rkI (E:=[_,_]) BK.o HI.o) (rkQ (E:=[_,_]) BK.o) (HX.o _ (rkR (E:=[_,_]) BK.o)) (BK.o.q3 1 rfl)|fail)) ?_;clear hK K;intro hs;try simp only[Act.put,sA,sZ,sS]
     refine WL.tk [(14,[]),(15,[]),(16,[])] hs ?_;clear hs
     iterate 3
      (first|refine WLp ?_ ?_ ?_|refine WLl ?_ ?_ ?_);rotate_left
      ·intro w hc;go_simp<;>rfl
      simp only[Act.put,sA,sZ,sS]
     refine TKs.mk ?_;intro hs;refine WLo 17 hs ?_;clear hs;intro K hK;go_simp;have BK:=Hd (BK.o.bx [.int .u8 0,W64 0#64,W64 0#64] 124);refine hK.o _ _ (SaT (by first|exact d4 (rkI (E:=[_,_]) BK.o HI.o) (rkQ (E:=[_,_]) BK.o) (HX.o _ (rkR (E:=[_,_]) BK.o)) (BK.o.q3 1 rfl)|fail)) ?_;generalize wz.heap.size=A at *;generalize(wz.alloc (.cells #[.int .u8 0,W64 0#64,W64 0#64] 124))=wz at *;clear hK K;intro hs;try simp only[Act.put,sA,sZ,sS]
     refine WLo 18 hs ?_;clear hs;intro K hK;have hb3:=BK.o.r3 0 rfl;have b0:=hb3.1;have b1:=hb3.2.1;have b2:=hb3.2.2.1;have fb0:=hb3.2.2.2.1;have fb1:=hb3.2.2.2.2.1;have fb2:=hb3.2.2.2.2.2;clear hb3;go_simp;have BK:=Hd (((BK.o.bs 0 0 (.int .u8 k.k)).bs 0 1 (W64 k.s.lo)).bs 0 2 (W64 k.s.hi));clear b0 b1 b2 fb0 fb1 fb2;refine hK.o _ _ (SaT (by first|exact d4 (rkI (E:=[_,_]) BK.o HI.o) (rkQ (E:=[_,_]) BK.o) (HX.o _ (rkR (E:=[_,_]) BK.o)) (BK.o.q3 1 rfl)|fail)) ?_;clear hK K;intro hs;try simp only[Act.put]
     refine WLo 19 hs ?_;clear hs;intro K hK;go_simp;refine hK.o _ _ (SaT (by first|exact d4 (rkI (E:=[_,_]) BK.o HI.o) (rkQ (E:=[_,_]) BK.o) (HX.o _ (rkR (E:=[_,_]) BK.o)) (BK.o.q3 1 rfl)|fail)) ?_;clear hK K;intro hs;try simp only[Act.put,sA,sZ,sS]
     clear hs;refine WLd ?_ _;try simp only[Exit.then]
     go_wp2_with fail;go_meet;exact⟨_,rfl,rfl,BK.o⟩
    ·intro K hK
     go_simp;have BK:=Hd (BK.o.bx [.int .u8 0,W64 0#64,W64 0#64] 124);refine hK.o _ _ (SaT (by first|exact d4 (rkI (E:=[_,_]) BK.o HI.o) (rkQ (E:=[_,_]) BK.o) (HX.o _ (rkR (E:=[_,_]) BK.o)) (BK.o.q3 1 rfl)|fail)) ?_;generalize wz.heap.size=A at *;generalize(wz.alloc (.cells #[.int .u8 0,W64 0#64,W64 0#64] 124))=wz at *;clear hK K;intro hs;try simp only[Act.put,sA,sZ,sS]
     refine WLo 13 hs ?_;clear hs;intro K hK;go_simp;refine(HD.o _).mono ?_;rintro e wz ⟨rfl,hs⟩;have BK:=Hd (BK.o.call hs);clear hs;refine hK.o _ _ (SaT (by first|exact d4 (rkI (E:=[_]) BK.o HI.o) (rkQ (E:=[_]) BK.o) (HX.o _ (rkR (E:=[_]) BK.o)) (BK.o.q3 0 rfl)|exact d4 (rkI (E:=[_,_]) BK.o HI.o) (rkQ (E:=[_,_]) BK.o) (HX.o _ (rkR (E:=[_,_]) BK.o)) (BK.o.q3 1 rfl)|fail)) ?_;clear hK K;intro hs;try simp only[Act.put,sA,sZ,sS]
     refine WL.tk [(14,[]),(15,[]),(16,[])] hs ?_;clear hs
     iterate 3
      (first|refine WLp ?_ ?_ ?_|refine WLl ?_ ?_ ?_);rotate_left
      ·intro w hc;go_simp<;>rfl
      simp only[Act.put,sA,sZ,sS]
     refine TKs.mk ?_;intro hs;refine WLo 18 hs ?_;clear hs;intro K hK;have hb3:=BK.o.r3 0 rfl;have b0:=hb3.1;have b1:=hb3.2.1;have b2:=hb3.2.2.1;have fb0:=hb3.2.2.2.1;have fb1:=hb3.2.2.2.2.1;have fb2:=hb3.2.2.2.2.2;clear hb3;go_simp;have BK:=Hd (((BK.o.bs 0 0 (.int .u8 k.k)).bs 0 1 (W64 k.s.lo)).bs 0 2 (W64 k.s.hi));clear b0 b1 b2 fb0 fb1 fb2;refine hK.o _ _ (SaT (by first|exact d4 (rkI (E:=[_,_]) BK.o HI.o) (rkQ (E:=[_,_]) BK.o) (HX.o _ (rkR (E:=[_,_]) BK.o)) (BK.o.q3 1 rfl)|fail)) ?_;clear hK K;intro hs;try simp only[Act.put]
     refine WLo 19 hs ?_;clear hs;intro K hK;go_simp;refine hK.o _ _ (SaT (by first|exact d4 (rkI (E:=[_,_]) BK.o HI.o) (rkQ (E:=[_,_]) BK.o) (HX.o _ (rkR (E:=[_,_]) BK.o)) (BK.o.q3 1 rfl)|fail)) ?_;clear hK K;intro hs;try simp only[Act.put,sA,sZ,sS]
     clear hs;refine WLd ?_ _;try simp only[Exit.then]
     go_wp2_with fail;go_meet;exact⟨_,rfl,rfl,BK.o⟩
   case rest =>
    obtain⟨A,rfl,rfl,hB⟩:=hcut;have BK:=Hd hB.drew;clear hB HD;go_upto_region 5 with fail;refine WL.begin 8 (fun w'=>w'.cell? ⟨I,2,none⟩=some (.int .i64 (d:Int))/\w'.cell? ⟨Q,1,none⟩=some (.slice (some ⟨y.gr,0,none⟩) 11 y.cr)/\w'.cell? ⟨A,0,none⟩=some (.int .u8 k.k)/\w'.cell? ⟨A,1,none⟩=some (W64 k.s.lo)/\w'.cell? ⟨A,2,none⟩=some (W64 k.s.hi)) (fun _=>True) (by kernel_rfl) ⟨(rkI (E:=[_,_]) BK.o HI.o).2.2.1,(rkQ (E:=[_,_]) BK.o).2.1,BK.o.q3 0 rfl⟩ trivial (fun hs=>?_);generalize wc.drew=wz at *;refine WL.tk [(0,[]),(1,[]),(2,[]),(3,[3]),(4,[]),(5,[5]),(6,[6]),(7,[])] hs ?_;clear hs
    iterate 8
     (first|refine WLp ?_ ?_ ?_|refine WLl ?_ ?_ ?_);rotate_left
     ·intro w hc;go_simp<;>rfl
     simp only[Act.put,sA,sZ,sS]
    refine TKs.mk ?_;intro hs;refine WLo 8 hs ?_;clear hs;intro K hK;have he:=HX.o _ (rkR (E:=[_,_]) BK.o);have e0:=he.1;have e1:=he.2.1;have e2:=he.2.2;clear he;have f0:=BK.o.rfree 3 rfl (d*3);have f1:=BK.o.rfree 3 rfl (d*3+1);have f2:=BK.o.rfree 3 rfl (d*3+2);go_simp;have BK5:=Hd (BK.o.putKn 3 rfl d (by rw[HL.o];exact d11) k);clear e0 e1 e2 f0 f1 f2;refine hK.o _ _ SaF ?_;clear hK K;intro hs;try simp only[Act.put]
    clear hs;refine WLd ?_ _;try simp only[Exit.then]
    go_wp2_with fail;refine(tySure_ok _).mono ?_;rintro e w6 ⟨rfl,rfl⟩;go_wp2;go_ret;exact⟨{ y with p:=y.p.put (d:Int) k },rfl,rfl,BK5.o.drop.drop⟩
end Go.Proofs.YtfeipbgnjainlaaGreatDoor.K
