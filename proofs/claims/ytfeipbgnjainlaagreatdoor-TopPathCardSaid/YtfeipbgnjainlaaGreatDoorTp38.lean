/- TYp -/
import Derived.Test.YtfeipbgnjainlaaGreatDoorTp10
import Derived.Test.YtfeipbgnjainlaaGreatDoorTp2
import Derived.Test.YtfeipbgnjainlaaGreatDoorTp4
import Derived.Test.YtfeipbgnjainlaaGreatDoorTp36
import Derived.Test.YtfeipbgnjainlaaGreatDoorTp12
set_option linter.unusedVariables false
set_option linter.unusedSimpArgs false
set_option maxRecDepth 100000
set_option maxHeartbeats 8000000
namespace Go.Proofs.YtfeipbgnjainlaaGreatDoor.K
open Go Go.RowKit Go.Maps Go.Sort
theorem p1f{a b c d e f g h i j k l m n o:Prop}(x:a/\b/\c/\d/\e/\f/\g/\h)(y:i/\j/\k/\l)(z:m/\n/\o):a/\b/\c/\d/\e/\f/\g/\h/\i/\j/\k/\l/\m/\n/\o:=⟨x.1,x.2.1,x.2.2.1,x.2.2.2.1,x.2.2.2.2.1,x.2.2.2.2.2.1,x.2.2.2.2.2.2.1,x.2.2.2.2.2.2.2,y.1,y.2.1,y.2.2.1,y.2.2.2,z⟩
theorem app7{a b c d e f g:Prop}(x:a/\b/\c/\d)(y:e/\f/\g):a/\b/\c/\d/\e/\f/\g:=⟨x.1,x.2.1,x.2.2.1,x.2.2.2,y⟩
theorem rkI'{w0 w:World}{I:Nat}{L:List Acc}(h:Bank w0 w L){i:T.Ins}(hI:∀k v,(insL i)[k]?=some v->w0.cell? ⟨I,k,none⟩=some v):w.cell? ⟨I,5,none⟩=some (.int .i64 i.off)/\w.cell? ⟨I,7,none⟩=some (.int .i64 i.size):=⟨h.since.keep (hI 5 _ rfl),h.since.keep (hI 7 _ rfl)⟩
theorem prd_of0'{w0 w:World}{L:List Acc}(h:Bank w0 w L){z:PV}(h2:z.byA∈L):512<=z.cb:=by
 obtain⟨q,hq⟩:=List.mem_iff_getElem?.1 h2;exact h.rcap q hq
theorem putErr_0{i:T.Ins}{p:T.Pl}(h:T.putErr i p=0):(p.reg i.dst).k=3/\¬(T.second i p).k=0/\(T.asN p (T.second i p)).1=0/\T.partErr (T.frameAt (p.reg i.dst) i) i.size=0:=by
 unfold T.putErr at h;split at h
 ·exact absurd h (by decide)
 rename_i h0;split at h
 ·exact absurd h (by decide)
 split at h
 ·exact absurd h (by decide)
 rename_i h3;split at h
 ·rename_i h4;exact absurd h h4
 rename_i h4;exact⟨Classical.byContradiction h3,fun e=>h0 (.inr e),Classical.byContradiction h4,h⟩
theorem Bank.bytesT{w0 w w':World}{Q:Nat}{y:PV}{E R:List Acc}{cs:List Value}(h:Bank w0 w (E++(boxAcc Q 87 cs::y.regA::y.byA::R))){g:Nat}{t:TypeId}{bs:List Bool}(hb:Bank w w' [boxAcc g t (bs.map Value.bool)])(hl:bs.length=512):Bank w0 w' (E++(boxAcc Q 87 cs::y.regA::PV.byA ⟨{ y.p with bytes:=bs },y.gr,y.cr,g,512,t⟩::R)):=by
 rw[boxAcc_rw (m:=512) (by rw[List.length_map,hl])]at hb;have h0:Bank w0 w' (rwA g 512 512 t 1 (bs.map Value.bool)::(E++(boxAcc Q 87 cs::y.regA::y.byA::R))):=bank_join h hb;have h1:=h0.sub (.cons_cons _ (List.Sublist.append (.refl E) (.cons_cons _ (.cons_cons _ (.cons _ (.refl R))))));refine h1.permB ?_;have:=(List.perm_middle (a:=rwA g 512 512 t 1 (bs.map Value.bool)) (l₁:=E ++ [boxAcc Q 87 cs,y.regA]) (l₂:=R)).symm;simp only[List.append_assoc,List.cons_append,List.nil_append]at this;exact this
theorem tyPut1_ok(I Q:Nat)(y:PV)(i:T.Ins){w0 w:World}{R:List Acc}(hB:Bank w0 w (boxAcc Q 87 [.bool true,.slice (some ⟨y.gr,0,none⟩) 11 y.cr,.slice (some ⟨y.gb,0,none⟩) 512 y.cb,.int .i64 y.p.least]::y.regA::y.byA::R))(hI:∀k v,(insL i)[k]?=some v->w0.cell? ⟨I,k,none⟩=some v)(hw:y.p.Wf)(hr:i.right=true)(hk:T.putErr i y.p=0):
  Calls Tryz.prog 179 #[.pointer (some ⟨Q,0,none⟩),.pointer (some ⟨I,0,none⟩)] w (TurnP w0 Q y R (y.p.wrote i)):=by
 have hf:=T.right_facts hr;obtain⟨k1,k2,k3,k4⟩:=putErr_0 hk;obtain⟨op,nr,dst,src,u,off,imm,size⟩:=i;obtain⟨⟨d0,d1⟩,hs,_⟩:=hf;simp only at d0 d1 hs k1 k4;obtain⟨d,rfl⟩:=Int.eq_ofNat_of_zero_le d0;have d11:d<11:=by omega
 have z0:(0:Int)<=(d:Int):=by omega
 have z1:(d:Int)<(11:Int):=by omega
 obtain⟨q,hq⟩:∃q,T.second ⟨op,nr,(d:Int),src,u,off,imm,size⟩ y.p=q:=⟨_,rfl⟩
 obtain⟨x,hx⟩:∃x,y.p.reg (d:Int)=x:=⟨_,rfl⟩
 rw[hq]at k2 k3;rw[hx]at k1 k4;obtain⟨a,ha⟩:∃a,(x.s.lo+T.wide off).toInt=a:=⟨_,rfl⟩
 obtain⟨sp,hsp⟩:∃sp,(T.asN y.p q).2=sp:=⟨_,rfl⟩
 obtain⟨bs,hbs⟩:∃bs,T.setAll y.p.bytes (512+a).toNat size.toNat=bs:=⟨_,rfl⟩
 have HW:=Hd (show y.p.wrote ⟨op,nr,(d:Int),src,u,off,imm,size⟩={ y.p with bytes:=bs }by
  unfold T.Pl.wrote T.frameAt
  simp only[hx,ha,hbs])
 have HBL:=Hd (show bs.length=512 by rw[<-hbs];unfold T.setAll;rw[List.length_mapIdx];exact hw.bl);have HI:=Hd hI;have HX:=Hd (fun w' (h:RdC w' y.gr (knsL y.p.regs))=>hx▸knsReg h hw.rl d d11);have HP:=Hd (show ∀w',RdC w' y.gr (knsL y.p.regs)->Calls Tryz.prog 175 #[.agg #[.int .u8 op,.bool nr,.int .i64 (d:Int),.int .i64 src,.bool u,.int .i64 off,.int .i64 imm,.int .i64 size],.agg #[.bool true,.slice (some ⟨y.gr,0,none⟩) 11 y.cr,.slice (some ⟨y.gb,0,none⟩) 512 y.cb,.int .i64 y.p.least]] w' (Ret w' (.agg #[.int .u8 q.k,W64 q.s.lo,W64 q.s.hi]))from fun w' h=>by rw[<-hq];exact tyPart_any y ⟨op,nr,(d:Int),src,u,off,imm,size⟩ w' h hw.rl hs);have HN:=Hd (show ∀w',Calls Tryz.prog 140 #[.agg #[.int .u8 q.k,W64 q.s.lo,W64 q.s.hi],.agg #[.bool true,.slice (some ⟨y.gr,0,none⟩) 11 y.cr,.slice (some ⟨y.gb,0,none⟩) 512 y.cb,.int .i64 y.p.least]] w' (Ret w' (.tuple #[.agg #[W64 sp.lo,W64 sp.hi],.nilIface]))from fun w'=>by rw[<-hsp];exact tyNumber_ok y q w' hw.l0 hw.ll k3);have HF:=Hd (show ∀w',Calls Tryz.prog 178 #[.agg #[.int .u8 x.k,W64 x.s.lo,W64 x.s.hi],.int .i64 off] w' (Ret w' (.int .i64 a))from ha▸fun w'=>tyFar_any x off w')
 have HS:=Hd (show ∀w',RdC w' y.gb (y.p.bytes.map Value.bool)->512<=y.cb->Calls Tryz.prog 121 #[.slice (some ⟨y.gb,0,none⟩) 512 y.cb,.int .i64 a,.int .i64 size] w' (fun e w''=>∃v,e=.returned (.tuple #[v,.int .i64 0])/\OwnBo w' w'' v bs)from fun w' hb hc=>by
  refine(stkSet_any y.gb 0 y.cb a size y.p.bytes w' (by rw[<-ha];have:=BitVec.le_toInt (x.s.lo+T.wide off);omega) (by rw[<-ha];have:=BitVec.toInt_lt (x:=x.s.lo+T.wide off);omega) hw.bl hc (boRd_of hb)).mono ?_;rintro e w'' (⟨_,v,he,ho⟩|⟨hn,_⟩)
  ·exact⟨v,he,hbs▸ho⟩
  ·exact absurd (by rw[<-ha];exact k4) hn)
 have HL:=Hd hw.rl;have BK:=Hd hB;rw[HW.o];have e0:x.k=3:=k1;have e1:(q.k==0)=false:=by simpa using k2
 clear hB hI hw hr hk hs hq hx ha hsp hbs k1 k2 k3 k4 d0 d1 HW;obtain⟨xk,xs⟩:=x;simp only at e0;subst e0;go_enter Tryz.func179,Tryz.ntmps179;go_upto_region 1 with fail;go_cut [4,5] (fun s4 s5 wx=>∃A B,s4=.pointer (some ⟨A,0,none⟩)/\s5=.pointer (some ⟨B,0,none⟩)/\Bank w0 wx (boxAcc A 124 [.int .u8 3,W64 xs.lo,W64 xs.hi]::boxAcc B 124 [.int .u8 q.k,W64 q.s.lo,W64 q.s.hi]::boxAcc Q 87 [.bool true,.slice (some ⟨y.gr,0,none⟩) 11 y.cr,.slice (some ⟨y.gb,0,none⟩) 512 y.cb,.int .i64 y.p.least]::y.regA::y.byA::R))
 case first =>
  have BK:=Hd BK.o.drew;refine WL.begin 99 (fun _=>True) (fun w'=>w'.cell? ⟨I,0,none⟩=some (.int .u8 op)/\w'.cell? ⟨I,1,none⟩=some (.bool nr)/\w'.cell? ⟨I,2,none⟩=some (.int .i64 (d:Int))/\w'.cell? ⟨I,3,none⟩=some (.int .i64 src)/\w'.cell? ⟨I,4,none⟩=some (.bool u)/\w'.cell? ⟨I,5,none⟩=some (.int .i64 off)/\w'.cell? ⟨I,6,none⟩=some (.int .i64 imm)/\w'.cell? ⟨I,7,none⟩=some (.int .i64 size)/\w'.cell? ⟨Q,0,none⟩=some (.bool true)/\w'.cell? ⟨Q,1,none⟩=some (.slice (some ⟨y.gr,0,none⟩) 11 y.cr)/\w'.cell? ⟨Q,2,none⟩=some (.slice (some ⟨y.gb,0,none⟩) 512 y.cb)/\w'.cell? ⟨Q,3,none⟩=some (.int .i64 y.p.least)/\w'.cell? ⟨y.gr,d*3,none⟩=some (.int .u8 3)/\w'.cell? ⟨y.gr,d*3+1,none⟩=some (W64 xs.lo)/\w'.cell? ⟨y.gr,d*3+2,none⟩=some (W64 xs.hi)) (by kernel_rfl) trivial (by first|exact p1f (rkI (E:=[]) BK.o HI.o) (rkQ (E:=[]) BK.o) (HX.o _ (rkR (E:=[]) BK.o))|fail) (fun hs=>?_);generalize w.drew=wz at *
  repeat' first
   | (with_reducible refine StepL.at 12 ?_
      intro K hK;go_simp;refine(HP.o _ (by first|exact rkR (E:=[]) BK.o|exact rkR (E:=[_]) BK.o|exact rkR (E:=[_,_]) BK.o|fail)).mono ?_;rintro e wz ⟨rfl,hs⟩;have BK:=Hd (BK.o.call hs);clear hs;refine hK.o _ _ (SaT (by first|exact p1f (rkI (E:=[]) BK.o HI.o) (rkQ (E:=[]) BK.o) (HX.o _ (rkR (E:=[]) BK.o))|exact p1f (rkI (E:=[_]) BK.o HI.o) (rkQ (E:=[_]) BK.o) (HX.o _ (rkR (E:=[_]) BK.o))|exact p1f (rkI (E:=[_,_]) BK.o HI.o) (rkQ (E:=[_,_]) BK.o) (HX.o _ (rkR (E:=[_,_]) BK.o))|fail)) ?_
      clear hK K;intro hs;try simp only[Act.put,sA,sZ,sS])
   | (with_reducible refine StepL.at 13 ?_
      intro K hK;go_simp;have BK:=Hd (BK.o.bx [.int .u8 0,W64 0#64,W64 0#64] 124);refine hK.o _ _ (SaT (by first|exact p1f (rkI (E:=[_]) BK.o HI.o) (rkQ (E:=[_]) BK.o) (HX.o _ (rkR (E:=[_]) BK.o))|exact p1f (rkI (E:=[_,_]) BK.o HI.o) (rkQ (E:=[_,_]) BK.o) (HX.o _ (rkR (E:=[_,_]) BK.o))|fail)) ?_;generalize wz.heap.size=A at *;generalize(wz.alloc (.cells #[.int .u8 0,W64 0#64,W64 0#64] 124))=wz at *
      clear hK K;intro hs;try simp only[Act.put,sA,sZ,sS])
   | (with_reducible refine StepL.at 14 ?_
      intro K hK;go_simp;have BK:=Hd (BK.o.bx [.int .u8 0,W64 0#64,W64 0#64] 124);refine hK.o _ _ (SaT (by first|exact p1f (rkI (E:=[_]) BK.o HI.o) (rkQ (E:=[_]) BK.o) (HX.o _ (rkR (E:=[_]) BK.o))|exact p1f (rkI (E:=[_,_]) BK.o HI.o) (rkQ (E:=[_,_]) BK.o) (HX.o _ (rkR (E:=[_,_]) BK.o))|fail)) ?_;generalize wz.heap.size=B at *;generalize(wz.alloc (.cells #[.int .u8 0,W64 0#64,W64 0#64] 124))=wz at *
      clear hK K;intro hs;try simp only[Act.put,sA,sZ,sS])
   | (with_reducible refine StepL.at 15 ?_
      intro K hK;have BK:RowKit.Hid (Bank w0 wz (boxAcc A 124 [.int .u8 0,W64 0#64,W64 0#64]::boxAcc B 124 [.int .u8 0,W64 0#64,W64 0#64]::boxAcc Q 87 [.bool true,.slice (some ⟨y.gr,0,none⟩) 11 y.cr,.slice (some ⟨y.gb,0,none⟩) 512 y.cb,.int .i64 y.p.least]::y.regA::y.byA::R)):=by first|exact BK|exact Hd (BK.o.permB (List.Perm.swap _ _ _))
      have hb3:=BK.o.r3 0 rfl;have b0:=hb3.1;have b1:=hb3.2.1;have b2:=hb3.2.2.1;have fb0:=hb3.2.2.2.1;have fb1:=hb3.2.2.2.2.1;have fb2:=hb3.2.2.2.2.2;clear hb3;go_simp;have BK:=Hd (((BK.o.bs 0 0 (.int .u8 3)).bs 0 1 (W64 xs.lo)).bs 0 2 (W64 xs.hi));clear b0 b1 b2 fb0 fb1 fb2;refine hK.o _ _ (SaT (by first|exact p1f (rkI (E:=[_,_]) BK.o HI.o) (rkQ (E:=[_,_]) BK.o) (HX.o _ (rkR (E:=[_,_]) BK.o))|fail)) ?_
      clear hK K;intro hs;try simp only[Act.put])
   | (with_reducible refine StepL.at 16 ?_
      intro K hK;have hb3:=BK.o.r3 1 rfl;have b0:=hb3.1;have b1:=hb3.2.1;have b2:=hb3.2.2.1;have fb0:=hb3.2.2.2.1;have fb1:=hb3.2.2.2.2.1;have fb2:=hb3.2.2.2.2.2;clear hb3;go_simp;have BK:=Hd (((BK.o.bs 1 0 (.int .u8 q.k)).bs 1 1 (W64 q.s.lo)).bs 1 2 (W64 q.s.hi));clear b0 b1 b2 fb0 fb1 fb2;refine hK.o _ _ (SaT (by first|exact p1f (rkI (E:=[_,_]) BK.o HI.o) (rkQ (E:=[_,_]) BK.o) (HX.o _ (rkR (E:=[_,_]) BK.o))|fail)) ?_
      clear hK K;intro hs;try simp only[Act.put])
   | (refine WL.tp (i:=0) (v:=?_) rfl (by decide +kernel) (fun _ _ _ h=>h) hs (Or.inl ⟨by kernel_rfl,?_⟩) ?_;rotate_left;· intro w hc;go_simp<;>rfl
      clear hs;intro hs;simp only[Act.put,sA,sZ,sS])
   | (refine WL.tp (i:=1) (v:=?_) rfl (by decide +kernel) (fun _ _ _ h=>h) hs (Or.inl ⟨by kernel_rfl,?_⟩) ?_;rotate_left;· intro w hc;go_simp<;>rfl
      clear hs;intro hs;simp only[Act.put,sA,sZ,sS])
   | (refine WL.tp (i:=2) (v:=?_) rfl (by decide +kernel) (fun _ _ _ h=>h) hs (Or.inl ⟨by kernel_rfl,?_⟩) ?_;rotate_left;· intro w hc;go_simp<;>rfl
      clear hs;intro hs;simp only[Act.put,sA,sZ,sS])
   | (refine WL.tp (i:=3) (v:=?_) rfl (by decide +kernel) (fun _ _ _ h=>h) hs (Or.inl ⟨by kernel_rfl,?_⟩) ?_;rotate_left;· intro w hc;go_simp<;>rfl
      clear hs;intro hs;simp only[Act.put,sA,sZ,sS])
   | (refine WL.tp (i:=4) (v:=?_) rfl (by decide +kernel) (fun _ _ _ h=>h) hs (Or.inl ⟨by kernel_rfl,?_⟩) ?_;rotate_left;· intro w hc;go_simp<;>rfl
      clear hs;intro hs;simp only[Act.put,sA,sZ,sS])
   | (refine WL.tp (i:=5) (v:=?_) rfl (by decide +kernel) (fun _ _ _ h=>h) hs (Or.inl ⟨by kernel_rfl,?_⟩) ?_;rotate_left;· intro w hc;go_simp<;>rfl
      clear hs;intro hs;simp only[Act.put,sA,sZ,sS])
   | (refine WL.tp (i:=6) (v:=?_) rfl (by decide +kernel) (fun _ _ _ h=>h) hs (Or.inl ⟨by kernel_rfl,?_⟩) ?_;rotate_left;· intro w hc;go_simp<;>rfl
      clear hs;intro hs;simp only[Act.put,sA,sZ,sS])
   | (refine WL.tp (i:=7) (v:=?_) rfl (by decide +kernel) (fun _ _ _ h=>h) hs (Or.inl ⟨by kernel_rfl,?_⟩) ?_;rotate_left;· intro w hc;go_simp<;>rfl
      clear hs;intro hs;simp only[Act.put,sA,sZ,sS])
   | (refine WL.tp (i:=8) (v:=?_) rfl (by decide +kernel) (fun _ _ _ h=>h) hs (Or.inl ⟨by kernel_rfl,?_⟩) ?_;rotate_left;· intro w hc;go_simp<;>rfl
      clear hs;intro hs;simp only[Act.put,sA,sZ,sS])
   | (refine WL.tp (i:=9) (v:=?_) rfl (by decide +kernel) (fun _ _ _ h=>h) hs (Or.inl ⟨by kernel_rfl,?_⟩) ?_;rotate_left;· intro w hc;go_simp<;>rfl
      clear hs;intro hs;simp only[Act.put,sA,sZ,sS])
   | (refine WL.tp (i:=10) (v:=?_) rfl (by decide +kernel) (fun _ _ _ h=>h) hs (Or.inl ⟨by kernel_rfl,?_⟩) ?_;rotate_left;· intro w hc;go_simp<;>rfl
      clear hs;intro hs;simp only[Act.put,sA,sZ,sS])
   | (refine WL.tp (i:=11) (v:=?_) rfl (by decide +kernel) (fun _ _ _ h=>h) hs (Or.inl ⟨by kernel_rfl,?_⟩) ?_;rotate_left;· intro w hc;go_simp<;>rfl
      clear hs;intro hs;simp only[Act.put,sA,sZ,sS])
   | (refine WL.s1 (i:=12) (by decide +kernel) rfl hs ?_<;>clear hs)
   | (refine WL.o2 (i:=12) (j:=13) (by decide +kernel) rfl rfl hs ?_ ?_<;>clear hs)
   | (refine WL.o3 (i:=12) (j:=13) (k:=14) (by decide +kernel) rfl rfl rfl hs ?_ ?_ ?_<;>clear hs)
   | (refine WL.o2 (i:=12) (j:=14) (by decide +kernel) rfl rfl hs ?_ ?_<;>clear hs)
   | (refine WL.s1 (i:=13) (by decide +kernel) rfl hs ?_<;>clear hs)
   | (refine WL.o2 (i:=13) (j:=14) (by decide +kernel) rfl rfl hs ?_ ?_<;>clear hs)
   | (refine WL.s1 (i:=14) (by decide +kernel) rfl hs ?_<;>clear hs)
   | (refine WL.s1 (i:=15) (by decide +kernel) rfl hs ?_<;>clear hs)
   | (refine WL.s1 (i:=16) (by decide +kernel) rfl hs ?_<;>clear hs)
   | (clear hs;refine WL.done (by decide +kernel) ?_ _;try simp only[Exit.then]
      go_wp2_with fail;go_meet
      exact⟨_,_,rfl,rfl,BK.o⟩)
 case rest =>
  obtain⟨A,B,rfl,rfl,hB⟩:=hcut;have BK:=Hd hB;clear hB HP HX;have a0:=(BK.o.q3 0 rfl).1;have b0:=(BK.o.q3 1 rfl).1;go_upto_region 8 with fail;clear a0 b0;go_cut [7] (fun s7 wx=>s7=.nilIface/\∃G,Bank w0 wx (boxAcc G 122 [W64 sp.lo,W64 sp.hi]::boxAcc A 124 [.int .u8 3,W64 xs.lo,W64 xs.hi]::boxAcc B 124 [.int .u8 q.k,W64 q.s.lo,W64 q.s.hi]::boxAcc Q 87 [.bool true,.slice (some ⟨y.gr,0,none⟩) 11 y.cr,.slice (some ⟨y.gb,0,none⟩) 512 y.cb,.int .i64 y.p.least]::y.regA::y.byA::R))
  case first =>
   have BK:=Hd BK.o.drew;refine WL.begin 99 (fun _=>True) (fun w'=>w'.cell? ⟨Q,0,none⟩=some (.bool true)/\w'.cell? ⟨Q,1,none⟩=some (.slice (some ⟨y.gr,0,none⟩) 11 y.cr)/\w'.cell? ⟨Q,2,none⟩=some (.slice (some ⟨y.gb,0,none⟩) 512 y.cb)/\w'.cell? ⟨Q,3,none⟩=some (.int .i64 y.p.least)/\w'.cell? ⟨B,0,none⟩=some (.int .u8 q.k)/\w'.cell? ⟨B,1,none⟩=some (W64 q.s.lo)/\w'.cell? ⟨B,2,none⟩=some (W64 q.s.hi)) (by kernel_rfl) trivial (by first|exact app7 (rkQ (E:=[_,_]) BK.o) (BK.o.q3 1 rfl)|fail) (fun hs=>?_);generalize wc.drew=wz at *
   repeat' first
    | (with_reducible refine StepL.at 4 ?_
       intro K hK;go_simp;refine(HN.o _).mono ?_;rintro e wz ⟨rfl,hs⟩;have BK:=Hd (BK.o.call hs);clear hs;refine hK.o _ _ (SaT (by first|exact app7 (rkQ (E:=[_,_]) BK.o) (BK.o.q3 1 rfl)|exact app7 (rkQ (E:=[_,_,_]) BK.o) (BK.o.q3 2 rfl)|fail)) ?_
       clear hK K;intro hs;try simp only[Act.put,sA,sZ,sS])
    | (with_reducible refine StepL.at 8 ?_
       intro K hK;go_simp;have BK:=Hd (BK.o.bx [W64 0#64,W64 0#64] 122);refine hK.o _ _ (SaT (by first|exact app7 (rkQ (E:=[_,_,_]) BK.o) (BK.o.q3 2 rfl)|fail)) ?_;generalize wz.heap.size=G at *;generalize(wz.alloc (.cells #[W64 0#64,W64 0#64] 122))=wz at *
       clear hK K;intro hs;try simp only[Act.put,sA,sZ,sS])
    | (with_reducible refine StepL.at 9 ?_
       intro K hK;have hb3:=BK.o.r2 0 rfl;have b0:=hb3.1;have b1:=hb3.2.1;have fb0:=hb3.2.2.1;have fb1:=hb3.2.2.2;clear hb3;go_simp;have BK:=Hd ((BK.o.bs 0 0 (W64 sp.lo)).bs 0 1 (W64 sp.hi));clear b0 b1 fb0 fb1;refine hK.o _ _ (SaT (by first|exact app7 (rkQ (E:=[_,_,_]) BK.o) (BK.o.q3 2 rfl)|fail)) ?_
       clear hK K;intro hs;try simp only[Act.put])
    | (with_reducible refine StepL.at 10 ?_
       intro K hK;go_simp;refine hK.o _ _ (SaT (by first|exact app7 (rkQ (E:=[_,_,_]) BK.o) (BK.o.q3 2 rfl)|fail)) ?_
       clear hK K;intro hs;try simp only[Act.put,sA,sZ,sS])
    | (refine WL.tp (i:=0) (v:=?_) rfl (by decide +kernel) (fun _ _ _ h=>h) hs (Or.inl ⟨by kernel_rfl,?_⟩) ?_;rotate_left;· intro w hc;go_simp<;>rfl
       clear hs;intro hs;simp only[Act.put,sA,sZ,sS])
    | (refine WL.tp (i:=1) (v:=?_) rfl (by decide +kernel) (fun _ _ _ h=>h) hs (Or.inl ⟨by kernel_rfl,?_⟩) ?_;rotate_left;· intro w hc;go_simp<;>rfl
       clear hs;intro hs;simp only[Act.put,sA,sZ,sS])
    | (refine WL.tp (i:=2) (v:=?_) rfl (by decide +kernel) (fun _ _ _ h=>h) hs (Or.inl ⟨by kernel_rfl,?_⟩) ?_;rotate_left;· intro w hc;go_simp<;>rfl
       clear hs;intro hs;simp only[Act.put,sA,sZ,sS])
    | (refine WL.tp (i:=3) (v:=?_) rfl (by decide +kernel) (fun _ _ _ h=>h) hs (Or.inl ⟨by kernel_rfl,?_⟩) ?_;rotate_left;· intro w hc;go_simp<;>rfl
       clear hs;intro hs;simp only[Act.put,sA,sZ,sS])
    | (refine WL.tp (i:=5) (v:=?_) rfl (by decide +kernel) (fun _ _ _ h=>h) hs (Or.inl ⟨by kernel_rfl,?_⟩) ?_;rotate_left;· intro w hc;go_simp<;>rfl
       clear hs;intro hs;simp only[Act.put,sA,sZ,sS])
    | (refine WL.tp (i:=6) (v:=?_) rfl (by decide +kernel) (fun _ _ _ h=>h) hs (Or.inl ⟨by kernel_rfl,?_⟩) ?_;rotate_left;· intro w hc;go_simp<;>rfl
       clear hs;intro hs;simp only[Act.put,sA,sZ,sS])
    | (refine WL.tp (i:=7) (v:=?_) rfl (by decide +kernel) (fun _ _ _ h=>h) hs (Or.inl ⟨by kernel_rfl,?_⟩) ?_;rotate_left;· intro w hc;go_simp<;>rfl
       clear hs;intro hs;simp only[Act.put,sA,sZ,sS])
    | (refine WL.s1 (i:=4) (by decide +kernel) rfl hs ?_<;>clear hs)
    | (refine WL.o2 (i:=4) (j:=8) (by decide +kernel) rfl rfl hs ?_ ?_<;>clear hs)
    | (refine WL.s1 (i:=8) (by decide +kernel) rfl hs ?_<;>clear hs)
    | (refine WL.s1 (i:=9) (by decide +kernel) rfl hs ?_<;>clear hs)
    | (refine WL.s1 (i:=10) (by decide +kernel) rfl hs ?_<;>clear hs)
    | (clear hs;refine WL.done (by decide +kernel) ?_ _;try simp only[Exit.then]
       go_wp2_with fail;go_meet
       exact⟨rfl,_,BK.o⟩)
  case rest =>
   obtain⟨rfl,G,hB⟩:=hcut;have BK:=Hd hB;clear hB HN;go_upto_region 11 with fail;have BK:=Hd BK.o.drew;refine WL.begin 99 (fun _=>True) (fun w'=>w'.cell? ⟨I,5,none⟩=some (.int .i64 off)/\w'.cell? ⟨I,7,none⟩=some (.int .i64 size)/\w'.cell? ⟨Q,2,none⟩=some (.slice (some ⟨y.gb,0,none⟩) 512 y.cb)/\w'.cell? ⟨A,0,none⟩=some (.int .u8 3)/\w'.cell? ⟨A,1,none⟩=some (W64 xs.lo)/\w'.cell? ⟨A,2,none⟩=some (W64 xs.hi)) (by kernel_rfl) trivial ⟨(rkI (E:=[_,_,_]) BK.o HI.o).2.2.2.2.2.1,(rkI (E:=[_,_,_]) BK.o HI.o).2.2.2.2.2.2.2,(rkQ (E:=[_,_,_]) BK.o).2.2.1,BK.o.q3 1 rfl⟩ (fun hs=>?_);generalize wc.drew=wz at *;refine WL.tk [(0,[]),(1,[]),(2,[]),(3,[]),(4,[]),(5,[]),(6,[]),(8,[]),(9,[])] hs ?_;clear hs
   iterate 9
    (first|refine WLp ?_ ?_ ?_|refine WLl ?_ ?_ ?_);rotate_left
    ·intro w hc;go_simp<;>rfl
    simp only[Act.put,sA,sZ,sS]
   refine TKs.mk ?_;intro hs;refine WLo 7 hs ?_;clear hs;intro K hK;go_simp;refine(HF.o _).mono ?_;rintro e wz ⟨rfl,hs⟩;have BK:=Hd (BK.o.call hs);clear hs;refine hK.o _ _ (SaT ⟨(rkI (E:=[_,_,_]) BK.o HI.o).2.2.2.2.2.1,(rkI (E:=[_,_,_]) BK.o HI.o).2.2.2.2.2.2.2,(rkQ (E:=[_,_,_]) BK.o).2.2.1,BK.o.q3 1 rfl⟩) ?_;clear hK K;intro hs;try simp only[Act.put,sA,sZ,sS]
   refine WLo 10 hs ?_;clear hs;intro K hK;go_simp;refine(HS.o _ (byA_rd BK.o (by simp)) (prd_of0' BK.o (by simp))).mono ?_;intro e wz hP;obtain⟨v,rfl,g,t,rfl,hb⟩:=hP;have BK:=Hd (Bank.bytesT (E:=[_,_,_]) BK.o hb HBL.o);clear hb;refine hK.o _ _ (SaT ⟨(rkI' BK.o HI.o).1,(rkI' BK.o HI.o).2,BK.o.cl 3 2,BK.o.q3 1 rfl⟩) ?_;clear hK K;intro hs;try simp only[Act.put,sA,sZ,sS]
   refine WL.tk [(11,[]),(12,[]),(13,[])] hs ?_;clear hs
   iterate 3
    (first|refine WLp ?_ ?_ ?_|refine WLl ?_ ?_ ?_);rotate_left
    ·intro w hc;go_simp<;>rfl
    simp only[Act.put,sA,sZ,sS]
   refine TKs.mk ?_;intro hs;refine WLo 14 hs ?_;clear hs;intro K hK;go_simp;refine hK.o _ _ (SaT ⟨(rkI' BK.o HI.o).1,(rkI' BK.o HI.o).2,BK.o.cl 3 2,BK.o.q3 1 rfl⟩) ?_;clear hK K;intro hs;try simp only[Act.put,sA,sZ,sS]
   refine WLo 15 hs ?_;clear hs;intro K hK;go_simp;refine hK.o _ _ (SaT ⟨(rkI' BK.o HI.o).1,(rkI' BK.o HI.o).2,BK.o.cl 3 2,BK.o.q3 1 rfl⟩) ?_;clear hK K;intro hs;try simp only[Act.put,sA,sZ,sS]
   clear hs;refine WLd ?_ _;try simp only[Exit.then]
   have q2:=BK.o.cl 3 2;have fq2:=BK.o.free 3 rfl 2;have BK6:=Hd (BK.o.bs 3 2 (.slice (some ⟨g,0,none⟩) 512 512));go_wp2_with fail;refine(tySure_ok _).mono ?_;rintro e w6 ⟨rfl,rfl⟩;go_wp2;go_ret;exact⟨⟨{ y.p with bytes:=bs },y.gr,y.cr,g,512,t⟩,rfl,rfl,BK6.o.drop.drop.drop⟩
end Go.Proofs.YtfeipbgnjainlaaGreatDoor.K
