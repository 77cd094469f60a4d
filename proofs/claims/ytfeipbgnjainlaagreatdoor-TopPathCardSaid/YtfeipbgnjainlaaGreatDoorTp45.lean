/- TCkR -/
import Derived.Test.YtfeipbgnjainlaaGreatDoorTp10
import Derived.Test.YtfeipbgnjainlaaGreatDoorTp2
import Derived.Test.YtfeipbgnjainlaaGreatDoorTp35
set_option linter.unusedVariables false
set_option linter.unusedSimpArgs false
set_option maxRecDepth 100000
set_option maxHeartbeats 8000000
namespace Go.Proofs.YtfeipbgnjainlaaGreatDoor.K
open Go Go.RowKit Go.Maps Go.Sort
def psAt(ps:List T.Pl)(k t:Nat)(e0 e1:Option T.Pl)(j:Nat):List T.Pl:=if j=0 then ps else if j=1 then T.told ps (k+1) e0 else T.told (T.told ps (k+1) e0) t e1
theorem branch_any{b o n cl:Nat}{l:List T.Ins}{Wk P c k:Nat}{x:PV}{xs:List PV}{i:T.Ins}{w0 w:World}{R:List Acc}(h:CkS b o n cl l Wk P c k x xs i w0 w R)(ho:17<=i.op/\i.op<=27):Calls Tryz.prog 81 #[.pointer (some ⟨Wk,0,none⟩),insV i] w (StepP w0 (.slice (some ⟨b,o,none⟩) n cl) Wk P n c k (xs.map PV.p) R (T.cstep i x.p) i.off):=by
 obtain⟨op,nr,dst,src,ui,off,imm,size⟩:=i;have hrf:=T.right_facts h.right;dsimp only at hrf ho;obtain⟨⟨d0,d1⟩,⟨s0,s1⟩,_,_,_,_,_⟩:=hrf;obtain⟨d,rfl⟩:=Int.eq_ofNat_of_zero_le d0;obtain⟨s,rfl⟩:=Int.eq_ofNat_of_zero_le s0;have d11:d<11:=by omega
 have s11:s<11:=by omega
 obtain⟨u,hu⟩:∃u,x.p.reg (d:Int)=u:=⟨_,rfl⟩
 obtain⟨q,hq⟩:∃q,T.second (⟨op,nr,(d:Int),(s:Int),ui,off,imm,size⟩:T.Ins) x.p=q:=⟨_,rfl⟩
 have HC0:=Hd (show T.cstep (⟨op,nr,(d:Int),(s:Int),ui,off,imm,size⟩:T.Ins) x.p=if u.k=0\/q.k=0 then(110,none,none)else if(T.asN x.p u).1≠0 then((T.asN x.p u).1,none,none)else if(T.asN x.p q).1≠0 then((T.asN x.p q).1,none,none)else(0,T.ended (⟨op,nr,(d:Int),(s:Int),ui,off,imm,size⟩:T.Ins) x.p false (T.asN x.p u).2 (T.asN x.p q).2,T.ended (⟨op,nr,(d:Int),(s:Int),ui,off,imm,size⟩:T.Ins) x.p true (T.asN x.p u).2 (T.asN x.p q).2)by
  unfold T.cstep;rw[if_neg (by simp only;omega),if_neg (by simp only;omega),if_neg (by simp only;omega),if_neg (by simp only;omega),if_neg (by simp only;omega)]
  simp only[hu,hq])
 have HUR:=Hd (show u.right=true by rw[<-hu];exact h.wf.reg _);have HQR:=Hd (show q.right=true by rw[<-hq];exact T.second_right h.wf _);have HNX:=Hd (h.next ⟨by simp only;omega,by simp only;omega⟩);have HFW:=Hd (h.fwd (by unfold T.Ins.jumps;simp only;exact decide_eq_true (by omega)));have HS:=Hd (h.box [.int .u8 op,.bool nr,.int .i64 (d:Int),.int .i64 (s:Int),.bool ui,.int .i64 off,.int .i64 imm,.int .i64 size] 55 (by simp));have hl:x.p.regs.length=11:=h.wf.rl;have HO:=Hd ho;have HQ:=Hd hq;have HU:=Hd hu;clear h ho hu hq;unfold insV insL;go_enter Tryz.func81,Tryz.ntmps81;go_upto_region 1 with fail;generalize w.heap.size=X at *;change Code.wp _ _ _ _ (w.alloc (.cells #[.int .u8 op,.bool nr,.int .i64 (d:Int),.int .i64 (s:Int),.bool ui,.int .i64 off,.int .i64 imm,.int .i64 size] 55));generalize(w.alloc (.cells #[.int .u8 op,.bool nr,.int .i64 (d:Int),.int .i64 (s:Int),.bool ui,.int .i64 off,.int .i64 imm,.int .i64 size] 55))=w1 at *;have c4:=HS.o.at 4 rfl;have i0:=HS.o.cellR (.head _) 0 rfl;have i1:=HS.o.cellR (.head _) 1 rfl;have i2:=HS.o.cellR (.head _) 2 rfl;have i3:=HS.o.cellR (.head _) 3 rfl;have i4:=HS.o.cellR (.head _) 4 rfl;have i5:=HS.o.cellR (.head _) 5 rfl;have i6:=HS.o.cellR (.head _) 6 rfl;have i7:=HS.o.cellR (.head _) 7 rfl;obtain⟨e0,e1,e2⟩:=knsL_reg HS.o.regs hl d d11;rw[HU.o]at e0 e1 e2;have z0:(0:Int)<=(d:Int):=by omega
 have z1:(d:Int)<(11:Int):=by omega
 have KEEP:=Hd (fun w' (S:Since w1 w')=>(show w'.cell? ⟨Wk,4,none⟩=some (.slice (some ⟨x.gr,0,none⟩) 11 x.cr)/\w'.cell? ⟨X,0,none⟩=some (.int .u8 op)/\w'.cell? ⟨X,1,none⟩=some (.bool nr)/\w'.cell? ⟨X,2,none⟩=some (.int .i64 (d:Int))/\w'.cell? ⟨X,3,none⟩=some (.int .i64 (s:Int))/\w'.cell? ⟨X,4,none⟩=some (.bool ui)/\w'.cell? ⟨X,5,none⟩=some (.int .i64 off)/\w'.cell? ⟨X,6,none⟩=some (.int .i64 imm)/\w'.cell? ⟨X,7,none⟩=some (.int .i64 size)/\w'.cell? ⟨x.gr,d*3,none⟩=some (.int .u8 u.k)/\w'.cell? ⟨x.gr,d*3+1,none⟩=some (W64 u.s.lo)/\w'.cell? ⟨x.gr,d*3+2,none⟩=some (W64 u.s.hi)from⟨S.keep c4,S.keep i0,S.keep i1,S.keep i2,S.keep i3,S.keep i4,S.keep i5,S.keep i6,S.keep i7,S.keep e0,S.keep e1,S.keep e2⟩));go_cut [4,5] (fun s4 s5 wx=>∃A B,s4=.pointer (some ⟨A,0,none⟩)/\s5=.pointer (some ⟨B,0,none⟩)/\CkS b o n cl l Wk P c k x xs (⟨op,nr,(d:Int),(s:Int),ui,off,imm,size⟩:T.Ins) w0 wx (boxAcc B 124 [.int .u8 q.k,W64 q.s.lo,W64 q.s.hi]::boxAcc A 124 [.int .u8 u.k,W64 u.s.lo,W64 u.s.hi]::boxAcc X 55 [.int .u8 op,.bool nr,.int .i64 (d:Int),.int .i64 (s:Int),.bool ui,.int .i64 off,.int .i64 imm,.int .i64 size]::R))
 case first =>
  have ST:=Hd (show Since w1 w1.drew from(Below.refl _ _).drew);have HS:=Hd HS.o.drew;refine WL.begin 14 (fun w'=>w'.cell? ⟨Wk,4,none⟩=some (.slice (some ⟨x.gr,0,none⟩) 11 x.cr)/\w'.cell? ⟨X,0,none⟩=some (.int .u8 op)/\w'.cell? ⟨X,1,none⟩=some (.bool nr)/\w'.cell? ⟨X,2,none⟩=some (.int .i64 (d:Int))/\w'.cell? ⟨X,3,none⟩=some (.int .i64 (s:Int))/\w'.cell? ⟨X,4,none⟩=some (.bool ui)/\w'.cell? ⟨X,5,none⟩=some (.int .i64 off)/\w'.cell? ⟨X,6,none⟩=some (.int .i64 imm)/\w'.cell? ⟨X,7,none⟩=some (.int .i64 size)/\w'.cell? ⟨x.gr,d*3,none⟩=some (.int .u8 u.k)/\w'.cell? ⟨x.gr,d*3+1,none⟩=some (W64 u.s.lo)/\w'.cell? ⟨x.gr,d*3+2,none⟩=some (W64 u.s.hi)) (fun _=>True) (by kernel_rfl) (KEEP.o _ ST.o) trivial (fun hs=>?_);generalize w1.drew=wz at *
  repeat' first
   | (with_reducible refine StepL.at 11 ?_
      intro K hK;go_simp;refine(second_any Wk x.gr x.cr x.p (⟨op,nr,(d:Int),(s:Int),ui,off,imm,size⟩:T.Ins) _ (HS.o.at 4 rfl) HS.o.regs hl ⟨s0,s1⟩).mono ?_;rintro e wz ⟨rfl,hs⟩;have HS:=Hd (HS.o.call hs);have ST:=Hd (ST.o.add hs);clear hs;rw[HQ.o];unfold knv;refine hK.o _ _ (SApp.intro (fun _=>KEEP.o _ ST.o) trivial) ?_
      clear hK K;intro hs;try simp only[Act.put,sA,sZ,sS])
   | (with_reducible refine StepL.at 12 ?_
      intro K hK;go_simp;have HS:=Hd (HS.o.box [.int .u8 0,W64 0#64,W64 0#64] 124 (by simp));have ST:=Hd (ST.o.alloc (.cells #[.int .u8 0,W64 0#64,W64 0#64] 124));refine hK.o _ _ (SApp.intro (fun _=>KEEP.o _ ST.o) trivial) ?_;generalize wz.heap.size=A at *;generalize(wz.alloc (.cells #[.int .u8 0,W64 0#64,W64 0#64] 124))=wz at *
      clear hK K;intro hs;try simp only[Act.put,sA,sZ,sS])
   | (with_reducible refine StepL.at 13 ?_
      intro K hK;go_simp;have HS:=Hd (HS.o.box [.int .u8 0,W64 0#64,W64 0#64] 124 (by simp));have ST:=Hd (ST.o.alloc (.cells #[.int .u8 0,W64 0#64,W64 0#64] 124));refine hK.o _ _ (SApp.intro (fun _=>KEEP.o _ ST.o) trivial) ?_;generalize wz.heap.size=B at *;generalize(wz.alloc (.cells #[.int .u8 0,W64 0#64,W64 0#64] 124))=wz at *
      clear hK K;intro hs;try simp only[Act.put,sA,sZ,sS])
   | (with_reducible refine StepL.at 14 ?_
      intro K hK;have HS:RowKit.Hid (CkS b o n cl l Wk P c k x xs (⟨op,nr,(d:Int),(s:Int),ui,off,imm,size⟩:T.Ins) w0 wz (boxAcc A 124 [.int .u8 0,W64 0#64,W64 0#64]::boxAcc B 124 [.int .u8 0,W64 0#64,W64 0#64]::boxAcc X 55 [.int .u8 op,.bool nr,.int .i64 (d:Int),.int .i64 (s:Int),.bool ui,.int .i64 off,.int .i64 imm,.int .i64 size]::R)):=by first|exact HS|exact Hd HS.o.swapR
      have b0:=HS.o.cellR (.head _) 0 rfl;have b1:=HS.o.cellR (.head _) 1 rfl;have b2:=HS.o.cellR (.head _) 2 rfl;have fb0:=HS.o.freeR (.head _) 0;have fb1:=HS.o.freeR (.head _) 1;have fb2:=HS.o.freeR (.head _) 2;go_simp;have HS:=Hd (((HS.o.set1 0 (.int .u8 u.k)).set1 1 (W64 u.s.lo)).set1 2 (W64 u.s.hi));clear b0 b1 b2 fb0 fb1 fb2;refine hK.o _ _ SaF ?_
      clear hK K;intro hs;try simp only[Act.put])
   | (with_reducible refine StepL.at 15 ?_
      intro K hK;have HS:=Hd HS.o.swapR;have b0:=HS.o.cellR (.head _) 0 rfl;have b1:=HS.o.cellR (.head _) 1 rfl;have b2:=HS.o.cellR (.head _) 2 rfl;have fb0:=HS.o.freeR (.head _) 0;have fb1:=HS.o.freeR (.head _) 1;have fb2:=HS.o.freeR (.head _) 2;go_simp;have HS:=Hd (((HS.o.set1 0 (.int .u8 q.k)).set1 1 (W64 q.s.lo)).set1 2 (W64 q.s.hi));clear b0 b1 b2 fb0 fb1 fb2;refine hK.o _ _ SaF ?_
      clear hK K;intro hs;try simp only[Act.put])
   | (refine WL.tp (i:=0) (v:=?_) rfl (by decide +kernel) (fun _ _ _ h=>h) hs (Or.inl ⟨by kernel_rfl,?_⟩) ?_;rotate_left;· intro w hc;go_simp<;>rfl
      clear hs;intro hs;simp only[Act.put,sA,sZ,sS])
   | (refine WL.tp (i:=1) (v:=?_) rfl (by decide +kernel) (fun _ _ _ h=>h) hs (Or.inl ⟨by kernel_rfl,?_⟩) ?_;rotate_left;· intro w hc;go_simp<;>rfl
      clear hs;intro hs;simp only[Act.put,sA,sZ,sS])
   | (refine WL.tp (i:=2) (v:=?_) rfl (by decide +kernel) (fun _ _ _ h=>h) hs (Or.inl ⟨by kernel_rfl,?_⟩) ?_;rotate_left;· intro w hc;go_simp<;>rfl
      clear hs;intro hs;simp only[Act.put,sA,sZ,sS])
   | (refine WL.tp (i:=3) (v:=?_) rfl (by decide +kernel) (fun _ _ _ h=>h) hs (Or.inl ⟨by kernel_rfl,?_⟩) ?_;rotate_left;· intro w hc;go_simp<;>rfl
      clear hs;intro hs;simp only[Act.put,sA,sZ,sS])
   | (refine WL.tl [4] (i:=4) (v:=?_) rfl (by decide +kernel) (by kernel_rfl) (fun _ _ _ h=>h) hs (Or.inl ⟨by kernel_rfl,?_⟩) ?_;rotate_left;· intro w hc;go_simp<;>rfl
      clear hs;intro hs;simp only[Act.put,sA,sZ,sS])
   | (refine WL.tp (i:=5) (v:=?_) rfl (by decide +kernel) (fun _ _ _ h=>h) hs (Or.inl ⟨by kernel_rfl,?_⟩) ?_;rotate_left;· intro w hc;go_simp<;>rfl
      clear hs;intro hs;simp only[Act.put,sA,sZ,sS])
   | (refine WL.tl [6] (i:=6) (v:=?_) rfl (by decide +kernel) (by kernel_rfl) (fun _ _ _ h=>h) hs (Or.inl ⟨by kernel_rfl,?_⟩) ?_;rotate_left;· intro w hc;go_simp<;>rfl
      clear hs;intro hs;simp only[Act.put,sA,sZ,sS])
   | (refine WL.tp (i:=7) (v:=?_) rfl (by decide +kernel) (fun _ _ _ h=>h) hs (Or.inl ⟨by kernel_rfl,?_⟩) ?_;rotate_left;· intro w hc;go_simp<;>rfl
      clear hs;intro hs;simp only[Act.put,sA,sZ,sS])
   | (refine WL.tl [8] (i:=8) (v:=?_) rfl (by decide +kernel) (by kernel_rfl) (fun _ _ _ h=>h) hs (Or.inl ⟨by kernel_rfl,?_⟩) ?_;rotate_left;· intro w hc;go_simp<;>rfl
      clear hs;intro hs;simp only[Act.put,sA,sZ,sS])
   | (refine WL.tp (i:=9) (v:=?_) rfl (by decide +kernel) (fun _ _ _ h=>h) hs (Or.inl ⟨by kernel_rfl,?_⟩) ?_;rotate_left;· intro w hc;go_simp<;>rfl
      clear hs;intro hs;simp only[Act.put,sA,sZ,sS])
   | (refine WL.tl [11,10] (i:=10) (v:=?_) rfl (by decide +kernel) (by kernel_rfl) (fun _ _ _ h=>h) hs (Or.inl ⟨by kernel_rfl,?_⟩) ?_;rotate_left;· intro w hc;go_simp<;>rfl
      clear hs;intro hs;simp only[Act.put,sA,sZ,sS])
   | (refine WL.s1 (i:=11) (by decide +kernel) rfl hs ?_<;>clear hs)
   | (refine WL.o2 (i:=11) (j:=12) (by decide +kernel) rfl rfl hs ?_ ?_<;>clear hs)
   | (refine WL.o3 (i:=11) (j:=12) (k:=13) (by decide +kernel) rfl rfl rfl hs ?_ ?_ ?_<;>clear hs)
   | (refine WL.o2 (i:=11) (j:=13) (by decide +kernel) rfl rfl hs ?_ ?_<;>clear hs)
   | (refine WL.s1 (i:=12) (by decide +kernel) rfl hs ?_<;>clear hs)
   | (refine WL.o2 (i:=12) (j:=13) (by decide +kernel) rfl rfl hs ?_ ?_<;>clear hs)
   | (refine WL.s1 (i:=13) (by decide +kernel) rfl hs ?_<;>clear hs)
   | (refine WL.s1 (i:=14) (by decide +kernel) rfl hs ?_<;>clear hs)
   | (refine WL.s1 (i:=15) (by decide +kernel) rfl hs ?_<;>clear hs)
   | (clear hs;refine WL.done (by decide +kernel) ?_ _;try simp only[Exit.then]
      go_wp2_with fail;go_meet
      exact⟨_,_,rfl,rfl,HS.o⟩)
 case rest =>
  obtain⟨A,B,rfl,rfl,hS⟩:=hcut;have HS:=Hd hS;have a0:=hS.cellR (.tail _ (.head _)) 0 rfl;have b0:=hS.cellR (.head _) 0 rfl;clear hS c4 i0 i1 i2 i3 i4 i5 i6 i7 e0 e1 e2 KEEP;by_cases h0:u.k=0
  ·have HV:=Hd (show(T.cstep (⟨op,nr,(d:Int),(s:Int),ui,off,imm,size⟩:T.Ins) x.p).1=110 by rw[HC0.o,if_pos (show u.k=0\/q.k=0 from .inl h0)])
   have eu:(u.k==0)=true:=by simpa using h0
   clear h0;go_wp2_with fail;refine(fail_yes 110 _).mono ?_;rintro e wm ⟨rfl,rfl⟩;exact⟨rfl,HS.o.noBox.noBox.noBox.bad rfl HV.o (by decide)⟩
  have eu:(u.k==0)=false:=by simpa using h0
  by_cases hq0:q.k=0
  ·have HV:=Hd (show(T.cstep (⟨op,nr,(d:Int),(s:Int),ui,off,imm,size⟩:T.Ins) x.p).1=110 by rw[HC0.o,if_pos (show u.k=0\/q.k=0 from .inr hq0)])
   have eq:(q.k==0)=true:=by simpa using hq0
   clear h0 hq0;go_wp2_with fail;refine(fail_yes 110 _).mono ?_;rintro e wm ⟨rfl,rfl⟩;exact⟨rfl,HS.o.noBox.noBox.noBox.bad rfl HV.o (by decide)⟩
  have eq:(q.k==0)=false:=by simpa using hq0
  have HC:=Hd (HC0.o.trans (if_neg (by omega)));clear h0 hq0;go_wp2_with fail;refine(fail_no 110 _).mono ?_;rintro e wm ⟨rfl,rfl⟩;go_upto_region 3 with fail;clear a0 b0 eu eq;have a0:=HS.o.cellR (.tail _ (.head _)) 0 rfl;have a1:=HS.o.cellR (.tail _ (.head _)) 1 rfl;have a2:=HS.o.cellR (.tail _ (.head _)) 2 rfl;have b0:=HS.o.cellR (.head _) 0 rfl;have b1:=HS.o.cellR (.head _) 1 rfl;have b2:=HS.o.cellR (.head _) 2 rfl;have KEEP:=Hd (fun w' (S:Since wm w')=>(show w'.cell? ⟨A,0,none⟩=some (.int .u8 u.k)/\w'.cell? ⟨A,1,none⟩=some (W64 u.s.lo)/\w'.cell? ⟨A,2,none⟩=some (W64 u.s.hi)/\w'.cell? ⟨B,0,none⟩=some (.int .u8 q.k)/\w'.cell? ⟨B,1,none⟩=some (W64 q.s.lo)/\w'.cell? ⟨B,2,none⟩=some (W64 q.s.hi)from⟨S.keep a0,S.keep a1,S.keep a2,S.keep b0,S.keep b1,S.keep b2⟩));go_cut [6,7] (fun s6 s7 wx=>∃C D,s6=.pointer (some ⟨C,0,none⟩)/\s7=.pointer (some ⟨D,0,none⟩)/\CkS b o n cl l Wk P c k x xs (⟨op,nr,(d:Int),(s:Int),ui,off,imm,size⟩:T.Ins) w0 wx (boxAcc D 122 [W64 (numR x.p.least q).2.lo,W64 (numR x.p.least q).2.hi]::boxAcc C 122 [W64 (numR x.p.least u).2.lo,W64 (numR x.p.least u).2.hi]::boxAcc B 124 [.int .u8 q.k,W64 q.s.lo,W64 q.s.hi]::boxAcc A 124 [.int .u8 u.k,W64 u.s.lo,W64 u.s.hi]::boxAcc X 55 [.int .u8 op,.bool nr,.int .i64 (d:Int),.int .i64 (s:Int),.bool ui,.int .i64 off,.int .i64 imm,.int .i64 size]::R)/\(numR x.p.least u).1=0/\(numR x.p.least q).1=0)
  case first =>
   have ST:=Hd (show Since wm wm.drew from(Below.refl _ _).drew);have HS:=Hd HS.o.drew;refine WL.begin 8 (fun w'=>w'.cell? ⟨A,0,none⟩=some (.int .u8 u.k)/\w'.cell? ⟨A,1,none⟩=some (W64 u.s.lo)/\w'.cell? ⟨A,2,none⟩=some (W64 u.s.hi)/\w'.cell? ⟨B,0,none⟩=some (.int .u8 q.k)/\w'.cell? ⟨B,1,none⟩=some (W64 q.s.lo)/\w'.cell? ⟨B,2,none⟩=some (W64 q.s.hi)) (fun _=>True) (by kernel_rfl) (KEEP.o _ ST.o) trivial (fun hs=>?_);generalize wm.drew=wz at *
   repeat' first
    | (with_reducible refine StepL.at 2 ?_
       intro K hK;go_simp;refine(numberC_any Wk x.p.least u _ (HS.o.at 6 rfl) HS.o.wf.l0 HS.o.wf.ll).mono ?_;rintro e wz (⟨hz,rfl,hs⟩|⟨hz,rfl,hs⟩)
       case inr =>
        have HV:=Hd (show(T.cstep (⟨op,nr,(d:Int),(s:Int),ui,off,imm,size⟩:T.Ins) x.p).1=(numR x.p.least u).1 by rw[HC.o,asN_numR,if_pos hz])
        first
         | exact⟨rfl,(HS.o.call hs).noBox.noBox.noBox.bad rfl HV.o hz⟩
         | exact⟨rfl,(HS.o.call hs).noBox.noBox.noBox.noBox.bad rfl HV.o hz⟩
         | exact⟨rfl,(HS.o.call hs).noBox.noBox.noBox.noBox.noBox.bad rfl HV.o hz⟩
       have HZu:=Hd hz;have HS:=Hd (HS.o.call hs);have ST:=Hd (ST.o.add hs);clear hs hz;unfold spv;refine hK.o _ _ (SApp.intro (fun _=>KEEP.o _ ST.o) trivial) ?_
       clear hK K;intro hs;try simp only[Act.put,sA,sZ,sS])
    | (with_reducible refine StepL.at 5 ?_
       intro K hK;go_simp;refine(numberC_any Wk x.p.least q _ (HS.o.at 6 rfl) HS.o.wf.l0 HS.o.wf.ll).mono ?_;rintro e wz (⟨hz,rfl,hs⟩|⟨hz,rfl,hs⟩)
       case inr =>
        have HV:=Hd (show(T.cstep (⟨op,nr,(d:Int),(s:Int),ui,off,imm,size⟩:T.Ins) x.p).1=(numR x.p.least q).1 by rw[HC.o,asN_numR,HZu.o,asN_numR,if_pos hz];rfl)
        first
         | exact⟨rfl,(HS.o.call hs).noBox.noBox.noBox.bad rfl HV.o hz⟩
         | exact⟨rfl,(HS.o.call hs).noBox.noBox.noBox.noBox.bad rfl HV.o hz⟩
         | exact⟨rfl,(HS.o.call hs).noBox.noBox.noBox.noBox.noBox.bad rfl HV.o hz⟩
       have HZq:=Hd hz;have HS:=Hd (HS.o.call hs);have ST:=Hd (ST.o.add hs);clear hs hz;unfold spv;refine hK.o _ _ (SApp.intro (fun _=>KEEP.o _ ST.o) trivial) ?_
       clear hK K;intro hs;try simp only[Act.put,sA,sZ,sS])
    | (with_reducible refine StepL.at 6 ?_
       intro K hK;go_simp;have HS:=Hd (HS.o.box [W64 0#64,W64 0#64] 122 (by simp));have ST:=Hd (ST.o.alloc (.cells #[W64 0#64,W64 0#64] 122));refine hK.o _ _ (SApp.intro (fun _=>KEEP.o _ ST.o) trivial) ?_;generalize wz.heap.size=C at *;generalize(wz.alloc (.cells #[W64 0#64,W64 0#64] 122))=wz at *
       clear hK K;intro hs;try simp only[Act.put,sA,sZ,sS])
    | (with_reducible refine StepL.at 7 ?_
       intro K hK;go_simp;have HS:=Hd (HS.o.box [W64 0#64,W64 0#64] 122 (by simp));have ST:=Hd (ST.o.alloc (.cells #[W64 0#64,W64 0#64] 122));refine hK.o _ _ (SApp.intro (fun _=>KEEP.o _ ST.o) trivial) ?_;generalize wz.heap.size=D at *;generalize(wz.alloc (.cells #[W64 0#64,W64 0#64] 122))=wz at *
       clear hK K;intro hs;try simp only[Act.put,sA,sZ,sS])
    | (with_reducible refine StepL.at 8 ?_
       intro K hK;have HS:RowKit.Hid (CkS b o n cl l Wk P c k x xs (⟨op,nr,(d:Int),(s:Int),ui,off,imm,size⟩:T.Ins) w0 wz (boxAcc C 122 [W64 0#64,W64 0#64]::boxAcc D 122 [W64 0#64,W64 0#64]::boxAcc B 124 [.int .u8 q.k,W64 q.s.lo,W64 q.s.hi]::boxAcc A 124 [.int .u8 u.k,W64 u.s.lo,W64 u.s.hi]::boxAcc X 55 [.int .u8 op,.bool nr,.int .i64 (d:Int),.int .i64 (s:Int),.bool ui,.int .i64 off,.int .i64 imm,.int .i64 size]::R)):=by first|exact HS|exact Hd HS.o.swapR
       have b0:=HS.o.cellR (.head _) 0 rfl;have b1:=HS.o.cellR (.head _) 1 rfl;have fb0:=HS.o.freeR (.head _) 0;have fb1:=HS.o.freeR (.head _) 1;go_simp;have HS:=Hd ((HS.o.set1 0 (W64 (numR x.p.least u).2.lo)).set1 1 (W64 (numR x.p.least u).2.hi));clear b0 b1 fb0 fb1;refine hK.o _ _ SaF ?_
       clear hK K;intro hs;try simp only[Act.put])
    | (with_reducible refine StepL.at 9 ?_
       intro K hK;have HS:=Hd HS.o.swapR;have b0:=HS.o.cellR (.head _) 0 rfl;have b1:=HS.o.cellR (.head _) 1 rfl;have fb0:=HS.o.freeR (.head _) 0;have fb1:=HS.o.freeR (.head _) 1;go_simp;have HS:=Hd ((HS.o.set1 0 (W64 (numR x.p.least q).2.lo)).set1 1 (W64 (numR x.p.least q).2.hi));clear b0 b1 fb0 fb1;refine hK.o _ _ SaF ?_
       clear hK K;intro hs;try simp only[Act.put])
    | (refine WL.tp (i:=0) (v:=?_) rfl (by decide +kernel) (fun _ _ _ h=>h) hs (Or.inl ⟨by kernel_rfl,?_⟩) ?_;rotate_left;· intro w hc;go_simp<;>rfl
       clear hs;intro hs;simp only[Act.put,sA,sZ,sS])
    | (refine WL.tl [1] (i:=1) (v:=?_) rfl (by decide +kernel) (by kernel_rfl) (fun _ _ _ h=>h) hs (Or.inl ⟨by kernel_rfl,?_⟩) ?_;rotate_left;· intro w hc;go_simp<;>rfl
       clear hs;intro hs;simp only[Act.put,sA,sZ,sS])
    | (refine WL.tp (i:=3) (v:=?_) rfl (by decide +kernel) (fun _ _ _ h=>h) hs (Or.inl ⟨by kernel_rfl,?_⟩) ?_;rotate_left;· intro w hc;go_simp<;>rfl
       clear hs;intro hs;simp only[Act.put,sA,sZ,sS])
    | (refine WL.tl [5,4] (i:=4) (v:=?_) rfl (by decide +kernel) (by kernel_rfl) (fun _ _ _ h=>h) hs (Or.inl ⟨by kernel_rfl,?_⟩) ?_;rotate_left;· intro w hc;go_simp<;>rfl
       clear hs;intro hs;simp only[Act.put,sA,sZ,sS])
    | (refine WL.s1 (i:=2) (by decide +kernel) rfl hs ?_<;>clear hs)
    | (refine WL.o2 (i:=2) (j:=6) (by decide +kernel) rfl rfl hs ?_ ?_<;>clear hs)
    | (refine WL.o3 (i:=2) (j:=6) (k:=7) (by decide +kernel) rfl rfl rfl hs ?_ ?_ ?_<;>clear hs)
    | (refine WL.o2 (i:=2) (j:=7) (by decide +kernel) rfl rfl hs ?_ ?_<;>clear hs)
    | (refine WL.s1 (i:=5) (by decide +kernel) rfl hs ?_<;>clear hs)
    | (refine WL.o2 (i:=5) (j:=6) (by decide +kernel) rfl rfl hs ?_ ?_<;>clear hs)
    | (refine WL.o3 (i:=5) (j:=6) (k:=7) (by decide +kernel) rfl rfl rfl hs ?_ ?_ ?_<;>clear hs)
    | (refine WL.o2 (i:=5) (j:=7) (by decide +kernel) rfl rfl hs ?_ ?_<;>clear hs)
    | (refine WL.s1 (i:=6) (by decide +kernel) rfl hs ?_<;>clear hs)
    | (refine WL.o2 (i:=6) (j:=7) (by decide +kernel) rfl rfl hs ?_ ?_<;>clear hs)
    | (refine WL.s1 (i:=7) (by decide +kernel) rfl hs ?_<;>clear hs)
    | (refine WL.s1 (i:=8) (by decide +kernel) rfl hs ?_<;>clear hs)
    | (refine WL.s1 (i:=9) (by decide +kernel) rfl hs ?_<;>clear hs)
    | (clear hs;refine WL.done (by decide +kernel) ?_ _;try simp only[Exit.then]
       go_wp2_with fail;go_meet
       exact⟨_,_,rfl,rfl,HS.o,HZu.o,HZq.o⟩)
  case rest =>
   obtain⟨C,D,rfl,rfl,hS,hzu,hzq⟩:=hcut;have HS:=Hd hS;obtain⟨M,hM⟩:∃M,(numR x.p.least u).2=M:=⟨_,rfl⟩
   obtain⟨N,hN⟩:∃N,(numR x.p.least q).2=N:=⟨_,rfl⟩
   rw[hM,hN]at hS;have HAM:T.asN x.p u=(0,M):=Prod.ext hzu hM;have HAN:T.asN x.p q=(0,N):=Prod.ext hzq hN;have HE:=Hd (show T.cstep (⟨op,nr,(d:Int),(s:Int),ui,off,imm,size⟩:T.Ins) x.p=(0,T.ended (⟨op,nr,(d:Int),(s:Int),ui,off,imm,size⟩:T.Ins) x.p false M N,T.ended (⟨op,nr,(d:Int),(s:Int),ui,off,imm,size⟩:T.Ins) x.p true M N)by rw[HC.o,HAM,HAN,if_neg (by simp),if_neg (by simp)]);have HEW:=Hd (T.ended_wf hS.wf (⟨op,nr,(d:Int),(s:Int),ui,off,imm,size⟩:T.Ins) (M:=M) (N:=N) (by rw[show x.p.reg ((⟨op,nr,(d:Int),(s:Int),ui,off,imm,size⟩:T.Ins)).dst=u from HU.o];exact HAM) (by rw[HQ.o];exact HAN));have HMR:=Hd (T.asN_sp hS.wf HUR.o HAM).1;have HNR:=Hd (T.asN_sp hS.wf HQR.o HAN).1;have HS:=Hd hS;clear hS HAM HAN hM hN hzu hzq a0 a1 a2 b0 b1 b2 KEEP HC HC0;have hmf:=hmfT;go_upto_region 5 with fail;obtain⟨G,hG⟩:∃G,G=wc.heap.size:=⟨_,rfl⟩
   rw[<-hG];refine wp_ck (R:=boxAcc G 174 [.bool false,.func (.func 119) #[.pointer (some ⟨Wk,0,none⟩)] #[],.bool true,.func (.func 122) #[.pointer (some ⟨Wk,0,none⟩)] #[]]::boxAcc D 122 [W64 N.lo,W64 N.hi]::boxAcc C 122 [W64 M.lo,W64 M.hi]::boxAcc B 124 [.int .u8 q.k,W64 q.s.lo,W64 q.s.hi]::boxAcc A 124 [.int .u8 u.k,W64 u.s.lo,W64 u.s.hi]::boxAcc X 55 [.int .u8 op,.bool nr,.int .i64 (d:Int),.int .i64 (s:Int),.bool ui,.int .i64 off,.int .i64 imm,.int .i64 size]::R) (by rw[hG];exact HS.o.box [.bool false,.func (.func 119) #[.pointer (some ⟨Wk,0,none⟩)] #[],.bool true,.func (.func 122) #[.pointer (some ⟨Wk,0,none⟩)] #[]] 174 (by simp)) (fun wg hg=>?_);have HS:=Hd hg;clear hG hg hmf;go_loopw [49] (fun v wr=>∃(j:Nat) (xsj:List PV),j<=2/\v=.int .i64 (j:Int)/\CkS b o n cl l Wk P c k x xsj (⟨op,nr,(d:Int),(s:Int),ui,off,imm,size⟩:T.Ins) w0 wr (boxAcc G 174 [.bool false,.func (.func 119) #[.pointer (some ⟨Wk,0,none⟩)] #[],.bool true,.func (.func 122) #[.pointer (some ⟨Wk,0,none⟩)] #[]]::boxAcc D 122 [W64 N.lo,W64 N.hi]::boxAcc C 122 [W64 M.lo,W64 M.hi]::boxAcc B 124 [.int .u8 q.k,W64 q.s.lo,W64 q.s.hi]::boxAcc A 124 [.int .u8 u.k,W64 u.s.lo,W64 u.s.hi]::boxAcc X 55 [.int .u8 op,.bool nr,.int .i64 (d:Int),.int .i64 (s:Int),.bool ui,.int .i64 off,.int .i64 imm,.int .i64 size]::R)/\xsj.map PV.p=psAt (xs.map PV.p) k (k+1+off.toNat) (T.ended (⟨op,nr,(d:Int),(s:Int),ui,off,imm,size⟩:T.Ins) x.p false M N) (T.ended (⟨op,nr,(d:Int),(s:Int),ui,off,imm,size⟩:T.Ins) x.p true M N) j) (fun v _=>2-(intOf v).toNat)
   case atStart=>exact⟨0,xs,by decide,rfl,HS.o,rfl⟩
   case round =>
    obtain⟨j,xsj,hj,rfl,hS,hx⟩:=hrel;have hof:∀(A0:Addr) (f:Fn) (y z:Array Value) (W:World),(store A0 (.func f y z)).run Tryz.prog W=stored Tryz.prog W A0 (.func f y z) .plain:=fun A0 f y z W=>run_store Tryz.prog W A0 _ .plain rfl
    have HS:=Hd hS;have HX:=Hd hx;clear hS hx;obtain rfl|rfl|rfl:j=0\/j=1\/j=2:=by omega
    ·have g0:=HS.o.cellR (.head _) 0 rfl
     have g1:=HS.o.cellR (.head _) 1 rfl;go_upto_region 7 with fail;obtain⟨H,hH⟩:∃H,H=wr.heap.size:=⟨_,rfl⟩
     rw[<-hH];refine wp_ck (R:=boxAcc H 174 [.bool false,.func (.func 119) #[.pointer (some ⟨Wk,0,none⟩)] #[]]::boxAcc G 174 [.bool false,.func (.func 119) #[.pointer (some ⟨Wk,0,none⟩)] #[],.bool true,.func (.func 122) #[.pointer (some ⟨Wk,0,none⟩)] #[]]::boxAcc D 122 [W64 N.lo,W64 N.hi]::boxAcc C 122 [W64 M.lo,W64 M.hi]::boxAcc B 124 [.int .u8 q.k,W64 q.s.lo,W64 q.s.hi]::boxAcc A 124 [.int .u8 u.k,W64 u.s.lo,W64 u.s.hi]::boxAcc X 55 [.int .u8 op,.bool nr,.int .i64 (d:Int),.int .i64 (s:Int),.bool ui,.int .i64 off,.int .i64 imm,.int .i64 size]::R) (by rw[hH];exact HS.o.box [.bool false,.func (.func 119) #[.pointer (some ⟨Wk,0,none⟩)] #[]] 174 (by simp)) (fun w2 h2=>?_);have HS:=Hd h2;clear hH h2 g0 g1;have i0:=HS.o.cellR (.tail _ (.tail _ (.tail _ (.tail _ (.tail _ (.tail _ (.head _))))))) 0 rfl;have i1:=HS.o.cellR (.tail _ (.tail _ (.tail _ (.tail _ (.tail _ (.tail _ (.head _))))))) 1 rfl;have h0:=HS.o.cellR (.head _) 0 rfl;have c0:=HS.o.cellR (.tail _ (.tail _ (.tail _ (.head _)))) 0 rfl;have c1:=HS.o.cellR (.tail _ (.tail _ (.tail _ (.head _)))) 1 rfl;have d0:=HS.o.cellR (.tail _ (.tail _ (.head _))) 0 rfl;have d1:=HS.o.cellR (.tail _ (.tail _ (.head _))) 1 rfl;go_wp2_with fail;refine(spIf_right op nr false M N _ HO.o HMR.o HNR.o).mono ?_;rintro e w3 ⟨rfl,hs⟩;have HS:=Hd (HS.o.call hs);clear hs i0 i1 h0 c0 c1 d0 d1;rcases hsif:T.sif op nr false M N with _|⟨sa,sb⟩
     ·have hV:ifVal (ifV op nr false M N)=.tuple #[.agg #[W64 0#64,W64 0#64],.agg #[W64 0#64,W64 0#64],.bool false]:=by unfold ifVal ifV;rw[hsif];rfl
      rw[hV];have HEN:=Hd (show T.ended (⟨op,nr,(d:Int),(s:Int),ui,off,imm,size⟩:T.Ins) x.p false M N=none by unfold T.ended;rw[hsif];rfl);clear hsif hV;go_wp2;go_round
      case rel=>exact⟨1,xsj,by decide,by go_num,(HS.o.noBox.alloc _).alloc _,by rw[HX.o];simp only[psAt,HEN.o,T.told];rfl⟩
      case measure=>simp[intOf]
     ·have hV:ifVal (ifV op nr false M N)=.tuple #[.agg #[W64 sa.lo,W64 sa.hi],.agg #[W64 sb.lo,W64 sb.hi],.bool true]:=by unfold ifVal ifV;rw[hsif];rfl
      rw[hV];have HES:=Hd (show T.ended (⟨op,nr,(d:Int),(s:Int),ui,off,imm,size⟩:T.Ins) x.p false M N=some (if ui then x.p.with (d:Int) sa else if(s:Int)≠(d:Int)then(x.p.with (d:Int) sa).with (s:Int) sb else x.p)by unfold T.ended;rw[hsif];rfl);clear hsif hV;go_upto_region 8 with fail;refine wp_ck (R:=boxAcc (w3.heap.size+1) 122 [W64 sb.lo,W64 sb.hi]::boxAcc w3.heap.size 122 [W64 sa.lo,W64 sa.hi]::boxAcc H 174 [.bool false,.func (.func 119) #[.pointer (some ⟨Wk,0,none⟩)] #[]]::boxAcc G 174 [.bool false,.func (.func 119) #[.pointer (some ⟨Wk,0,none⟩)] #[],.bool true,.func (.func 122) #[.pointer (some ⟨Wk,0,none⟩)] #[]]::boxAcc D 122 [W64 N.lo,W64 N.hi]::boxAcc C 122 [W64 M.lo,W64 M.hi]::boxAcc B 124 [.int .u8 q.k,W64 q.s.lo,W64 q.s.hi]::boxAcc A 124 [.int .u8 u.k,W64 u.s.lo,W64 u.s.hi]::boxAcc X 55 [.int .u8 op,.bool nr,.int .i64 (d:Int),.int .i64 (s:Int),.bool ui,.int .i64 off,.int .i64 imm,.int .i64 size]::R) (by have h:=(HS.o.box [W64 sa.lo,W64 sa.hi] 122 (by simp)).box [W64 sb.lo,W64 sb.hi] 122 (by simp);rw[World.size_alloc]at h;exact h) (fun w4 h4=>?_);generalize w3.heap.size=E at *;have HS:=Hd h4;have c3:=h4.at 3 rfl;have c4:=h4.at 4 rfl;have c5:=h4.at 5 rfl;have c6:=h4.at 6 rfl;clear h4;go_wp2_with fail;refine(copied_any x w4 HS.o.wf.rl HS.o.wf.bl HS.o.regs HS.o.bytes).mono ?_;rintro e w5 ⟨y,hy,rfl,hb⟩;have HP:=Hd (HS.o.copied hy hb);have HYP:=Hd hy;clear hy hb c3 c4 c5 c6;unfold PlV;go_upto_region 10 with fail;refine wp_cp HP.o (fun w6 h6=>?_);generalize w5.heap.size=Y at *;have HP:=Hd h6;have i2:=h6.ck.cellR (.tail _ (.tail _ (.tail _ (.tail _ (.tail _ (.tail _ (.tail _ (.tail _ (.head _))))))))) 2 rfl;have i3:=h6.ck.cellR (.tail _ (.tail _ (.tail _ (.tail _ (.tail _ (.tail _ (.tail _ (.tail _ (.head _))))))))) 3 rfl;have i4:=h6.ck.cellR (.tail _ (.tail _ (.tail _ (.tail _ (.tail _ (.tail _ (.tail _ (.tail _ (.head _))))))))) 4 rfl;have x0:=h6.ck.cellR (.tail _ (.head _)) 0 rfl;have x1:=h6.ck.cellR (.tail _ (.head _)) 1 rfl;have v0:=h6.ck.cellR (.head _) 0 rfl;have v1:=h6.ck.cellR (.head _) 1 rfl;clear h6;by_cases hui:ui=true
      case' pos =>
       rw[hui]at i4;have HY2:=Hd (show T.ended (⟨op,nr,(d:Int),(s:Int),ui,off,imm,size⟩:T.Ins) x.p false M N=some (x.p.with (d:Int) sa)by rw[HES.o,if_pos hui]);clear hui HES;go_wp2_with fail;refine(HP.o.with d d11 sa).mono ?_;rintro e w7 ⟨rfl,y2,hy2,hP⟩;have HY2:=Hd (HY2.o.trans (show some (x.p.with (d:Int) sa)=some y2.p by rw[hy2,HYP.o]));have HP:=Hd hP;clear hP hy2 i2 i3 i4 x0 x1 v0 v1;go_upto_region 15 with fail;refine wp_cp HP.o (fun w8 h8=>?_)
      case' neg =>
       rw[show ui=false by simpa using hui]at i4;by_cases hsd:(s:Int)=(d:Int)
       case' pos =>
        have HY2:=Hd (show T.ended (⟨op,nr,(d:Int),(s:Int),ui,off,imm,size⟩:T.Ins) x.p false M N=some y.p by rw[HES.o,if_neg hui,if_neg (by simpa using hsd),HYP.o]);have esd:((s:Int) != (d:Int))=false:=by simpa using hsd
        clear hui HES hsd;go_upto_region 15 with fail;refine wp_cp HP.o (fun w8 h8=>?_);obtain⟨y2,ey⟩:∃y2,y2=y:=⟨_,rfl⟩
        rw[<-ey]at HY2 h8 ⊢;clear ey HP
       case' neg =>
        have HY2:=Hd (show T.ended (⟨op,nr,(d:Int),(s:Int),ui,off,imm,size⟩:T.Ins) x.p false M N=some ((x.p.with (d:Int) sa).with (s:Int) sb)by rw[HES.o,if_neg hui,if_pos hsd]);have esd:((s:Int) != (d:Int))=true:=by simpa using hsd
        clear hui HES hsd;go_wp2_with fail;refine(HP.o.with d d11 sa).mono ?_;rintro e w7 ⟨rfl,y1,hy1,hP⟩;have HP:=Hd hP;clear i2 i3 i4 x0 x1 v0 v1;have i3:=hP.ck.cellR (.tail _ (.tail _ (.tail _ (.tail _ (.tail _ (.tail _ (.tail _ (.tail _ (.head _))))))))) 3 rfl;have v0:=hP.ck.cellR (.head _) 0 rfl;have v1:=hP.ck.cellR (.head _) 1 rfl;clear hP;go_wp2_with fail;refine(HP.o.with s s11 sb).mono ?_;rintro e w7 ⟨rfl,y2,hy2,hP⟩;have HY2:=Hd (HY2.o.trans (show _=some y2.p by rw[hy2,hy1,HYP.o]));have HP:=Hd hP;clear hP hy2 hy1 i3 v0 v1;go_upto_region 15 with fail;refine wp_cp HP.o (fun w8 h8=>?_)
      all_goals
       have HP:=Hd h8;have p0:=h8.cell 0 rfl;have p1:=h8.cell 1 rfl;have p2:=h8.cell 2 rfl;have p3:=h8.cell 3 rfl;have h1:=h8.ck.cellR (.tail _ (.tail _ (.head _))) 1 rfl;clear h8;go_wp2_with fail;refine(HP.o.ahead (HEW.o false _ HY2.o) HNX.o).mono ?_;rintro e w9 ⟨rfl,xs2,hx2,hS2⟩;have HX2:=Hd hx2;have HS2:=Hd hS2;clear hx2 hS2 p0 p1 p2 p3 h1;go_wp2;go_round
       case rel=>exact⟨1,xs2,by decide,by go_num,HS2.o.noBox.noBox.noBox,by rw[HX2.o,HX.o,<-HY2.o];rfl⟩
       case measure=>simp[intOf]
    ·have g2:=HS.o.cellR (.head _) 2 rfl
     have g3:=HS.o.cellR (.head _) 3 rfl;go_upto_region 7 with fail;obtain⟨H,hH⟩:∃H,H=wr.heap.size:=⟨_,rfl⟩
     rw[<-hH];refine wp_ck (R:=boxAcc H 174 [.bool true,.func (.func 122) #[.pointer (some ⟨Wk,0,none⟩)] #[]]::boxAcc G 174 [.bool false,.func (.func 119) #[.pointer (some ⟨Wk,0,none⟩)] #[],.bool true,.func (.func 122) #[.pointer (some ⟨Wk,0,none⟩)] #[]]::boxAcc D 122 [W64 N.lo,W64 N.hi]::boxAcc C 122 [W64 M.lo,W64 M.hi]::boxAcc B 124 [.int .u8 q.k,W64 q.s.lo,W64 q.s.hi]::boxAcc A 124 [.int .u8 u.k,W64 u.s.lo,W64 u.s.hi]::boxAcc X 55 [.int .u8 op,.bool nr,.int .i64 (d:Int),.int .i64 (s:Int),.bool ui,.int .i64 off,.int .i64 imm,.int .i64 size]::R) (by rw[hH];exact HS.o.box [.bool true,.func (.func 122) #[.pointer (some ⟨Wk,0,none⟩)] #[]] 174 (by simp)) (fun w2 h2=>?_);have HS:=Hd h2;clear hH h2 g2 g3;have i0:=HS.o.cellR (.tail _ (.tail _ (.tail _ (.tail _ (.tail _ (.tail _ (.head _))))))) 0 rfl;have i1:=HS.o.cellR (.tail _ (.tail _ (.tail _ (.tail _ (.tail _ (.tail _ (.head _))))))) 1 rfl;have h0:=HS.o.cellR (.head _) 0 rfl;have c0:=HS.o.cellR (.tail _ (.tail _ (.tail _ (.head _)))) 0 rfl;have c1:=HS.o.cellR (.tail _ (.tail _ (.tail _ (.head _)))) 1 rfl;have d0:=HS.o.cellR (.tail _ (.tail _ (.head _))) 0 rfl;have d1:=HS.o.cellR (.tail _ (.tail _ (.head _))) 1 rfl;go_wp2_with fail;refine(spIf_right op nr true M N _ HO.o HMR.o HNR.o).mono ?_;rintro e w3 ⟨rfl,hs⟩;have HS:=Hd (HS.o.call hs);clear hs i0 i1 h0 c0 c1 d0 d1;rcases hsif:T.sif op nr true M N with _|⟨sa,sb⟩
     ·have hV:ifVal (ifV op nr true M N)=.tuple #[.agg #[W64 0#64,W64 0#64],.agg #[W64 0#64,W64 0#64],.bool false]:=by unfold ifVal ifV;rw[hsif];rfl
      rw[hV];have HEN:=Hd (show T.ended (⟨op,nr,(d:Int),(s:Int),ui,off,imm,size⟩:T.Ins) x.p true M N=none by unfold T.ended;rw[hsif];rfl);clear hsif hV;go_wp2;go_round
      case rel=>exact⟨2,xsj,by decide,by go_num,(HS.o.noBox.alloc _).alloc _,by rw[HX.o];simp only[psAt,HEN.o,T.told];rfl⟩
      case measure=>simp[intOf]
     ·have hV:ifVal (ifV op nr true M N)=.tuple #[.agg #[W64 sa.lo,W64 sa.hi],.agg #[W64 sb.lo,W64 sb.hi],.bool true]:=by unfold ifVal ifV;rw[hsif];rfl
      rw[hV];have HES:=Hd (show T.ended (⟨op,nr,(d:Int),(s:Int),ui,off,imm,size⟩:T.Ins) x.p true M N=some (if ui then x.p.with (d:Int) sa else if(s:Int)≠(d:Int)then(x.p.with (d:Int) sa).with (s:Int) sb else x.p)by unfold T.ended;rw[hsif];rfl);clear hsif hV;go_upto_region 8 with fail;refine wp_ck (R:=boxAcc (w3.heap.size+1) 122 [W64 sb.lo,W64 sb.hi]::boxAcc w3.heap.size 122 [W64 sa.lo,W64 sa.hi]::boxAcc H 174 [.bool true,.func (.func 122) #[.pointer (some ⟨Wk,0,none⟩)] #[]]::boxAcc G 174 [.bool false,.func (.func 119) #[.pointer (some ⟨Wk,0,none⟩)] #[],.bool true,.func (.func 122) #[.pointer (some ⟨Wk,0,none⟩)] #[]]::boxAcc D 122 [W64 N.lo,W64 N.hi]::boxAcc C 122 [W64 M.lo,W64 M.hi]::boxAcc B 124 [.int .u8 q.k,W64 q.s.lo,W64 q.s.hi]::boxAcc A 124 [.int .u8 u.k,W64 u.s.lo,W64 u.s.hi]::boxAcc X 55 [.int .u8 op,.bool nr,.int .i64 (d:Int),.int .i64 (s:Int),.bool ui,.int .i64 off,.int .i64 imm,.int .i64 size]::R) (by have h:=(HS.o.box [W64 sa.lo,W64 sa.hi] 122 (by simp)).box [W64 sb.lo,W64 sb.hi] 122 (by simp);rw[World.size_alloc]at h;exact h) (fun w4 h4=>?_);generalize w3.heap.size=E at *;have HS:=Hd h4;have c3:=h4.at 3 rfl;have c4:=h4.at 4 rfl;have c5:=h4.at 5 rfl;have c6:=h4.at 6 rfl;clear h4;go_wp2_with fail;refine(copied_any x w4 HS.o.wf.rl HS.o.wf.bl HS.o.regs HS.o.bytes).mono ?_;rintro e w5 ⟨y,hy,rfl,hb⟩;have HP:=Hd (HS.o.copied hy hb);have HYP:=Hd hy;clear hy hb c3 c4 c5 c6;unfold PlV;go_upto_region 10 with fail;refine wp_cp HP.o (fun w6 h6=>?_);generalize w5.heap.size=Y at *;have HP:=Hd h6;have i2:=h6.ck.cellR (.tail _ (.tail _ (.tail _ (.tail _ (.tail _ (.tail _ (.tail _ (.tail _ (.head _))))))))) 2 rfl;have i3:=h6.ck.cellR (.tail _ (.tail _ (.tail _ (.tail _ (.tail _ (.tail _ (.tail _ (.tail _ (.head _))))))))) 3 rfl;have i4:=h6.ck.cellR (.tail _ (.tail _ (.tail _ (.tail _ (.tail _ (.tail _ (.tail _ (.tail _ (.head _))))))))) 4 rfl;have x0:=h6.ck.cellR (.tail _ (.head _)) 0 rfl;have x1:=h6.ck.cellR (.tail _ (.head _)) 1 rfl;have v0:=h6.ck.cellR (.head _) 0 rfl;have v1:=h6.ck.cellR (.head _) 1 rfl;clear h6;by_cases hui:ui=true
      case' pos =>
       rw[hui]at i4;have HY2:=Hd (show T.ended (⟨op,nr,(d:Int),(s:Int),ui,off,imm,size⟩:T.Ins) x.p true M N=some (x.p.with (d:Int) sa)by rw[HES.o,if_pos hui]);clear hui HES;go_wp2_with fail;refine(HP.o.with d d11 sa).mono ?_;rintro e w7 ⟨rfl,y2,hy2,hP⟩;have HY2:=Hd (HY2.o.trans (show some (x.p.with (d:Int) sa)=some y2.p by rw[hy2,HYP.o]));have HP:=Hd hP;clear hP hy2 i2 i3 i4 x0 x1 v0 v1;go_upto_region 15 with fail;refine wp_cp HP.o (fun w8 h8=>?_)
      case' neg =>
       rw[show ui=false by simpa using hui]at i4;by_cases hsd:(s:Int)=(d:Int)
       case' pos =>
        have HY2:=Hd (show T.ended (⟨op,nr,(d:Int),(s:Int),ui,off,imm,size⟩:T.Ins) x.p true M N=some y.p by rw[HES.o,if_neg hui,if_neg (by simpa using hsd),HYP.o]);have esd:((s:Int) != (d:Int))=false:=by simpa using hsd
        clear hui HES hsd;go_upto_region 15 with fail;refine wp_cp HP.o (fun w8 h8=>?_);obtain⟨y2,ey⟩:∃y2,y2=y:=⟨_,rfl⟩
        rw[<-ey]at HY2 h8 ⊢;clear ey HP
       case' neg =>
        have HY2:=Hd (show T.ended (⟨op,nr,(d:Int),(s:Int),ui,off,imm,size⟩:T.Ins) x.p true M N=some ((x.p.with (d:Int) sa).with (s:Int) sb)by rw[HES.o,if_neg hui,if_pos hsd]);have esd:((s:Int) != (d:Int))=true:=by simpa using hsd
        clear hui HES hsd;go_wp2_with fail;refine(HP.o.with d d11 sa).mono ?_;rintro e w7 ⟨rfl,y1,hy1,hP⟩;have HP:=Hd hP;clear i2 i3 i4 x0 x1 v0 v1;have i3:=hP.ck.cellR (.tail _ (.tail _ (.tail _ (.tail _ (.tail _ (.tail _ (.tail _ (.tail _ (.head _))))))))) 3 rfl;have v0:=hP.ck.cellR (.head _) 0 rfl;have v1:=hP.ck.cellR (.head _) 1 rfl;clear hP;go_wp2_with fail;refine(HP.o.with s s11 sb).mono ?_;rintro e w7 ⟨rfl,y2,hy2,hP⟩;have HY2:=Hd (HY2.o.trans (show _=some y2.p by rw[hy2,hy1,HYP.o]));have HP:=Hd hP;clear hP hy2 hy1 i3 v0 v1;go_upto_region 15 with fail;refine wp_cp HP.o (fun w8 h8=>?_)
      all_goals
       have HP:=Hd h8;have p0:=h8.cell 0 rfl;have p1:=h8.cell 1 rfl;have p2:=h8.cell 2 rfl;have p3:=h8.cell 3 rfl;have h1:=h8.ck.cellR (.tail _ (.tail _ (.head _))) 1 rfl;clear h8;go_wp2_with fail;refine(HP.o.afar (HEW.o true _ HY2.o) HFW.o.1 HFW.o.2).mono ?_;rintro e w9 ⟨rfl,xs2,hx2,hS2⟩;have HX2:=Hd hx2;have HS2:=Hd hS2;clear hx2 hS2 p0 p1 p2 p3 h1;go_wp2;go_round
       case rel=>exact⟨2,xs2,by decide,by go_num,HS2.o.noBox.noBox.noBox,by rw[HX2.o,HX.o,<-HY2.o];rfl⟩
       case measure=>simp[intOf]
    ·go_wp2
     go_end0;have hb:=HS.o.noBox.noBox.noBox.noBox.noBox.noBox.bank;exact⟨_,_,_,_,.inl ⟨by rw[HE.o],rfl,xsj,by rw[HX.o,HE.o];rfl,Bank.noR (B:=[x.regA,x.byA]) hb⟩⟩
end Go.Proofs.YtfeipbgnjainlaaGreatDoor.K
