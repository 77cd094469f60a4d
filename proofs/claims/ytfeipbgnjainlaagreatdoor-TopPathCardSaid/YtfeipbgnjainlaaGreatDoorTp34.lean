/- TCkP -/
import Derived.Test.YtfeipbgnjainlaaGreatDoorTp2
import Derived.Test.YtfeipbgnjainlaaGreatDoorTp4
import Derived.Test.YtfeipbgnjainlaaGreatDoorTp33
set_option linter.unusedVariables false
set_option linter.unusedSimpArgs false
set_option maxRecDepth 100000
set_option maxHeartbeats 8000000
namespace Go.Proofs.YtfeipbgnjainlaaGreatDoor.K
open Go Go.RowKit Go.Maps Go.Sort
section
variable{b o n cl:Nat}{l:List T.Ins}{Wk P c k:Nat}{x:PV}{xs:List PV}{i:T.Ins}{w0 w w':World}{R:List Acc}
theorem CkS.putBytes(h:CkS b o n cl l Wk P c k x xs i w0 w R){g:Nat}{t:TypeId}{bs:List Bool}(hb:Bank w w' [boxAcc g t (bs.map Value.bool)])(hl:bs.length=512):CkS b o n cl l Wk P c k ⟨{ x.p with bytes:=bs },x.gr,x.cr,g,512,t⟩ xs i w0 (w'.setCell ⟨Wk,5,none⟩ (.slice (some ⟨g,0,none⟩) 512 512)) R:=by
 rw[boxAcc_rw (m:=512) (by rw[List.length_map,hl])]at hb;have h1:=(bank_join h.bank hb).bs 1 5 (.slice (some ⟨g,0,none⟩) 512 512);refine { h with bank:=?_,wf:=⟨h.wf.live,h.wf.rl,hl,h.wf.l0,h.wf.ll,h.wf.right⟩ };have h2:=h1.sub (.cons_cons _ (.cons_cons _ (.cons_cons _ (List.Sublist.append (.refl (pvA xs)) (.cons_cons _ (.cons _ (.refl R)))))));refine h2.permB ?_;have:=(List.perm_middle (a:=rwA g 512 512 t 1 (bs.map Value.bool)) (l₁:=boxAcc Wk 89 ((wkL (.slice (some ⟨b,o,none⟩) n cl) P n c k x).set 5 (.slice (some ⟨g,0,none⟩) 512 512))::plsA P n c xs::(pvA xs ++ [x.regA])) (l₂:=R)).symm;simp only[List.append_assoc,List.cons_append,List.nil_append]at this;exact this
end
theorem put_any{b o n cl:Nat}{l:List T.Ins}{Wk P c k:Nat}{x:PV}{xs:List PV}{i:T.Ins}{w0 w:World}{R:List Acc}(h:CkS b o n cl l Wk P c k x xs i w0 w R)(ho:i.op=15):Calls Tryz.prog 77 #[.pointer (some ⟨Wk,0,none⟩),insV i] w (StepP w0 (.slice (some ⟨b,o,none⟩) n cl) Wk P n c k (xs.map PV.p) R (T.cstep i x.p) i.off):=by
 obtain⟨op,nr,dst,src,ui,off,imm,size⟩:=i;have hrf:=T.right_facts h.right;dsimp only at hrf ho;obtain⟨⟨d0,d1⟩,⟨s0,s1⟩,_,_,_,_,_⟩:=hrf;obtain⟨d,rfl⟩:=Int.eq_ofNat_of_zero_le d0;have d11:d<11:=by omega
 have HV0:=Hd (show T.cstep (⟨op,nr,(d:Int),src,ui,off,imm,size⟩:T.Ins) x.p=if T.putErr (⟨op,nr,(d:Int),src,ui,off,imm,size⟩:T.Ins) x.p≠0 then(T.putErr (⟨op,nr,(d:Int),src,ui,off,imm,size⟩:T.Ins) x.p,none,none)else(0,some (x.p.wrote (⟨op,nr,(d:Int),src,ui,off,imm,size⟩:T.Ins)),none)by
  unfold T.cstep
  rw[if_neg (by simp only;omega),if_pos ho])
 have HNX:=Hd (h.next ⟨by simp only;omega,by simp only;omega⟩);have HS:=Hd (h.box [.int .u8 op,.bool nr,.int .i64 (d:Int),.int .i64 src,.bool ui,.int .i64 off,.int .i64 imm,.int .i64 size] 55 (by simp));have hl:x.p.regs.length=11:=h.wf.rl;clear h ho;unfold insV insL;go_enter Tryz.func77,Tryz.ntmps77;go_upto_region 1 with fail;generalize w.heap.size=X at *;change Code.wp _ _ _ _ (w.alloc (.cells #[.int .u8 op,.bool nr,.int .i64 (d:Int),.int .i64 src,.bool ui,.int .i64 off,.int .i64 imm,.int .i64 size] 55));generalize(w.alloc (.cells #[.int .u8 op,.bool nr,.int .i64 (d:Int),.int .i64 src,.bool ui,.int .i64 off,.int .i64 imm,.int .i64 size] 55))=w1 at *;have c4:=HS.o.at 4 rfl;have i0:=HS.o.cellR (.head _) 0 rfl;have i1:=HS.o.cellR (.head _) 1 rfl;have i2:=HS.o.cellR (.head _) 2 rfl;have i3:=HS.o.cellR (.head _) 3 rfl;have i4:=HS.o.cellR (.head _) 4 rfl;have i5:=HS.o.cellR (.head _) 5 rfl;have i6:=HS.o.cellR (.head _) 6 rfl;have i7:=HS.o.cellR (.head _) 7 rfl;obtain⟨e0,e1,e2⟩:=knsL_reg HS.o.regs hl d d11;obtain⟨u,hu⟩:∃u,x.p.reg (d:Int)=u:=⟨_,rfl⟩
 obtain⟨q,hq⟩:∃q,T.second (⟨op,nr,(d:Int),src,ui,off,imm,size⟩:T.Ins) x.p=q:=⟨_,rfl⟩
 rw[hu]at e0 e1 e2;have HQ:=Hd hq;have HU:=Hd hu;have HP:=Hd (show T.putErr (⟨op,nr,(d:Int),src,ui,off,imm,size⟩:T.Ins) x.p=if u.k=0\/q.k=0 then 110 else if u.k=2 then 114 else if u.k≠3 then 111 else if(T.asN x.p q).1≠0 then(T.asN x.p q).1 else T.partErr (T.frameAt u (⟨op,nr,(d:Int),src,ui,off,imm,size⟩:T.Ins)) size by unfold T.putErr;simp only[hu,hq]);have HWR:=Hd (show x.p.wrote (⟨op,nr,(d:Int),src,ui,off,imm,size⟩:T.Ins)={ x.p with bytes:=T.setAll x.p.bytes (512+T.frameAt u (⟨op,nr,(d:Int),src,ui,off,imm,size⟩:T.Ins)).toNat size.toNat }by unfold T.Pl.wrote;simp only[hu]);clear hu hq;have z0:(0:Int)<=(d:Int):=by omega
 have z1:(d:Int)<(11:Int):=by omega
 have KEEP:=Hd (fun w' (S:Since w1 w')=>(show w'.cell? ⟨Wk,4,none⟩=some (.slice (some ⟨x.gr,0,none⟩) 11 x.cr)/\w'.cell? ⟨X,0,none⟩=some (.int .u8 op)/\w'.cell? ⟨X,1,none⟩=some (.bool nr)/\w'.cell? ⟨X,2,none⟩=some (.int .i64 (d:Int))/\w'.cell? ⟨X,3,none⟩=some (.int .i64 src)/\w'.cell? ⟨X,4,none⟩=some (.bool ui)/\w'.cell? ⟨X,5,none⟩=some (.int .i64 off)/\w'.cell? ⟨X,6,none⟩=some (.int .i64 imm)/\w'.cell? ⟨X,7,none⟩=some (.int .i64 size)/\w'.cell? ⟨x.gr,d*3,none⟩=some (.int .u8 u.k)/\w'.cell? ⟨x.gr,d*3+1,none⟩=some (W64 u.s.lo)/\w'.cell? ⟨x.gr,d*3+2,none⟩=some (W64 u.s.hi)from⟨S.keep c4,S.keep i0,S.keep i1,S.keep i2,S.keep i3,S.keep i4,S.keep i5,S.keep i6,S.keep i7,S.keep e0,S.keep e1,S.keep e2⟩));go_cut [4,5] (fun s4 s5 wx=>∃A B,s4=.pointer (some ⟨A,0,none⟩)/\s5=.pointer (some ⟨B,0,none⟩)/\CkS b o n cl l Wk P c k x xs (⟨op,nr,(d:Int),src,ui,off,imm,size⟩:T.Ins) w0 wx (boxAcc B 124 [.int .u8 q.k,W64 q.s.lo,W64 q.s.hi]::boxAcc A 124 [.int .u8 u.k,W64 u.s.lo,W64 u.s.hi]::boxAcc X 55 [.int .u8 op,.bool nr,.int .i64 (d:Int),.int .i64 src,.bool ui,.int .i64 off,.int .i64 imm,.int .i64 size]::R))
 case first =>
  have ST:=Hd (show Since w1 w1.drew from(Below.refl _ _).drew);have HS:=Hd HS.o.drew;refine WL.begin 14 (fun w'=>w'.cell? ⟨Wk,4,none⟩=some (.slice (some ⟨x.gr,0,none⟩) 11 x.cr)/\w'.cell? ⟨X,0,none⟩=some (.int .u8 op)/\w'.cell? ⟨X,1,none⟩=some (.bool nr)/\w'.cell? ⟨X,2,none⟩=some (.int .i64 (d:Int))/\w'.cell? ⟨X,3,none⟩=some (.int .i64 src)/\w'.cell? ⟨X,4,none⟩=some (.bool ui)/\w'.cell? ⟨X,5,none⟩=some (.int .i64 off)/\w'.cell? ⟨X,6,none⟩=some (.int .i64 imm)/\w'.cell? ⟨X,7,none⟩=some (.int .i64 size)/\w'.cell? ⟨x.gr,d*3,none⟩=some (.int .u8 u.k)/\w'.cell? ⟨x.gr,d*3+1,none⟩=some (W64 u.s.lo)/\w'.cell? ⟨x.gr,d*3+2,none⟩=some (W64 u.s.hi)) (fun _=>True) (by kernel_rfl) (KEEP.o _ ST.o) trivial (fun hs=>?_);generalize w1.drew=wz at *
  repeat' first
   | (with_reducible refine StepL.at 11 ?_
      intro K hK;go_simp;refine(second_any Wk x.gr x.cr x.p (⟨op,nr,(d:Int),src,ui,off,imm,size⟩:T.Ins) _ (HS.o.at 4 rfl) HS.o.regs hl ⟨s0,s1⟩).mono ?_;rintro e wz ⟨rfl,hs⟩;have HS:=Hd (HS.o.call hs);have ST:=Hd (ST.o.add hs);clear hs;rw[HQ.o];unfold knv;refine hK.o _ _ (SApp.intro (fun _=>KEEP.o _ ST.o) trivial) ?_
      clear hK K;intro hs;try simp only[Act.put,sA,sZ,sS])
   | (with_reducible refine StepL.at 12 ?_
      intro K hK;go_simp;have HS:=Hd (HS.o.box [.int .u8 0,W64 0#64,W64 0#64] 124 (by simp));have ST:=Hd (ST.o.alloc (.cells #[.int .u8 0,W64 0#64,W64 0#64] 124));refine hK.o _ _ (SApp.intro (fun _=>KEEP.o _ ST.o) trivial) ?_;generalize wz.heap.size=A at *;generalize(wz.alloc (.cells #[.int .u8 0,W64 0#64,W64 0#64] 124))=wz at *
      clear hK K;intro hs;try simp only[Act.put,sA,sZ,sS])
   | (with_reducible refine StepL.at 13 ?_
      intro K hK;go_simp;have HS:=Hd (HS.o.box [.int .u8 0,W64 0#64,W64 0#64] 124 (by simp));have ST:=Hd (ST.o.alloc (.cells #[.int .u8 0,W64 0#64,W64 0#64] 124));refine hK.o _ _ (SApp.intro (fun _=>KEEP.o _ ST.o) trivial) ?_;generalize wz.heap.size=B at *;generalize(wz.alloc (.cells #[.int .u8 0,W64 0#64,W64 0#64] 124))=wz at *
      clear hK K;intro hs;try simp only[Act.put,sA,sZ,sS])
   | (with_reducible refine StepL.at 14 ?_
      intro K hK;have HS:RowKit.Hid (CkS b o n cl l Wk P c k x xs (⟨op,nr,(d:Int),src,ui,off,imm,size⟩:T.Ins) w0 wz (boxAcc A 124 [.int .u8 0,W64 0#64,W64 0#64]::boxAcc B 124 [.int .u8 0,W64 0#64,W64 0#64]::boxAcc X 55 [.int .u8 op,.bool nr,.int .i64 (d:Int),.int .i64 src,.bool ui,.int .i64 off,.int .i64 imm,.int .i64 size]::R)):=by first|exact HS|exact Hd HS.o.swapR
      have b0:=HS.o.cellR (.head _) 0 rfl;have b1:=HS.o.cellR (.head _) 1 rfl;have b2:=HS.o.cellR (.head _) 2 rfl;have fb0:=HS.o.freeR (.head _) 0;have fb1:=HS.o.freeR (.head _) 1;have fb2:=HS.o.freeR (.head _) 2;go_simp;have HS:=Hd (((HS.o.set1 0 (.int .u8 u.k)).set1 1 (W64 u.s.lo)).set1 2 (W64 u.s.hi));clear b0 b1 b2 fb0 fb1 fb2;refine hK.o _ _ SaF ?_
      clear hK K;intro hs;try simp only[Act.put])
   | (with_reducible refine StepL.at 15 ?_
      intro K hK;have HS:=Hd HS.o.swapR;have b0:=HS.o.cellR (.head _) 0 rfl;have b1:=HS.o.cellR (.head _) 1 rfl;have b2:=HS.o.cellR (.head _) 2 rfl;have fb0:=HS.o.freeR (.head _) 0;have fb1:=HS.o.freeR (.head _) 1;have fb2:=HS.o.freeR (.head _) 2;go_simp;have HS:=Hd (((HS.o.set1 0 (.int .u8 q.k)).set1 1 (W64 q.s.lo)).set1 2 (W64 q.s.hi));clear b0 b1 b2 fb0 fb1 fb2;refine hK.o _ _ SaF ?_
      clear hK K;intro hs;try simp only[Act.put])
   | (refine WL.tp (i:=0) (v:=?_) rfl (by decide +kernel) (fun _ _ _ h=>h) hs (Or.inl ⟨by kernel_rfl,?_⟩) ?_;rotate_left;· intro w hc;go_simp<;>rfl
      clear hs;intro hs;simp only[Act.put,sA,sZ,sS])
   | (refine WL.tp (i:=1) (v:=?_) rfl (by decide +kernel) (fun _ _ _ h=>h) hs (Or.inl ⟨by kernel_rfl,?_⟩) ?_;rotate_left;· intro w hc;go_simp<;>rfl
      clear hs;intro hs;simp only[Act.put,sA,sZ,sS])
   | (refine WL.tp (i:=2) (v:=?_) rfl (by decide +kernel) (fun _ _ _ h=>h) hs (Or.inl ⟨by kernel_rfl,?_⟩) ?_;rotate_left;· intro w hc;go_simp<;>rfl
      clear hs;intro hs;simp only[Act.put,sA,sZ,sS])
   | (refine WL.tp (i:=3) (v:=?_) rfl (by decide +kernel) (fun _ _ _ h=>h) hs (Or.inl ⟨by kernel_rfl,?_⟩) ?_;rotate_left;· intro w hc;go_simp<;>rfl
      clear hs;intro hs;simp only[Act.put,sA,sZ,sS])
   | (refine WL.tl [4] (i:=4) (v:=?_) rfl (by decide +kernel) (by kernel_rfl) (fun _ _ _ h=>h) hs (Or.inl ⟨by kernel_rfl,?_⟩) ?_;rotate_left;· intro w hc;go_simp<;>rfl
      clear hs;intro hs;simp only[Act.put,sA,sZ,sS])
   | (refine WL.tp (i:=5) (v:=?_) rfl (by decide +kernel) (fun _ _ _ h=>h) hs (Or.inl ⟨by kernel_rfl,?_⟩) ?_;rotate_left;· intro w hc;go_simp<;>rfl
      clear hs;intro hs;simp only[Act.put,sA,sZ,sS])
   | (refine WL.tl [6] (i:=6) (v:=?_) rfl (by decide +kernel) (by kernel_rfl) (fun _ _ _ h=>h) hs (Or.inl ⟨by kernel_rfl,?_⟩) ?_;rotate_left;· intro w hc;go_simp<;>rfl
      clear hs;intro hs;simp only[Act.put,sA,sZ,sS])
   | (refine WL.tp (i:=7) (v:=?_) rfl (by decide +kernel) (fun _ _ _ h=>h) hs (Or.inl ⟨by kernel_rfl,?_⟩) ?_;rotate_left;· intro w hc;go_simp<;>rfl
      clear hs;intro hs;simp only[Act.put,sA,sZ,sS])
   | (refine WL.tl [8] (i:=8) (v:=?_) rfl (by decide +kernel) (by kernel_rfl) (fun _ _ _ h=>h) hs (Or.inl ⟨by kernel_rfl,?_⟩) ?_;rotate_left;· intro w hc;go_simp<;>rfl
      clear hs;intro hs;simp only[Act.put,sA,sZ,sS])
   | (refine WL.tp (i:=9) (v:=?_) rfl (by decide +kernel) (fun _ _ _ h=>h) hs (Or.inl ⟨by kernel_rfl,?_⟩) ?_;rotate_left;· intro w hc;go_simp<;>rfl
      clear hs;intro hs;simp only[Act.put,sA,sZ,sS])
   | (refine WL.tl [11,10] (i:=10) (v:=?_) rfl (by decide +kernel) (by kernel_rfl) (fun _ _ _ h=>h) hs (Or.inl ⟨by kernel_rfl,?_⟩) ?_;rotate_left;· intro w hc;go_simp<;>rfl
      clear hs;intro hs;simp only[Act.put,sA,sZ,sS])
   | (refine WL.s1 (i:=11) (by decide +kernel) rfl hs ?_<;>clear hs)
   | (refine WL.o2 (i:=11) (j:=12) (by decide +kernel) rfl rfl hs ?_ ?_<;>clear hs)
   | (refine WL.o3 (i:=11) (j:=12) (k:=13) (by decide +kernel) rfl rfl rfl hs ?_ ?_ ?_<;>clear hs)
   | (refine WL.o2 (i:=11) (j:=13) (by decide +kernel) rfl rfl hs ?_ ?_<;>clear hs)
   | (refine WL.s1 (i:=12) (by decide +kernel) rfl hs ?_<;>clear hs)
   | (refine WL.o2 (i:=12) (j:=13) (by decide +kernel) rfl rfl hs ?_ ?_<;>clear hs)
   | (refine WL.s1 (i:=13) (by decide +kernel) rfl hs ?_<;>clear hs)
   | (refine WL.s1 (i:=14) (by decide +kernel) rfl hs ?_<;>clear hs)
   | (refine WL.s1 (i:=15) (by decide +kernel) rfl hs ?_<;>clear hs)
   | (clear hs;refine WL.done (by decide +kernel) ?_ _;try simp only[Exit.then]
      go_wp2_with fail;go_meet
      exact⟨_,_,rfl,rfl,HS.o⟩)
 case rest =>
  obtain⟨A,B,rfl,rfl,hS⟩:=hcut;have HS:=Hd hS;have a0:=hS.cellR (.tail _ (.head _)) 0 rfl;have b0:=hS.cellR (.head _) 0 rfl;clear hS c4 i0 i1 i2 i3 i4 i5 i6 i7 e0 e1 e2 KEEP;by_cases h0:u.k=0
  ·have HV:=Hd (show(T.cstep (⟨op,nr,(d:Int),src,ui,off,imm,size⟩:T.Ins) x.p).1=110 by rw[HV0.o,HP.o,if_pos (show u.k=0\/q.k=0 from .inl h0)];rfl)
   have eu:(u.k==0)=true:=by simpa using h0
   clear h0;go_wp2_with fail;refine(fail_yes 110 _).mono ?_;rintro e wm ⟨rfl,rfl⟩;exact⟨rfl,HS.o.noBox.noBox.noBox.bad rfl HV.o (by decide)⟩
  have eu:(u.k==0)=false:=by simpa using h0
  by_cases hq0:q.k=0
  ·have HV:=Hd (show(T.cstep (⟨op,nr,(d:Int),src,ui,off,imm,size⟩:T.Ins) x.p).1=110 by rw[HV0.o,HP.o,if_pos (show u.k=0\/q.k=0 from .inr hq0)];rfl)
   have eq:(q.k==0)=true:=by simpa using hq0
   clear h0 hq0;go_wp2_with fail;refine(fail_yes 110 _).mono ?_;rintro e wm ⟨rfl,rfl⟩;exact⟨rfl,HS.o.noBox.noBox.noBox.bad rfl HV.o (by decide)⟩
  have eq:(q.k==0)=false:=by simpa using hq0
  have HP:=Hd (HP.o.trans (if_neg (by omega)));clear h0 hq0;go_wp2_with fail;refine(fail_no 110 _).mono ?_;rintro e wm ⟨rfl,rfl⟩;by_cases h2:u.k=2
  ·have HV:=Hd (show(T.cstep (⟨op,nr,(d:Int),src,ui,off,imm,size⟩:T.Ins) x.p).1=114 by rw[HV0.o,HP.o,if_pos h2];rfl)
   have e2:(u.k==2)=true:=by simpa using h2
   clear h2;go_wp2_with fail;refine(fail_yes 114 _).mono ?_;rintro e wm ⟨rfl,rfl⟩;exact⟨rfl,HS.o.noBox.noBox.noBox.bad rfl HV.o (by decide)⟩
  have e2:(u.k==2)=false:=by simpa using h2
  have HP:=Hd (HP.o.trans (if_neg h2));clear h2;go_wp2_with fail;refine(fail_no 114 _).mono ?_;rintro e wm ⟨rfl,rfl⟩;by_cases h3:u.k=3
  case' neg =>
   have HV:=Hd (show(T.cstep (⟨op,nr,(d:Int),src,ui,off,imm,size⟩:T.Ins) x.p).1=111 by rw[HV0.o,HP.o,if_pos h3];rfl);have e3:(u.k != 3)=true:=by simpa using h3
   clear h3;go_wp2_with fail;refine(fail_yes 111 _).mono ?_;rintro e wm ⟨rfl,rfl⟩;exact⟨rfl,HS.o.noBox.noBox.noBox.bad rfl HV.o (by decide)⟩
  have e3:(u.k != 3)=false:=by simpa using h3
  have HP:=Hd (HP.o.trans (if_neg (by simpa using h3)));clear h3;go_wp2_with fail;refine(fail_no 111 _).mono ?_;rintro e wm ⟨rfl,rfl⟩;have b1:=HS.o.cellR (.head _) 1 rfl;have b2:=HS.o.cellR (.head _) 2 rfl;go_wp2_with fail;refine(numberC_any Wk x.p.least q _ (HS.o.at 6 rfl) HS.o.wf.l0 HS.o.wf.ll).mono ?_;rintro e wn (⟨hz,rfl,hs⟩|⟨hz,rfl,hs⟩)
  case inr=>exact⟨rfl,(HS.o.call hs).noBox.noBox.noBox.bad rfl (by rw[HV0.o,HP.o,asN_numR,if_pos hz,if_pos hz]) hz⟩
  have HP:=Hd (HP.o.trans (show _=T.partErr (T.frameAt u (⟨op,nr,(d:Int),src,ui,off,imm,size⟩:T.Ins)) size by rw[asN_numR,hz];rfl));have HS:=Hd (HS.o.call hs);clear hz hs a0 b0 b1 b2 eu eq e2 e3;have HFA:=Hd (frameAt_range u (⟨op,nr,(d:Int),src,ui,off,imm,size⟩:T.Ins));have c5:=HS.o.at 5 rfl;have a0:=HS.o.cellR (.tail _ (.head _)) 0 rfl;have a1:=HS.o.cellR (.tail _ (.head _)) 1 rfl;have a2:=HS.o.cellR (.tail _ (.head _)) 2 rfl;have i0:=HS.o.cellR (.tail _ (.tail _ (.head _))) 0 rfl;have i1:=HS.o.cellR (.tail _ (.tail _ (.head _))) 1 rfl;have i2:=HS.o.cellR (.tail _ (.tail _ (.head _))) 2 rfl;have i3:=HS.o.cellR (.tail _ (.tail _ (.head _))) 3 rfl;have i4:=HS.o.cellR (.tail _ (.tail _ (.head _))) 4 rfl;have i5:=HS.o.cellR (.tail _ (.tail _ (.head _))) 5 rfl;have i6:=HS.o.cellR (.tail _ (.tail _ (.head _))) 6 rfl;have i7:=HS.o.cellR (.tail _ (.tail _ (.head _))) 7 rfl;have KEEP:=Hd (fun w' (S:Since wn w')=>(show w'.cell? ⟨Wk,5,none⟩=some (.slice (some ⟨x.gb,0,none⟩) 512 x.cb)/\w'.cell? ⟨A,0,none⟩=some (.int .u8 u.k)/\w'.cell? ⟨A,1,none⟩=some (W64 u.s.lo)/\w'.cell? ⟨A,2,none⟩=some (W64 u.s.hi)/\w'.cell? ⟨X,0,none⟩=some (.int .u8 op)/\w'.cell? ⟨X,1,none⟩=some (.bool nr)/\w'.cell? ⟨X,2,none⟩=some (.int .i64 (d:Int))/\w'.cell? ⟨X,3,none⟩=some (.int .i64 src)/\w'.cell? ⟨X,4,none⟩=some (.bool ui)/\w'.cell? ⟨X,5,none⟩=some (.int .i64 off)/\w'.cell? ⟨X,6,none⟩=some (.int .i64 imm)/\w'.cell? ⟨X,7,none⟩=some (.int .i64 size)from⟨S.keep c5,S.keep a0,S.keep a1,S.keep a2,S.keep i0,S.keep i1,S.keep i2,S.keep i3,S.keep i4,S.keep i5,S.keep i6,S.keep i7⟩));have ST:=Hd (show Since wn wn.drew from(Below.refl _ _).drew);go_upto_region 6 with fail;have HS:=Hd HS.o.drew;by_cases hpe:T.partErr (T.frameAt u (⟨op,nr,(d:Int),src,ui,off,imm,size⟩:T.Ins)) size=0
  case' neg =>
   have HPE:=Hd hpe;have HV:=Hd (show(T.cstep (⟨op,nr,(d:Int),src,ui,off,imm,size⟩:T.Ins) x.p).1=T.partErr (T.frameAt u (⟨op,nr,(d:Int),src,ui,off,imm,size⟩:T.Ins)) size by rw[HV0.o,HP.o,if_pos hpe]);clear hpe;refine WL.begin 14 (fun w'=>w'.cell? ⟨Wk,5,none⟩=some (.slice (some ⟨x.gb,0,none⟩) 512 x.cb)/\w'.cell? ⟨A,0,none⟩=some (.int .u8 u.k)/\w'.cell? ⟨A,1,none⟩=some (W64 u.s.lo)/\w'.cell? ⟨A,2,none⟩=some (W64 u.s.hi)/\w'.cell? ⟨X,0,none⟩=some (.int .u8 op)/\w'.cell? ⟨X,1,none⟩=some (.bool nr)/\w'.cell? ⟨X,2,none⟩=some (.int .i64 (d:Int))/\w'.cell? ⟨X,3,none⟩=some (.int .i64 src)/\w'.cell? ⟨X,4,none⟩=some (.bool ui)/\w'.cell? ⟨X,5,none⟩=some (.int .i64 off)/\w'.cell? ⟨X,6,none⟩=some (.int .i64 imm)/\w'.cell? ⟨X,7,none⟩=some (.int .i64 size)) (fun _=>True) (by kernel_rfl) (KEEP.o _ ST.o) trivial (fun hs=>?_);refine WL.tk [(0,[]),(1,[]),(2,[]),(3,[]),(4,[4]),(5,[5]),(6,[6]),(8,[]),(9,[9])] hs ?_;clear hs
   iterate 9
    (first|refine WLp ?_ ?_ ?_|refine WLl ?_ ?_ ?_);rotate_left
    ·intro w hc;go_simp<;>rfl
    simp only[Act.put,sA,sZ,sS]
   refine TKs.mk ?_;intro hs;refine WLo 7 hs ?_;clear hs;intro K hK;go_simp;refine(frameC_any u (⟨op,nr,(d:Int),src,ui,off,imm,size⟩:T.Ins) _).mono ?_;rintro e wk ⟨rfl,hs⟩;have HS:=Hd (HS.o.call hs);have ST:=Hd (ST.o.add hs);clear hs;refine hK.o _ _ (SApp.intro (fun _=>KEEP.o _ ST.o) trivial) ?_;clear hK K;intro hs;try simp only[Act.put,sA,sZ,sS]
   refine WLo 10 hs ?_;clear hs;intro K hK;go_simp;refine(stkSet_any x.gb 0 x.cb (T.frameAt u (⟨op,nr,(d:Int),src,ui,off,imm,size⟩:T.Ins)) size x.p.bytes _ HFA.o.1 HFA.o.2 HS.o.wf.bl HS.o.ycap HS.o.bytes.bo).mono ?_;rintro e wk (⟨hn,_⟩|⟨_,rfl,hs⟩)
   case inl=>exact absurd hn HPE.o
   have HS:=Hd (HS.o.call hs);have ST:=Hd (ST.o.add hs);clear hs;refine hK.o _ _ (SApp.intro (fun _=>KEEP.o _ ST.o) trivial) ?_;clear hK K;intro hs;try simp only[Act.put,sA,sZ,sS]
   refine WL.tk [(11,[]),(12,[]),(13,[])] hs ?_;clear hs
   iterate 3
    (first|refine WLp ?_ ?_ ?_|refine WLl ?_ ?_ ?_);rotate_left
    ·intro w hc;go_simp<;>rfl
    simp only[Act.put,sA,sZ,sS]
   refine TKs.mk ?_;intro hs;refine WLo 14 hs ?_;clear hs;intro K hK;go_simp;refine hK.o _ _ SaF ?_;clear hK K;intro hs;try simp only[Act.put,sA,sZ,sS]
   refine WLo 15 hs ?_;clear hs;intro K hK;go_simp;refine hK.o _ _ SaF ?_;clear hK K;intro hs;try simp only[Act.put,sA,sZ,sS]
   clear hs;refine WLd ?_ _;try simp only[Exit.then]
   clear c5 a0 a1 a2 i0 i1 i2 i3 i4 i5 i6 i7;go_wp2_with fail;refine(mustC_any _ _).mono ?_;rintro e wm (⟨hn,_⟩|⟨_,rfl,rfl⟩)
   case inl=>exact absurd hn HPE.o
   exact⟨rfl,HS.o.noBox.noBox.noBox.bad rfl HV.o HPE.o⟩
  have HPE:=Hd hpe;have HV2:=Hd (show T.cstep (⟨op,nr,(d:Int),src,ui,off,imm,size⟩:T.Ins) x.p=(0,some (x.p.wrote (⟨op,nr,(d:Int),src,ui,off,imm,size⟩:T.Ins)),none)by rw[HV0.o,HP.o,hpe];rfl);clear hpe;refine WL.begin 14 (fun w'=>w'.cell? ⟨Wk,5,none⟩=some (.slice (some ⟨x.gb,0,none⟩) 512 x.cb)/\w'.cell? ⟨A,0,none⟩=some (.int .u8 u.k)/\w'.cell? ⟨A,1,none⟩=some (W64 u.s.lo)/\w'.cell? ⟨A,2,none⟩=some (W64 u.s.hi)/\w'.cell? ⟨X,0,none⟩=some (.int .u8 op)/\w'.cell? ⟨X,1,none⟩=some (.bool nr)/\w'.cell? ⟨X,2,none⟩=some (.int .i64 (d:Int))/\w'.cell? ⟨X,3,none⟩=some (.int .i64 src)/\w'.cell? ⟨X,4,none⟩=some (.bool ui)/\w'.cell? ⟨X,5,none⟩=some (.int .i64 off)/\w'.cell? ⟨X,6,none⟩=some (.int .i64 imm)/\w'.cell? ⟨X,7,none⟩=some (.int .i64 size)) (fun _=>True) (by kernel_rfl) (KEEP.o _ ST.o) trivial (fun hs=>?_);refine WL.tk [(0,[]),(1,[]),(2,[]),(3,[]),(4,[4]),(5,[5]),(6,[6]),(8,[]),(9,[9])] hs ?_;clear hs
  iterate 9
   (first|refine WLp ?_ ?_ ?_|refine WLl ?_ ?_ ?_);rotate_left
   ·intro w hc;go_simp<;>rfl
   simp only[Act.put,sA,sZ,sS]
  refine TKs.mk ?_;intro hs;refine WLo 7 hs ?_;clear hs;intro K hK;go_simp;refine(frameC_any u (⟨op,nr,(d:Int),src,ui,off,imm,size⟩:T.Ins) _).mono ?_;rintro e wk ⟨rfl,hs⟩;have HS:=Hd (HS.o.call hs);have ST:=Hd (ST.o.add hs);clear hs;refine hK.o _ _ (SApp.intro (fun _=>KEEP.o _ ST.o) trivial) ?_;clear hK K;intro hs;try simp only[Act.put,sA,sZ,sS]
  refine WLo 10 hs ?_;clear hs;intro K hK;go_simp;refine(stkSet_any x.gb 0 x.cb (T.frameAt u (⟨op,nr,(d:Int),src,ui,off,imm,size⟩:T.Ins)) size x.p.bytes _ HFA.o.1 HFA.o.2 HS.o.wf.bl HS.o.ycap HS.o.bytes.bo).mono ?_;rintro e wk (⟨_,v,rfl,g,t,rfl,hb⟩|⟨hn,_⟩)
  case inr=>exact absurd HPE.o hn
  have HB:=Hd hb;have HSB:=Hd HS.o;have HS:=Hd (HS.o.call hb.since);have ST:=Hd (ST.o.add hb.since);clear hb;refine hK.o _ _ (SApp.intro (fun _=>KEEP.o _ ST.o) trivial) ?_;clear hK K;intro hs;try simp only[Act.put,sA,sZ,sS]
  refine WL.tk [(11,[]),(12,[]),(13,[])] hs ?_;clear hs
  iterate 3
   (first|refine WLp ?_ ?_ ?_|refine WLl ?_ ?_ ?_);rotate_left
   ·intro w hc;go_simp<;>rfl
   simp only[Act.put,sA,sZ,sS]
  refine TKs.mk ?_;intro hs;refine WLo 14 hs ?_;clear hs;intro K hK;go_simp;refine hK.o _ _ SaF ?_;clear hK K;intro hs;try simp only[Act.put,sA,sZ,sS]
  refine WLo 15 hs ?_;clear hs;intro K hK;go_simp;refine hK.o _ _ SaF ?_;clear hK K;intro hs;try simp only[Act.put,sA,sZ,sS]
  clear hs;refine WLd ?_ _;try simp only[Exit.then]
  clear c5 a0 a1 a2 i0 i1 i2 i3 i4 i5 i6 i7;go_wp2_with fail;refine(mustC_any _ _).mono ?_;rintro e wm (⟨_,rfl,rfl⟩|⟨hn,_⟩)
  case inr=>exact absurd rfl hn
  have c5:=HS.o.at 5 rfl;have f5:=HS.o.free 5;go_upto_region 9 with fail;refine wp_ck (R:=boxAcc B 124 [.int .u8 q.k,W64 q.s.lo,W64 q.s.hi]::boxAcc A 124 [.int .u8 u.k,W64 u.s.lo,W64 u.s.hi]::boxAcc X 55 [.int .u8 op,.bool nr,.int .i64 (d:Int),.int .i64 src,.bool ui,.int .i64 off,.int .i64 imm,.int .i64 size]::R) (HSB.o.putBytes HB.o (by rw[T.setAll_length];exact HSB.o.wf.bl)) (fun w9 h9=>?_);clear c5 f5;have c3:=h9.at 3 rfl;have c4:=h9.at 4 rfl;have c5:=h9.at 5 rfl;have c6:=h9.at 6 rfl;have HS9:=Hd h9;clear h9;go_wp2_with fail;refine(HS9.o.ahead HNX.o).mono ?_;rintro e wz hst;obtain⟨va,vb,vd,ve,⟨_,rfl,xs',hx,hb⟩|⟨hn,_⟩⟩:=hst.noZ.noZ.noZ
  case inr=>exact absurd rfl hn
  have HX:=Hd hx;have HB2:=Hd hb;clear hst hx hb c3 c4 c5 c6;go_wp2;go_end0;exact⟨va,vb,vd,ve,.inl ⟨by rw[HV2.o],rfl,xs',by rw[HV2.o,HWR.o];exact HX.o,HB2.o⟩⟩
end Go.Proofs.YtfeipbgnjainlaaGreatDoor.K
