/- TYr -/
import Derived.Test.YtfeipbgnjainlaaGreatDoorTp10
import Derived.Test.YtfeipbgnjainlaaGreatDoorTp2
import Derived.Test.YtfeipbgnjainlaaGreatDoorTp4
import Derived.Test.YtfeipbgnjainlaaGreatDoorTp28
import Derived.Test.YtfeipbgnjainlaaGreatDoorTp36
set_option linter.unusedVariables false
set_option linter.unusedSimpArgs false
set_option maxRecDepth 100000
set_option maxHeartbeats 8000000
namespace Go.Proofs.YtfeipbgnjainlaaGreatDoor.K
open Go Go.RowKit Go.Maps Go.Sort
theorem rk8{w0 w:World}{I:Nat}{L:List Acc}(h:Bank w0 w L){i:T.Ins}(hI:∀k v,(insL i)[k]?=some v->w0.cell? ⟨I,k,none⟩=some v):w.cell? ⟨I,0,none⟩=some (.int .u8 i.op)/\w.cell? ⟨I,1,none⟩=some (.bool i.narrow)/\w.cell? ⟨I,2,none⟩=some (.int .i64 i.dst)/\w.cell? ⟨I,3,none⟩=some (.int .i64 i.src)/\w.cell? ⟨I,4,none⟩=some (.bool i.useImm)/\w.cell? ⟨I,5,none⟩=some (.int .i64 i.off)/\w.cell? ⟨I,6,none⟩=some (.int .i64 i.imm)/\w.cell? ⟨I,7,none⟩=some (.int .i64 i.size) :=
 ⟨h.since.keep (hI 0 _ rfl),h.since.keep (hI 1 _ rfl),h.since.keep (hI 2 _ rfl),h.since.keep (hI 3 _ rfl),h.since.keep (hI 4 _ rfl),h.since.keep (hI 5 _ rfl),h.since.keep (hI 6 _ rfl),h.since.keep (hI 7 _ rfl)⟩
theorem r1f{a b c d e f g h i j k l m n o:Prop}(x:a/\b/\c/\d/\e/\f/\g/\h)(y:i/\j/\k/\l)(z:m/\n/\o):a/\b/\c/\d/\e/\f/\g/\h/\i/\j/\k/\l/\m/\n/\o:=⟨x.1,x.2.1,x.2.2.1,x.2.2.2.1,x.2.2.2.2.1,x.2.2.2.2.2.1,x.2.2.2.2.2.2.1,x.2.2.2.2.2.2.2,y.1,y.2.1,y.2.2.1,y.2.2.2,z⟩
theorem r7f{a b c d e f g h i j k l m n o p:Prop}(x:a/\b/\c/\d/\e/\f/\g/\h)(y:i/\j/\k/\l)(z:m/\n)(u:o/\p):a/\b/\c/\d/\e/\f/\g/\h/\i/\j/\k/\l/\m/\n/\o/\p:=⟨x.1,x.2.1,x.2.2.1,x.2.2.2.1,x.2.2.2.2.1,x.2.2.2.2.2.1,x.2.2.2.2.2.2.1,x.2.2.2.2.2.2.2,y.1,y.2.1,y.2.2.1,y.2.2.2,z.1,z.2,u⟩
theorem tyBranch1_ok(I:Nat)(y:PV)(i:T.Ins)(M N:T.Sp)(w:World)(hw:y.p.Wf)(hr:PRd w y)(hI:∀k v,(insL i)[k]?=some v->w.cell? ⟨I,k,none⟩=some v)(hir:i.right=true)(ho:17<=i.op/\i.op<=27)(hM:T.asN y.p (y.p.reg i.dst)=(0,M))(hN:T.asN y.p (T.second i y.p)=(0,N)):
  Calls Tryz.prog 180 #[PlV y,.pointer (some ⟨I,0,none⟩)] w (RuleT w (T.ended i y.p false M N) (T.ended i y.p true M N)):=by
 have hf:=T.right_facts hir;have HE:=Hd (show ∀b w',Since w w'->Calls Tryz.prog 181 #[insV i,PlV y,.bool b,spv M,spv N] w' (EndP w' (T.ended i y.p b M N))from fun b w' hs=>tyEnd_ok y i b M N w' hw (hr.since hs) hir ho hM hN);obtain⟨op,nr,dst,src,u,off,imm,size⟩:=i;obtain⟨⟨d0,d1⟩,hs,_⟩:=hf;simp only at d0 d1 hs ho hM hN;obtain⟨d,rfl⟩:=Int.eq_ofNat_of_zero_le d0;have d11:d<11:=by omega
 have z0:(0:Int)<=(d:Int):=by omega
 have z1:(d:Int)<(11:Int):=by omega
 obtain⟨q,hq⟩:∃q,T.second ⟨op,nr,(d:Int),src,u,off,imm,size⟩ y.p=q:=⟨_,rfl⟩
 obtain⟨x,hx⟩:∃x,y.p.reg (d:Int)=x:=⟨_,rfl⟩
 rw[hq]at hN;rw[hx]at hM;have HI:=Hd hI
 have HX:=Hd (show ∀w',Since w w'->w'.cell? ⟨y.gr,d*3,none⟩=some (.int .u8 x.k)/\w'.cell? ⟨y.gr,d*3+1,none⟩=some (W64 x.s.lo)/\w'.cell? ⟨y.gr,d*3+2,none⟩=some (W64 x.s.hi)from fun w' hs=>by
  have h:=knsReg (hr.since hs).1 hw.rl d d11;rw[hx]at h
  exact h)
 have HP:=Hd (show ∀w',Since w w'->Calls Tryz.prog 175 #[.agg #[.int .u8 op,.bool nr,.int .i64 (d:Int),.int .i64 src,.bool u,.int .i64 off,.int .i64 imm,.int .i64 size],.agg #[.bool true,.slice (some ⟨y.gr,0,none⟩) 11 y.cr,.slice (some ⟨y.gb,0,none⟩) 512 y.cb,.int .i64 y.p.least]] w' (Ret w' (.agg #[.int .u8 q.k,W64 q.s.lo,W64 q.s.hi]))from fun w' h=>by rw[<-hq];exact tyPart_any y ⟨op,nr,(d:Int),src,u,off,imm,size⟩ w' (hr.since h).1 hw.rl hs)
 have HNM:=Hd (show ∀w',Calls Tryz.prog 140 #[.agg #[.int .u8 x.k,W64 x.s.lo,W64 x.s.hi],.agg #[.bool true,.slice (some ⟨y.gr,0,none⟩) 11 y.cr,.slice (some ⟨y.gb,0,none⟩) 512 y.cb,.int .i64 y.p.least]] w' (Ret w' (.tuple #[.agg #[W64 M.lo,W64 M.hi],.nilIface]))from fun w'=>by
  have h:=tyNumber_ok y x w' hw.l0 hw.ll (by rw[hM]);rw[hM]at h
  exact h)
 have HNN:=Hd (show ∀w',Calls Tryz.prog 140 #[.agg #[.int .u8 q.k,W64 q.s.lo,W64 q.s.hi],.agg #[.bool true,.slice (some ⟨y.gr,0,none⟩) 11 y.cr,.slice (some ⟨y.gb,0,none⟩) 512 y.cb,.int .i64 y.p.least]] w' (Ret w' (.tuple #[.agg #[W64 N.lo,W64 N.hi],.nilIface]))from fun w'=>by
  have h:=tyNumber_ok y q w' hw.l0 hw.ll (by rw[hN]);rw[hN]at h
  exact h)
 unfold insV insL PlV spv at HE;unfold PlV;clear hw hr hI hir ho hM hN hs hq hx d0 d1;have BK0:=bk3 w [.bool true,.slice (some ⟨y.gr,0,none⟩) 11 y.cr,.slice (some ⟨y.gb,0,none⟩) 512 y.cb,.int .i64 y.p.least] 87 [.bool false,.slice none 0 0,.slice none 0 0,.int .i64 0] 87 [.bool false,.slice none 0 0,.slice none 0 0,.int .i64 0] 87;go_enter Tryz.func180,Tryz.ntmps180;go_upto_region 1 with fail;generalize w.heap.size=X at *;refine wp_hid BK0 (fun w1 BK0=>?_);go_cut [6,7] (fun s6 s7 wx=>∃A B,s6=.pointer (some ⟨A,0,none⟩)/\s7=.pointer (some ⟨B,0,none⟩)/\Bank w wx (boxAcc A 124 [.int .u8 x.k,W64 x.s.lo,W64 x.s.hi]::boxAcc B 124 [.int .u8 q.k,W64 q.s.lo,W64 q.s.hi]::boxAcc (X+1+1) 87 [.bool false,.slice none 0 0,.slice none 0 0,.int .i64 0]::boxAcc (X+1) 87 [.bool false,.slice none 0 0,.slice none 0 0,.int .i64 0]::[boxAcc X 87 [.bool true,.slice (some ⟨y.gr,0,none⟩) 11 y.cr,.slice (some ⟨y.gb,0,none⟩) 512 y.cb,.int .i64 y.p.least]]))
 case first =>
  have BK:=Hd BK0.o.drew;clear BK0;refine WL.begin 99 (fun _=>True) (fun w'=>w'.cell? ⟨I,0,none⟩=some (.int .u8 op)/\w'.cell? ⟨I,1,none⟩=some (.bool nr)/\w'.cell? ⟨I,2,none⟩=some (.int .i64 (d:Int))/\w'.cell? ⟨I,3,none⟩=some (.int .i64 src)/\w'.cell? ⟨I,4,none⟩=some (.bool u)/\w'.cell? ⟨I,5,none⟩=some (.int .i64 off)/\w'.cell? ⟨I,6,none⟩=some (.int .i64 imm)/\w'.cell? ⟨I,7,none⟩=some (.int .i64 size)/\w'.cell? ⟨X,0,none⟩=some (.bool true)/\w'.cell? ⟨X,1,none⟩=some (.slice (some ⟨y.gr,0,none⟩) 11 y.cr)/\w'.cell? ⟨X,2,none⟩=some (.slice (some ⟨y.gb,0,none⟩) 512 y.cb)/\w'.cell? ⟨X,3,none⟩=some (.int .i64 y.p.least)/\w'.cell? ⟨y.gr,d*3,none⟩=some (.int .u8 x.k)/\w'.cell? ⟨y.gr,d*3+1,none⟩=some (W64 x.s.lo)/\w'.cell? ⟨y.gr,d*3+2,none⟩=some (W64 x.s.hi)) (by kernel_rfl) trivial (by first|exact r1f (rk8 BK.o HI.o) (BK.o.q4 2 rfl) (HX.o _ BK.o.since)|fail) (fun hs=>?_);generalize w1.drew=wz at *
  repeat' first
   | (with_reducible refine StepL.at 8 ?_
      intro K hK;go_simp;refine(HP.o _ BK.o.since).mono ?_;rintro e wz ⟨rfl,hs⟩;have BK:=Hd (BK.o.call hs);clear hs;refine hK.o _ _ (SaT (by first|exact r1f (rk8 BK.o HI.o) (BK.o.q4 2 rfl) (HX.o _ BK.o.since)|exact r1f (rk8 BK.o HI.o) (BK.o.q4 3 rfl) (HX.o _ BK.o.since)|exact r1f (rk8 BK.o HI.o) (BK.o.q4 4 rfl) (HX.o _ BK.o.since)|fail)) ?_
      clear hK K;intro hs;try simp only[Act.put,sA,sZ,sS])
   | (with_reducible refine StepL.at 9 ?_
      intro K hK;go_simp;have BK:=Hd (BK.o.bx [.int .u8 0,W64 0#64,W64 0#64] 124);refine hK.o _ _ (SaT (by first|exact r1f (rk8 BK.o HI.o) (BK.o.q4 3 rfl) (HX.o _ BK.o.since)|exact r1f (rk8 BK.o HI.o) (BK.o.q4 4 rfl) (HX.o _ BK.o.since)|fail)) ?_;generalize wz.heap.size=A at *;generalize(wz.alloc (.cells #[.int .u8 0,W64 0#64,W64 0#64] 124))=wz at *
      clear hK K;intro hs;try simp only[Act.put,sA,sZ,sS])
   | (with_reducible refine StepL.at 10 ?_
      intro K hK;go_simp;have BK:=Hd (BK.o.bx [.int .u8 0,W64 0#64,W64 0#64] 124);refine hK.o _ _ (SaT (by first|exact r1f (rk8 BK.o HI.o) (BK.o.q4 3 rfl) (HX.o _ BK.o.since)|exact r1f (rk8 BK.o HI.o) (BK.o.q4 4 rfl) (HX.o _ BK.o.since)|fail)) ?_;generalize wz.heap.size=B at *;generalize(wz.alloc (.cells #[.int .u8 0,W64 0#64,W64 0#64] 124))=wz at *
      clear hK K;intro hs;try simp only[Act.put,sA,sZ,sS])
   | (with_reducible refine StepL.at 11 ?_
      intro K hK;have BK:RowKit.Hid (Bank w wz (boxAcc A 124 [.int .u8 0,W64 0#64,W64 0#64]::boxAcc B 124 [.int .u8 0,W64 0#64,W64 0#64]::boxAcc (X+1+1) 87 [.bool false,.slice none 0 0,.slice none 0 0,.int .i64 0]::boxAcc (X+1) 87 [.bool false,.slice none 0 0,.slice none 0 0,.int .i64 0]::[boxAcc X 87 [.bool true,.slice (some ⟨y.gr,0,none⟩) 11 y.cr,.slice (some ⟨y.gb,0,none⟩) 512 y.cb,.int .i64 y.p.least]])):=by first|exact BK|exact Hd (BK.o.permB (List.Perm.swap _ _ _))
      have hb3:=BK.o.r3 0 rfl;have b0:=hb3.1;have b1:=hb3.2.1;have b2:=hb3.2.2.1;have fb0:=hb3.2.2.2.1;have fb1:=hb3.2.2.2.2.1;have fb2:=hb3.2.2.2.2.2;clear hb3;go_simp;have BK:=Hd (((BK.o.bs 0 0 (.int .u8 x.k)).bs 0 1 (W64 x.s.lo)).bs 0 2 (W64 x.s.hi));clear b0 b1 b2 fb0 fb1 fb2;refine hK.o _ _ (SaT (by first|exact r1f (rk8 BK.o HI.o) (BK.o.q4 4 rfl) (HX.o _ BK.o.since)|fail)) ?_
      clear hK K;intro hs;try simp only[Act.put])
   | (with_reducible refine StepL.at 12 ?_
      intro K hK;have hb3:=BK.o.r3 1 rfl;have b0:=hb3.1;have b1:=hb3.2.1;have b2:=hb3.2.2.1;have fb0:=hb3.2.2.2.1;have fb1:=hb3.2.2.2.2.1;have fb2:=hb3.2.2.2.2.2;clear hb3;go_simp;have BK:=Hd (((BK.o.bs 1 0 (.int .u8 q.k)).bs 1 1 (W64 q.s.lo)).bs 1 2 (W64 q.s.hi));clear b0 b1 b2 fb0 fb1 fb2;refine hK.o _ _ (SaT (by first|exact r1f (rk8 BK.o HI.o) (BK.o.q4 4 rfl) (HX.o _ BK.o.since)|fail)) ?_
      clear hK K;intro hs;try simp only[Act.put])
   | (refine WL.tp (i:=0) (v:=?_) rfl (by decide +kernel) (fun _ _ _ h=>h) hs (Or.inl ⟨by kernel_rfl,?_⟩) ?_;rotate_left;· intro w hc;go_simp<;>rfl
      clear hs;intro hs;simp only[Act.put,sA,sZ,sS])
   | (refine WL.tp (i:=1) (v:=?_) rfl (by decide +kernel) (fun _ _ _ h=>h) hs (Or.inl ⟨by kernel_rfl,?_⟩) ?_;rotate_left;· intro w hc;go_simp<;>rfl
      clear hs;intro hs;simp only[Act.put,sA,sZ,sS])
   | (refine WL.tp (i:=2) (v:=?_) rfl (by decide +kernel) (fun _ _ _ h=>h) hs (Or.inl ⟨by kernel_rfl,?_⟩) ?_;rotate_left;· intro w hc;go_simp<;>rfl
      clear hs;intro hs;simp only[Act.put,sA,sZ,sS])
   | (refine WL.tp (i:=3) (v:=?_) rfl (by decide +kernel) (fun _ _ _ h=>h) hs (Or.inl ⟨by kernel_rfl,?_⟩) ?_;rotate_left;· intro w hc;go_simp<;>rfl
      clear hs;intro hs;simp only[Act.put,sA,sZ,sS])
   | (refine WL.tp (i:=4) (v:=?_) rfl (by decide +kernel) (fun _ _ _ h=>h) hs (Or.inl ⟨by kernel_rfl,?_⟩) ?_;rotate_left;· intro w hc;go_simp<;>rfl
      clear hs;intro hs;simp only[Act.put,sA,sZ,sS])
   | (refine WL.tp (i:=5) (v:=?_) rfl (by decide +kernel) (fun _ _ _ h=>h) hs (Or.inl ⟨by kernel_rfl,?_⟩) ?_;rotate_left;· intro w hc;go_simp<;>rfl
      clear hs;intro hs;simp only[Act.put,sA,sZ,sS])
   | (refine WL.tp (i:=6) (v:=?_) rfl (by decide +kernel) (fun _ _ _ h=>h) hs (Or.inl ⟨by kernel_rfl,?_⟩) ?_;rotate_left;· intro w hc;go_simp<;>rfl
      clear hs;intro hs;simp only[Act.put,sA,sZ,sS])
   | (refine WL.tp (i:=7) (v:=?_) rfl (by decide +kernel) (fun _ _ _ h=>h) hs (Or.inl ⟨by kernel_rfl,?_⟩) ?_;rotate_left;· intro w hc;go_simp<;>rfl
      clear hs;intro hs;simp only[Act.put,sA,sZ,sS])
   | (refine WL.s1 (i:=8) (by decide +kernel) rfl hs ?_<;>clear hs)
   | (refine WL.o2 (i:=8) (j:=9) (by decide +kernel) rfl rfl hs ?_ ?_<;>clear hs)
   | (refine WL.o3 (i:=8) (j:=9) (k:=10) (by decide +kernel) rfl rfl rfl hs ?_ ?_ ?_<;>clear hs)
   | (refine WL.o2 (i:=8) (j:=10) (by decide +kernel) rfl rfl hs ?_ ?_<;>clear hs)
   | (refine WL.s1 (i:=9) (by decide +kernel) rfl hs ?_<;>clear hs)
   | (refine WL.o2 (i:=9) (j:=10) (by decide +kernel) rfl rfl hs ?_ ?_<;>clear hs)
   | (refine WL.s1 (i:=10) (by decide +kernel) rfl hs ?_<;>clear hs)
   | (refine WL.s1 (i:=11) (by decide +kernel) rfl hs ?_<;>clear hs)
   | (refine WL.s1 (i:=12) (by decide +kernel) rfl hs ?_<;>clear hs)
   | (clear hs;refine WL.done (by decide +kernel) ?_ _;try simp only[Exit.then]
      go_wp2_with fail;go_meet
      exact⟨_,_,rfl,rfl,BK.o⟩)
 case rest =>
  obtain⟨A,B,rfl,rfl,hB⟩:=hcut;have BK:=Hd hB;clear hB HP HX BK0;obtain⟨a0,a1,a2⟩:=BK.o.q3 0 rfl;obtain⟨p0,p1,p2,p3⟩:=BK.o.q4 4 rfl;go_wp2_with fail;refine(HNM.o _).mono ?_;rintro e wd ⟨rfl,hs⟩;have BK:=Hd (BK.o.call hs);clear hs a0 a1 a2 p0 p1 p2 p3;go_upto_region 3 with fail;refine wp_hid (Hd (BK.o.bx [W64 M.lo,W64 M.hi] 122)) (fun we BK=>?_);generalize wd.heap.size=G at *;obtain⟨b0,b1,b2⟩:=BK.o.q3 2 rfl;obtain⟨p0,p1,p2,p3⟩:=BK.o.q4 5 rfl;go_wp2_with fail;refine(HNN.o _).mono ?_;rintro e wf ⟨rfl,hs⟩;have BK:=Hd (BK.o.call hs);clear hs b0 b1 b2 p0 p1 p2 p3;go_upto_region 4 with fail;refine wp_hid (Hd (BK.o.bx [W64 N.lo,W64 N.hi] 122)) (fun wg BK=>?_);generalize wf.heap.size=H at *;clear HNM HNN;go_upto_region 7 with fail;have BK:RowKit.Hid (Bank w _ (boxAcc H 122 [W64 N.lo,W64 N.hi]::boxAcc G 122 [W64 M.lo,W64 M.hi]::boxAcc A 124 [.int .u8 x.k,W64 x.s.lo,W64 x.s.hi]::boxAcc B 124 [.int .u8 q.k,W64 q.s.lo,W64 q.s.hi]::boxAcc (X+1+1) 87 [.bool false,.slice none 0 0,.slice none 0 0,.int .i64 0]::boxAcc (X+1) 87 [.bool false,.slice none 0 0,.slice none 0 0,.int .i64 0]::[boxAcc X 87 [.bool true,.slice (some ⟨y.gr,0,none⟩) 11 y.cr,.slice (some ⟨y.gb,0,none⟩) 512 y.cb,.int .i64 y.p.least]])):=Hd BK.o.drew;refine WL.begin 99 (fun _=>True) (fun w'=>w'.cell? ⟨I,0,none⟩=some (.int .u8 op)/\w'.cell? ⟨I,1,none⟩=some (.bool nr)/\w'.cell? ⟨I,2,none⟩=some (.int .i64 (d:Int))/\w'.cell? ⟨I,3,none⟩=some (.int .i64 src)/\w'.cell? ⟨I,4,none⟩=some (.bool u)/\w'.cell? ⟨I,5,none⟩=some (.int .i64 off)/\w'.cell? ⟨I,6,none⟩=some (.int .i64 imm)/\w'.cell? ⟨I,7,none⟩=some (.int .i64 size)/\w'.cell? ⟨X,0,none⟩=some (.bool true)/\w'.cell? ⟨X,1,none⟩=some (.slice (some ⟨y.gr,0,none⟩) 11 y.cr)/\w'.cell? ⟨X,2,none⟩=some (.slice (some ⟨y.gb,0,none⟩) 512 y.cb)/\w'.cell? ⟨X,3,none⟩=some (.int .i64 y.p.least)/\w'.cell? ⟨G,0,none⟩=some (W64 M.lo)/\w'.cell? ⟨G,1,none⟩=some (W64 M.hi)/\w'.cell? ⟨H,0,none⟩=some (W64 N.lo)/\w'.cell? ⟨H,1,none⟩=some (W64 N.hi)) (by kernel_rfl) trivial (r7f (rk8 BK.o HI.o) (BK.o.q4 6 rfl) (BK.o.q2 1 rfl) (BK.o.q2 0 rfl)) (fun hs=>?_);generalize wg.drew=wz at *;refine WL.tk [(0,[]),(1,[]),(2,[]),(3,[]),(5,[]),(6,[]),(7,[]),(8,[])] hs ?_;clear hs
  iterate 8
   (first|refine WLp ?_ ?_ ?_|refine WLl ?_ ?_ ?_);rotate_left
   ·intro w hc;go_simp<;>rfl
   simp only[Act.put,sA,sZ,sS]
  refine TKs.mk ?_;intro hs;refine WLo 4 hs ?_;clear hs;intro K hK;go_simp;refine(HE.o false _ BK.o.since).mono ?_;rintro e wz ⟨lv1,A1,n1,c1,B1,m1,d1,l1,M1,rfl,hb,ho1⟩;have HO1:=Hd ho1;have BK:RowKit.Hid (Bank w wz (boxAcc H 122 [W64 N.lo,W64 N.hi]::boxAcc G 122 [W64 M.lo,W64 M.hi]::boxAcc A 124 [.int .u8 x.k,W64 x.s.lo,W64 x.s.hi]::boxAcc B 124 [.int .u8 q.k,W64 q.s.lo,W64 q.s.hi]::boxAcc (X+1+1) 87 [.bool false,.slice none 0 0,.slice none 0 0,.int .i64 0]::boxAcc (X+1) 87 [.bool false,.slice none 0 0,.slice none 0 0,.int .i64 0]::boxAcc X 87 [.bool true,.slice (some ⟨y.gr,0,none⟩) 11 y.cr,.slice (some ⟨y.gb,0,none⟩) 512 y.cb,.int .i64 y.p.least]::M1)):=Hd (bank_tail BK.o hb);clear hb ho1;refine hK.o _ _ (SaT (r7f (rk8 BK.o HI.o) (BK.o.q4 6 rfl) (BK.o.q2 1 rfl) (BK.o.q2 0 rfl))) ?_;clear hK K;intro hs;try simp only[Act.put,sA,sZ,sS]
  refine WLo 9 hs ?_;clear hs;intro K hK;go_simp;refine(HE.o true _ BK.o.since).mono ?_;rintro e wz ⟨lv2,A2,n2,c2,B2,m2,d2,l2,M2,rfl,hb,ho2⟩;have HO2:=Hd ho2;have BK:RowKit.Hid (Bank w wz (boxAcc H 122 [W64 N.lo,W64 N.hi]::boxAcc G 122 [W64 M.lo,W64 M.hi]::boxAcc A 124 [.int .u8 x.k,W64 x.s.lo,W64 x.s.hi]::boxAcc B 124 [.int .u8 q.k,W64 q.s.lo,W64 q.s.hi]::boxAcc (X+1+1) 87 [.bool false,.slice none 0 0,.slice none 0 0,.int .i64 0]::boxAcc (X+1) 87 [.bool false,.slice none 0 0,.slice none 0 0,.int .i64 0]::boxAcc X 87 [.bool true,.slice (some ⟨y.gr,0,none⟩) 11 y.cr,.slice (some ⟨y.gb,0,none⟩) 512 y.cb,.int .i64 y.p.least]::(M1++M2))):=Hd (bank_tail BK.o hb);clear hb ho2;refine hK.o _ _ (SaT (r7f (rk8 BK.o HI.o) (BK.o.q4 6 rfl) (BK.o.q2 1 rfl) (BK.o.q2 0 rfl))) ?_;clear hK K;intro hs;try simp only[Act.put,sA,sZ,sS]
  refine WLo 10 hs ?_;clear hs;intro K hK;have hb4:=BK.o.r4 5 rfl;have b0:=hb4.1;have b1:=hb4.2.1;have b2:=hb4.2.2.1;have b3:=hb4.2.2.2.1;have fb0:=hb4.2.2.2.2.1;have fb1:=hb4.2.2.2.2.2.1;have fb2:=hb4.2.2.2.2.2.2.1;have fb3:=hb4.2.2.2.2.2.2.2;clear hb4;go_simp;have BK:=Hd ((((BK.o.bs 5 0 (.bool lv1)).bs 5 1 (.slice A1 n1 c1)).bs 5 2 (.slice B1 m1 d1)).bs 5 3 (.int .i64 l1));clear b0 b1 b2 b3 fb0 fb1 fb2 fb3;refine hK.o _ _ (SaT (r7f (rk8 BK.o HI.o) (BK.o.q4 6 rfl) (BK.o.q2 1 rfl) (BK.o.q2 0 rfl))) ?_;clear hK K;intro hs;try simp only[Act.put]
  refine WLo 11 hs ?_;clear hs;intro K hK;have hb4:=BK.o.r4 4 rfl;have b0:=hb4.1;have b1:=hb4.2.1;have b2:=hb4.2.2.1;have b3:=hb4.2.2.2.1;have fb0:=hb4.2.2.2.2.1;have fb1:=hb4.2.2.2.2.2.1;have fb2:=hb4.2.2.2.2.2.2.1;have fb3:=hb4.2.2.2.2.2.2.2;clear hb4;go_simp;have BK:=Hd ((((BK.o.bs 4 0 (.bool lv2)).bs 4 1 (.slice A2 n2 c2)).bs 4 2 (.slice B2 m2 d2)).bs 4 3 (.int .i64 l2));clear b0 b1 b2 b3 fb0 fb1 fb2 fb3;refine hK.o _ _ (SaT (r7f (rk8 BK.o HI.o) (BK.o.q4 6 rfl) (BK.o.q2 1 rfl) (BK.o.q2 0 rfl))) ?_;clear hK K;intro hs;try simp only[Act.put]
  refine WLo 12 hs ?_;clear hs;intro K hK;go_simp;refine hK.o _ _ (SaT (r7f (rk8 BK.o HI.o) (BK.o.q4 6 rfl) (BK.o.q2 1 rfl) (BK.o.q2 0 rfl))) ?_;clear hK K;intro hs;try simp only[Act.put,sA,sZ,sS]
  clear hs;refine WLd ?_ _;try simp only[Exit.then]
  go_wp2;obtain⟨a0,a1,a2,a3⟩:=BK.o.q4 5 rfl;obtain⟨b0,b1,b2,b3⟩:=BK.o.q4 4 rfl;refine bodyPost_ret (v:=.tuple #[.agg #[.bool lv1,.slice A1 n1 c1,.slice B1 m1 d1,.int .i64 l1],.agg #[.bool lv2,.slice A2 n2 c2,.slice B2 m2 d2,.int .i64 l2],.nilIface]) ?_ rfl ⟨_,_,M1,M2,rfl,BK.o.sub (.cons _ (.cons _ (.cons _ (.cons _ (.cons _ (.cons _ (.cons _ (.refl _)))))))),HO1.o,HO2.o⟩;simp[results,Tryz.results180,go_sem,a0,a1,a2,a3,b0,b1,b2,b3]
end Go.Proofs.YtfeipbgnjainlaaGreatDoor.K
