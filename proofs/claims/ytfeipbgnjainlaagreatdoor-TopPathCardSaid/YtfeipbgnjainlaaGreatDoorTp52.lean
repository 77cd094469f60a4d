/- TLwM -/
import Derived.Test.YtfeipbgnjainlaaGreatDoorTp2
import Derived.Test.YtfeipbgnjainlaaGreatDoorTp51
set_option linter.unusedVariables false
set_option linter.unusedSimpArgs false
set_option maxRecDepth 100000
set_option maxHeartbeats 8000000
namespace Go.Proofs.YtfeipbgnjainlaaGreatDoor.K
open Go Go.RowKit Go.Maps Go.Sort
theorem append_bankG_at{P:Program}{w0 w:World}{L:List Acc}{ops:Array Oper}{o:Oper}{a:Act}{K:Act->World->Prop}{Q:Exit->Act->World->Prop}{E:Prop}(h:Bank w0 w L)(hgd:o.guard=none)(s y:Operand)(t:TypeId)
  (ho:o.op=.call { callee:=.builtin .append,args:=#[s,y],argTypes:=#[t,t] })
  (e:TypeId) (z:Value) (size bytes:Nat) (hz:(P.info? e).map (fun i=>(i.zero,i.size,i.bytes))=some (some z,size,bytes)) (ht:P.underlying t=some (.slice e)) (hzs:z.cells.size=size) (hsz:0<size)
  (k:Nat) (A:Option Addr) (n cap:Nat) (xs:List Value) (hs:a.eval s=.slice A n cap) (hk:L[k]?=some ⟨.slice A n cap,n,e,size,xs⟩)
  (ad:Addr) (m c:Nat) (news:List Value) (hx:a.eval y=.slice (some ad) m c) (hl:news.length=m*size) (hnews:∀j u,news[j]?=some u->w.cell? (ad.add j)=some u) (h1:∀u∈news,u.oneCell'=true)
  (h63:n+m<=maxLen) (hbytes:(n+m)*bytes<=140737488355328)
  (hK:∀A' n' c' w',n'=n+m->Bank w0 w' (L.set k ⟨.slice A' n' c',n',e,size,xs++news⟩)->K (a.put o.dst (.slice A' n' c')) w') :
  if Region.wanted o (yielded ops a.tmps)=true then Oper.wp P o a w K Q else E:=by
 have hw:Region.wanted o (yielded ops a.tmps)=true:=by simp[Region.wanted,hgd]
 rw[if_pos hw];obtain⟨i0,hi,hz0,hz1,hz2⟩:=info_parts hz;obtain⟨A',c',w',hr,h2,h3,h4⟩:=run_append_bankG (P:=P) h t o.type e i0 z size bytes ht hi hz0 hz1 hz2 hzs hsz k A n cap xs hk ad m c news hl hnews h1 h63 hbytes;unfold Oper.wp execOp;simp only[ho,resolve,invoke,builtin,Sem.run_bind,Sem.run_pure,Result.andThen_ok,List.map_toArray,List.map_cons,List.map_nil,hs,hx,hr];exact hK A' _ c' w' rfl h2
theorem plcRd_of{w0 w:World}{P n c:Nat}{xs:List PV}{ps:List T.Pl}(hB:Bank w0 w (plsA P n c xs::pvA xs))(hx:xs.map PV.p=ps)(hwf:∀j,(T.plAt ps j).live=true->(T.plAt ps j).regs.length=11):PlcRd w P ps:=by
 intro j p hp
 have hj:j<xs.length:=by rw[<-hx,List.getElem?_map]at hp;cases h:xs[j]? with
  | none=>rw[h]at hp;cases hp
  | some x=>exact(List.getElem?_eq_some_iff.1 h).1
 have hpx:p=xs[j].p:=by rw[<-hx,List.getElem?_map,List.getElem?_eq_getElem hj]at hp;exact(Option.some.inj hp).symm
 have hat:T.plAt ps j=p:=by unfold T.plAt;rw[List.getD_eq_getElem?_getD,hp];rfl
 obtain⟨p0,p1,_,_⟩:=pvsL_at (RdC.of hB 0 rfl) j hj;rw[<-hpx]at p0;refine⟨p0,fun hl=>?_⟩;have hl':=hl;rw[hpx]at hl';rw[PV.live_rv hl']at p1;have hm:xs[j].regA∈plsA P n c xs::pvA xs:=.tail _ (List.mem_flatMap.2 ⟨_,List.getElem_mem hj,by rw[PV.live_accs hl'];exact .head _⟩);have hrl:p.regs.length=11:=by rw[<-hat];exact hwf j (by rw[hat];exact hl)
 refine⟨_,_,p1,fun s hs=>?_⟩;have h:=(knsL_at (regA_rd hB hm) s (by rw[<-hpx,hrl];exact hs)).1;rw[h];unfold T.Pl.reg;simp only[<-hpx];rw[Int.toNat_natCast,List.getD_eq_getElem?_getD,List.getElem?_eq_getElem (by rw[hrl];exact hs)];rfl
section
variable{l:List T.Ins}{ps:List T.Pl}
def lpd(l:List T.Ins)(ps:List T.Pl)(j:Nat):List T.Fl:=((T.lout l ps l.length).take j).map (T.lpatch l ps)++(T.lout l ps l.length).drop j
theorem lpd_len(j:Nat):(lpd l ps j).length=(T.lout l ps l.length).length:=by
 unfold lpd;rw[List.length_append,List.length_map,List.length_take,List.length_drop];omega
theorem lpd_zero:lpd l ps 0=T.lout l ps l.length:=by unfold lpd;simp
theorem lpd_all:lpd l ps (T.lout l ps l.length).length=T.lmake l ps:=by unfold lpd T.lmake;simp
theorem lpd_get{j:Nat}(hj:j<(T.lout l ps l.length).length):(lpd l ps j)[j]?=(T.lout l ps l.length)[j]?:=by
 unfold lpd;rw[List.getElem?_append_right (by rw[List.length_map,List.length_take];omega),List.length_map,List.length_take,Nat.min_eq_left (by omega),List.getElem?_drop,Nat.sub_self,Nat.add_zero]
theorem lpd_succ{j:Nat}{f:T.Fl}(hf:(T.lout l ps l.length)[j]?=some f):lpd l ps (j+1)=(lpd l ps j).set j (T.lpatch l ps f):=by
 obtain⟨hj,rfl⟩:=List.getElem?_eq_some_iff.1 hf;unfold lpd;rw[List.set_append_right _ _ (by rw[List.length_map,List.length_take];omega),List.length_map,List.length_take,Nat.min_eq_left (by omega),Nat.sub_self,List.drop_eq_getElem_cons hj,List.set_cons_zero,List.take_succ_eq_append_getElem hj,List.map_append,List.append_assoc];rfl
theorem okP_to{P:Nat->Prop}{f:T.Fl}(h:f.okP P)(h78:f.do'=7\/f.do'=8):∃t:Nat,f.to=(t:Int)/\P t:=by
 rcases h with⟨d,n,rfl,h1⟩|⟨d,a,rfl,h1,h2⟩|⟨wh,nr,d,a,b,rfl,w1,w2,h1,h2,h3,_⟩|⟨k,d,a,n,s,hk,rfl,h1,h2,hs⟩|⟨a,b,n,s,rfl,h1,h2,hs⟩|⟨t,rfl,ht⟩|⟨wh,nr,a,b,t,rfl,w1,w2,h1,h2,ht⟩|rfl
 all_goals first
  | exact⟨_,rfl,ht⟩
  | (exfalso;simp only at h78;omega)
theorem lpd_same{j:Nat}{f:T.Fl}(hf:(T.lout l ps l.length)[j]?=some f)(h:¬(f.do'=7\/f.do'=8)):lpd l ps (j+1)=lpd l ps j:=by
 have hj:=(List.getElem?_eq_some_iff.1 hf).1;have h2:(lpd l ps j)[j]?=some f:=by rw[lpd_get hj];exact hf
 rw[lpd_succ hf,T.lpatch_other f (by omega)];obtain⟨hi,rfl⟩:=List.getElem?_eq_some_iff.1 h2;exact List.set_getElem_self hi
theorem lpd_hit{j t:Nat}{f:T.Fl}(hf:(T.lout l ps l.length)[j]?=some f)(h:f.do'=7\/f.do'=8)(ht:f.to=(t:Int)):((lpd l ps j).flatMap flL).set (j*9+8) (.int .i64 (T.lbegin l ps t:Int))=(lpd l ps (j+1)).flatMap flL:=by
 have hj:=(List.getElem?_eq_some_iff.1 hf).1;have h2:(lpd l ps j)[j]?=some f:=by rw[lpd_get hj];exact hf
 have hk:=(List.getElem?_eq_some_iff.1 h2).1;rw[lpd_succ hf,flat_set flL 9 flL_len (lpd l ps j) j 8 _ hk (by decide) (flL f) (flL (T.lpatch l ps f)) (fun x hx=>by rw[h2]at hx;cases hx;rfl) ?_]
 ·exact flat_done flL (lpd l ps j) j (T.lpatch l ps f) hk
 ·unfold T.lpatch
  rw[if_pos h,ht,Int.toNat_natCast];rfl
end
section
variable{w0 w:World}{Mk:Nat}{lv pv:Value}{k:Nat}{out:List T.Fl}{bg:List Nat}{L:List Acc}
theorem LwB.f2(h:LwB w0 w Mk lv pv k out bg L)(j:Nat):w.frozen? ⟨Mk,j,none⟩=false:=by obtain⟨_,_,_,_,h⟩:=h;exact h.free 0 rfl j
theorem LwB.setAt(h:LwB w0 w Mk lv pv k out bg L)(j:Nat):LwB w0 (w.setCell ⟨Mk,2,none⟩ (.int .i64 (j:Int))) Mk lv pv j out bg L:=by obtain⟨a,b,c,d,h⟩:=h;exact⟨a,b,c,d,h.boxSet 0 rfl 2 (.int .i64 (j:Int))⟩
end
theorem wp_lwb{w0 w:World}{Mk:Nat}{lv pv:Value}{k:Nat}{out:List T.Fl}{bg:List Nat}{L:List Acc}{P:Program}{c:Code}{Q:Exit->Act->World->Prop}{a:Act}(hB:LwB w0 w Mk lv pv k out bg L)(h:∀w',LwB w0 w' Mk lv pv k out bg L->c.wp P Q a w'):c.wp P Q a w:=h w hB
def MakeP(w:World)(l:List T.Ins)(e:Ending)(w':World):Prop :=
 ((T.placesF l).1.1=0/\Since w w'/\∃OA oc,e=.returned (.tuple #[.slice OA (T.lmake l (T.placesF l).2).length oc,.agg #[.int .i64 0,.int .i64 0]])/\w'.ownsRow w.heap.size 58 9 (.slice OA (T.lmake l (T.placesF l).2).length oc) (T.lmake l (T.placesF l).2).length ((T.lmake l (T.placesF l).2).flatMap flL))
 \/ ((T.placesF l).1.1≠0/\Since w w'/\e=.returned (.tuple #[.slice none 0 0,.agg #[.int .i64 (T.placesF l).1.1,.int .i64 ((T.placesF l).1.2:Int)]]))
theorem lwMake_any(b o n c:Nat)(l:List T.Ins)(w:World)(hr:InsRd w b o l)(hl:l.length=n)(hn:n<=4096):Calls Tryz.prog 6 #[.slice (some ⟨b,o,none⟩) n c] w (MakeP w l):=by
 have HR:=Hd hr;have HL:=Hd hl;clear hr hl;have BK0:=Hd ((Bank.nil (Below.refl w.heap.size w)).boxL [.int .i64 0,.int .i64 0] 27 (by simp));go_enter Tryz.func6,Tryz.ntmps6;go_upto_region 1 with fail;generalize w.heap.size=X at *;change Code.wp _ _ _ _ (w.alloc (.cells #[.int .i64 0,.int .i64 0] 27));generalize(w.alloc (.cells #[.int .i64 0,.int .i64 0] 27))=w1 at *;go_wp2_with fail;refine(places_any' b o n c l _ (HR.o.since BK0.o.since) HL.o hn).mono ?_;rintro e w2 (⟨hpf,P,pc,xs,rfl,hxs,hxl,hb⟩|⟨hpf,rfl,hs⟩)
 case inr =>
  have BK1:=Hd (BK0.o.call hs);clear hs BK0;have e0:((T.placesF l).1.1 != 0)=true:=by simpa using hpf
  have HPF:=Hd hpf;obtain⟨er,her⟩:∃q,(T.placesF l).1.1=q:=⟨_,rfl⟩
  obtain⟨ea,hea⟩:∃q,((T.placesF l).1.2:Int)=q:=⟨_,rfl⟩
  have HER:=Hd her;have HEA:=Hd hea;rw[her]at e0;rw[her,hea];clear hpf her hea;go_upto_region 2 with fail;have BK2:=Hd (BK1.o.boxL [.int .i64 er,.int .i64 ea] 27 (by simp));generalize w2.heap.size=F at *;change Code.wp _ _ _ _ (w2.alloc (.cells #[.int .i64 er,.int .i64 ea] 27));generalize(w2.alloc (.cells #[.int .i64 er,.int .i64 ea] 27))=w3 at *;clear BK1;obtain⟨f0,f1⟩:=BK2.o.q2 0 rfl;go_upto_region 3 with fail;have BKa:=Hd BK2.o.drew;refine WL.begin 2 (fun w'=>w'.cell? ⟨F,0,none⟩=some (.int .i64 er)/\w'.cell? ⟨F,1,none⟩=some (.int .i64 ea)) (fun _=>True) (by kernel_rfl) ⟨BKa.o.cell 0 rfl 0 rfl,BKa.o.cell 0 rfl 1 rfl⟩ trivial (fun hs=>?_);generalize w3.drew=w4 at *
  repeat' first
   | (with_reducible refine StepL.at 1 ?_
      intro K hK;go_simp;refine hK.o _ _ (SApp.intro (fun _=>⟨BKa.o.cell 0 rfl 0 rfl,BKa.o.cell 0 rfl 1 rfl⟩) trivial) ?_
      clear hK K;intro hs;try simp only[Act.put,sA,sZ,sS])
   | (with_reducible refine StepL.at 2 ?_
      intro K hK;obtain⟨r0,r1,g0,g1⟩:=BKa.o.r2 1 rfl;go_simp;have BKz:=Hd ((BKa.o.boxSet 1 rfl 0 (.int .i64 er)).boxSet 1 rfl 1 (.int .i64 ea));clear r0 r1 g0 g1;refine hK.o _ _ SaF ?_
      clear hK K;intro hs;try simp only[Act.put])
   | (refine WL.tl [0] (i:=0) (v:=?_) rfl (by decide +kernel) (by kernel_rfl) (fun _ _ _ h=>h) hs (Or.inl ⟨by kernel_rfl,?_⟩) ?_;rotate_left;· intro w hc;go_simp<;>rfl
      clear hs;intro hs;simp only[Act.put,sA,sZ,sS])
   | (refine WL.s1 (i:=1) (by decide +kernel) rfl hs ?_<;>clear hs)
   | (refine WL.s1 (i:=2) (by decide +kernel) rfl hs ?_<;>clear hs)
   | (clear hs;refine WL.done (by decide +kernel) ?_ _;try simp only[Exit.then]
      go_wp2;obtain⟨r0,r1⟩:=BKz.o.q2 1 rfl;refine bodyPost_ret (v:=.tuple #[.slice none 0 0,.agg #[.int .i64 er,.int .i64 ea]]) ?_ rfl (.inr ⟨HPF.o,BKz.o.since,by rw[HER.o,HEA.o]⟩)
      simp[results,Tryz.results6,go_sem,r0,r1])
 case inl =>
  obtain⟨h1,h2,h3⟩:=T.placesF_ok hpf;have hsp:=T.shaped_of h1;have hty:=T.typed_of hsp h2;obtain⟨ps,hps⟩:∃q,(T.placesF l).2=q:=⟨_,rfl⟩
  have hps2:(T.placesOf l).2=ps:=by rw[<-hps,h3]
  rw[hps2]at hty;rw[hps]at hxs;have hP:=plcRd_of hb hxs (fun j hj=>(hty.wf j hj).rl);have HPF:=Hd hpf;have HPS:=Hd hps;have HSP:=Hd hsp;have HTY:=Hd hty;have HP:=Hd hP;have BK1:=Hd (BK0.o.call hb.since);rw[HL.o];have hpsl:ps.length=n:=by rw[hty.len,HL.o]
  have HPL:=Hd hpsl;clear hpf h1 h2 h3 hsp hty hps hps2 hxs hxl hb hP hpsl BK0;go_upto_region 2 with fail;have BKf:=Hd ((Bank.nil (Below.refl w2.heap.size w2)).boxL [.int .i64 0,.int .i64 0] 27 (by simp));generalize w2.heap.size=F at *;change Code.wp _ _ _ _ (w2.alloc (.cells #[.int .i64 0,.int .i64 0] 27));generalize(w2.alloc (.cells #[.int .i64 0,.int .i64 0] 27))=w3 at *;have f0:=BKf.o.cell 0 rfl 0 rfl;go_upto_region 5 with fail
  have hLw:LwB w2 (w3.alloc (.cells #[(.slice (some ⟨b,o,none⟩) n c),(.slice (some ⟨P,0,none⟩) n pc),.int .i64 0,.slice none 0 0,.slice none 0 0] 50)) w3.heap.size (.slice (some ⟨b,o,none⟩) n c) (.slice (some ⟨P,0,none⟩) n pc) 0 [] [] [] :=
   ⟨none,0,none,0,((((BKf.o.drop.boxL [(.slice (some ⟨b,o,none⟩) n c),(.slice (some ⟨P,0,none⟩) n pc),.int .i64 0,.slice none 0 0,.slice none 0 0] 50 (by simp)).none 58 9).none 3 1).permB (List.reverse_perm [_,_,_]).symm)⟩
  generalize w3.heap.size=Mk at *;change Code.wp _ _ _ _ (w3.alloc (.cells #[(.slice (some ⟨b,o,none⟩) n c),(.slice (some ⟨P,0,none⟩) n pc),.int .i64 0,.slice none 0 0,.slice none 0 0] 50));generalize(w3.alloc (.cells #[(.slice (some ⟨b,o,none⟩) n c),(.slice (some ⟨P,0,none⟩) n pc),.int .i64 0,.slice none 0 0,.slice none 0 0] 50))=w4 at *;have HLw:=Hd hLw;clear hLw BKf f0;go_wp2_with fail;go_loopw [24] (fun i wr=>∃(j k:Nat),j<=n/\i=.int .i64 (j:Int)/\LwB w2 wr Mk (.slice (some ⟨b,o,none⟩) n c) (.slice (some ⟨P,0,none⟩) n pc) k (T.lout l ps j) ((List.range j).map (T.lbegin l ps)) []) (fun i _=>n-(intOf i).toNat)
  case atStart=>exact⟨0,0,Nat.zero_le _,rfl,HLw.o⟩
  case round =>
   obtain⟨j,kk,hj,rfl,hB⟩:=hrel;have HB:=Hd hB;clear hB HLw;have j0:(0:Int)<=(j:Int):=by omega
   by_cases hlt:j<n
   ·have j1:(j:Int)<(n:Int):=by omega
    have m2:=HB.o.m2;have fm2:=HB.o.f2 2;go_upto_region 8 with fail;have HB2:=Hd (HB.o.setAt j);change Code.wp _ _ _ _ (wr.setCell ⟨Mk,2,none⟩ (.int .i64 (j:Int)));generalize(wr.setCell ⟨Mk,2,none⟩ (.int .i64 (j:Int)))=w5 at *;clear m2 fm2 HB;have hol:(T.lout l ps j).length<=8192:=by have:=T.lout_len (l:=l) (ps:=ps) j;omega
    obtain⟨bg,hbg⟩:∃q,(List.range j).map (T.lbegin l ps)=q:=⟨_,rfl⟩
    have hbl:bg.length=j:=by rw[<-hbg,List.length_map,List.length_range]
    rw[hbg]at HB2;have HBG:=Hd hbg;have HBL:=Hd hbl;obtain⟨q,hq⟩:∃q,(T.lout l ps j).length=q:=⟨_,rfl⟩
    have HQ:=Hd hq;have hol2:q<=8192:=by omega
    have hb2:=HB2.o;obtain⟨OA,oc,BA,bc,hB⟩:=hb2;rw[hq]at hB;have BK:=Hd hB;clear hB hbg hbl HB2 hol hq;have BKa:=Hd BK.o.drew;refine WL.begin 11 (fun w'=>w'.cell? ⟨Mk,4,none⟩=some (.slice BA bg.length bc)/\w'.cell? ⟨Mk,3,none⟩=some (.slice OA q oc)) (fun _=>True) (by kernel_rfl) ⟨BKa.o.cell 0 rfl 4 rfl,BKa.o.cell 0 rfl 3 rfl⟩ trivial (fun hs=>?_);generalize w5.drew=w6 at *;refine WL.tk [(0,[]),(1,[]),(2,[]),(3,[]),(4,[4]),(5,[]),(6,[]),(7,[]),(8,[10,9,8]),(9,[])] hs ?_;clear hs
    iterate 10
     (first|refine WLp ?_ ?_ ?_|refine WLl ?_ ?_ ?_);rotate_left
     ·intro w hc;go_simp<;>rfl
     simp only[Act.put,sA,sZ,sS]
    refine TKs.mk ?_;intro hs;refine WLo 10 hs ?_;clear hs;intro K hK;go_simp;have BKb:=Hd (BKa.o.boxL [.int .i64 (q:Int)] 3 (by simp));refine hK.o _ _ (SApp.intro (fun _=>⟨BKb.o.cell 1 rfl 4 rfl,BKb.o.cell 1 rfl 3 rfl⟩) trivial) ?_;clear hK K;intro hs;try simp only[Act.put,sA,sZ,sS]
    refine WLo 11 hs ?_;clear hs;intro K hK;refine append_bankG_at BKb.o rfl (.tmp 34) (.tmp 40) 48 rfl 3 (.int .i64 0) 1 8 infoInt Tryz.underlying48 rfl (by decide) 3 BA bg.length bc (natL bg) rfl rfl ⟨_,0,none⟩ 1 1 [.int .i64 (q:Int)] rfl rfl ?_ ?_ (by have:=HBL.o;unfold maxLen;omega) (by have:=HBL.o;omega) ?_
    ·intro i u hi
     rcases i with _|i
     ·cases hi;exact BKb.o.cell 0 rfl 0 rfl
     ·cases hi
    ·intro u hu
     rw[List.mem_singleton]at hu;subst hu;rfl
    intro A' n' c' w7 hn' hB7;have HN:=Hd hn';have BKc:=Hd hB7;clear hn' hB7;refine hK.o _ _ SaF ?_;clear hK K;intro hs;try simp only[Act.put,sA,sZ,sS]
    refine WL.tk [(12,[]),(13,[])] hs ?_;clear hs
    iterate 2
     (first|refine WLp ?_ ?_ ?_|refine WLl ?_ ?_ ?_);rotate_left
     ·intro w hc;go_simp<;>rfl
     simp only[Act.put,sA,sZ,sS]
    refine TKs.mk ?_;intro hs;refine WLo 14 hs ?_;clear hs;intro K hK;have c4:=BKc.o.cell 1 rfl 4 rfl;have g4:=BKc.o.free 1 rfl 4;go_simp;have BKd:=Hd (BKc.o.boxSet 1 rfl 4 (.slice A' n' c'));clear c4 g4;refine hK.o _ _ SaF ?_;clear hK K;intro hs;try simp only[Act.put]
    clear hs;refine WLd ?_ _;try simp only[Exit.then]
    have hLw2:LwB w2 (w7.setCell ⟨Mk,4,none⟩ (.slice A' n' c')) Mk (.slice (some ⟨b,o,none⟩) n c) (.slice (some ⟨P,0,none⟩) n pc) j (T.lout l ps j) (bg ++ [T.lbegin l ps j]) []:=by
     have h:=BKd.o.drop;have e2:n'=(bg ++ [T.lbegin l ps j]).length:=by rw[HN.o,List.length_append];rfl
     have e3:natL bg ++ [.int .i64 (q:Int)]=natL (bg ++ [T.lbegin l ps j]):=by unfold natL;rw[List.map_append];unfold T.lbegin;rw[HQ.o];rfl
     subst e2;refine⟨OA,oc,A',c',?_⟩;rw[HQ.o,<-e3];exact h
    go_upto_region 9 with fail;refine wp_lwb hLw2 (fun w8 hz=>?_);have HB3:=Hd hz;clear hz hLw2 BKd BKc BKb BKa BK;have m2:=HB3.o.m2;go_wp2_with fail;refine(lwLive_ok P n pc ps j HB3.o HP.o hlt HPL.o).mono ?_;rintro e w9 ⟨rfl,rfl⟩;obtain⟨lvb,hlv⟩:∃q,(T.plAt ps j).live=q:=⟨_,rfl⟩
    rw[hlv];have HBG2:=Hd (show bg ++ [T.lbegin l ps j]=(List.range (j+1)).map (T.lbegin l ps)by rw[List.range_succ,List.map_append,HBG.o];rfl);cases lvb
    case false =>
     have HB4:=Hd (show LwB w2 w9 Mk (.slice (some ⟨b,o,none⟩) n c) (.slice (some ⟨P,0,none⟩) n pc) j (T.lout l ps (j+1)) ((List.range (j+1)).map (T.lbegin l ps)) []by
      rw[T.lout_succ,T.lat_dead hlv,List.append_nil,<-HBG2.o]
      exact HB3.o)
     clear hlv;go_wp2;go_round
     case rel=>exact⟨j+1,j,by omega,by go_num,HB4.o⟩
     case measure=>simp[intOf];omega
    case true =>
     obtain⟨i,hi⟩:∃i,l[j]?=some i:=⟨_,List.getElem?_eq_getElem (by have:=HL.o;omega)⟩
     obtain⟨x0,x1,x2,x3,x4,x5,x6,x7⟩:=(HR.o.since (BK1.o.since.add HB3.o.since)).cells hi;have HONE:=Hd (fun(w:World) (hB:LwB w2 w Mk (.slice (some ⟨b,o,none⟩) n c) (.slice (some ⟨P,0,none⟩) n pc) j (T.lout l ps j) (bg ++ [T.lbegin l ps j]) [])=>lwOne_ok P n pc ps i hB (by have:=HQ.o;omega) HP.o HPL.o (by omega) hlt hlv (HSP.o.right i (List.mem_of_getElem? hi)) (fun hj=>by have h:=HSP.o.fwd j i hi hj;have:=HL.o;omega));have HLO:=Hd (show T.lout l ps j++T.lone ps j i=T.lout l ps (j+1)by rw[T.lout_succ,T.lat_of hi hlv]);clear hlv hi;go_wp2_with fail;refine(HONE.o _ HB3.o).mono ?_;rintro e w10 ⟨rfl,hb⟩;have HB4:=Hd hb;clear hb x0 x1 x2 x3 x4 x5 x6 x7;go_wp2;go_round
     case rel=>exact⟨j+1,j,by omega,by go_num,by rw[<-HLO.o,<-HBG2.o];exact HB4.o⟩
     case measure=>simp[intOf];omega
   ·have i1:¬(j:Int)<(n:Int):=by omega
    obtain rfl:j=n:=by omega
    have hb2:=HB.o;obtain⟨OA,oc,BA,bc,hB⟩:=hb2;obtain⟨_,_,_,_,hex⟩:=T.lmake_last HSP.o HTY.o;have hq0:0<(T.lout l ps j).length:=by rw[<-HL.o,hex];simp
    have hj0:0<j:=by rw[<-HL.o];exact List.length_pos_iff.2 HSP.o.ne
    obtain⟨g,rfl⟩:=own_someG (hB.at 1 rfl) hq0;obtain⟨h,rfl⟩:=own_someG (hB.at 2 rfl) (by rw[List.length_map,List.length_range];exact hj0);have hql:(T.lout l ps j).length<=8192:=by have:=T.lout_len (l:=l) (ps:=ps) j;omega
    obtain⟨q,hq⟩:∃q,(T.lout l ps j).length=q:=⟨_,rfl⟩
    obtain⟨bg,hbg⟩:∃q,(List.range j).map (T.lbegin l ps)=q:=⟨_,rfl⟩
    have hbl:bg.length=j:=by rw[<-hbg,List.length_map,List.length_range]
    have e0:T.lout l ps j=lpd l ps 0:=by rw[lpd_zero,HL.o]
    rw[hq,hbg,hbl,e0]at hB;rw[hq]at hql hq0;have BK:=Hd (show Bank w2 wr (boxAcc Mk 50 [(.slice (some ⟨b,o,none⟩) j c),(.slice (some ⟨P,0,none⟩) j pc),.int .i64 (kk:Int),.slice (some ⟨g,0,none⟩) q oc,.slice (some ⟨h,0,none⟩) j bc]::rwA g q oc 58 9 ((lpd l ps 0).flatMap flL)::rwA h j bc 3 1 (natL bg)::[])from hB);have HQ:=Hd (show(T.lout l ps l.length).length=q by rw[HL.o];exact hq);have HBG:=Hd hbg;clear hB hex hq hbg hbl e0 HB hq0;have m3:=BK.o.cell 0 rfl 3 rfl;go_wp2_with fail;clear m3;go_loopw [7,8,65] (fun _ _ i wr=>∃k:Nat,k<=q/\i=.int .i64 (k:Int)/\Bank w2 wr (boxAcc Mk 50 [(.slice (some ⟨b,o,none⟩) j c),(.slice (some ⟨P,0,none⟩) j pc),.int .i64 (kk:Int),.slice (some ⟨g,0,none⟩) q oc,.slice (some ⟨h,0,none⟩) j bc]::rwA g q oc 58 9 ((lpd l ps k).flatMap flL)::rwA h j bc 3 1 (natL bg)::[])) (fun _ _ i _=>q-(intOf i).toNat)
    case atStart=>exact⟨0,Nat.zero_le _,rfl,BK.o⟩
    case round =>
     obtain⟨k,hk,rfl,hB⟩:=hrel;have BKr:=Hd hB;clear hB BK;have k0:(0:Int)<=(k:Int):=by omega
     by_cases hlt:k<q
     ·have k1:(k:Int)<(q:Int):=by omega
      obtain⟨x,hx⟩:∃x,(T.lout l ps l.length)[k]?=some x:=⟨_,List.getElem?_eq_getElem (by rw[HQ.o];exact hlt)⟩
      have hx2:(lpd l ps k)[k]?=some x:=by rw[lpd_get (by rw[HQ.o];exact hlt)];exact hx
      obtain⟨hkl,hxe⟩:=List.getElem?_eq_some_iff.1 hx2;have hcell:∀(t:Nat) (v:Value),t<9->(flL x)[t]?=some v->wr.cell? ⟨g,k*9+t,none⟩=some v:=fun t v ht hv=>BKr.o.rcell 1 rfl (k*9+t) (by rw[flat_get flL 9 flL_len _ k hkl t ht,hxe];exact hv)
      have x0:=hcell 0 _ (by decide) rfl;have x1:=hcell 1 _ (by decide) rfl;have x2:=hcell 2 _ (by decide) rfl;have x3:=hcell 3 _ (by decide) rfl;have x4:=hcell 4 _ (by decide) rfl;have x5:=hcell 5 _ (by decide) rfl;have x6:=hcell 6 _ (by decide) rfl;have x7:=hcell 7 _ (by decide) rfl;have x8:=hcell 8 _ (by decide) rfl;rw[Nat.add_zero]at x0;have HX:=Hd hx;clear hx hx2 hkl hxe hcell;go_upto_region 15 with fail;have BKs:=Hd (BKr.o.boxL [.int .u8 x.do',.int .u8 x.what,.bool x.narrow,.int .i64 x.d,.int .i64 x.a,.int .i64 x.b,W64 x.n,.int .i64 x.size,.int .i64 x.to] 58 (by simp));generalize wr.heap.size=Y at *;change Code.wp _ _ _ _ (wr.alloc (.cells #[.int .u8 x.do',.int .u8 x.what,.bool x.narrow,.int .i64 x.d,.int .i64 x.a,.int .i64 x.b,W64 x.n,.int .i64 x.size,.int .i64 x.to] 58));generalize(wr.alloc (.cells #[.int .u8 x.do',.int .u8 x.what,.bool x.narrow,.int .i64 x.d,.int .i64 x.a,.int .i64 x.b,W64 x.n,.int .i64 x.size,.int .i64 x.to] 58))=w5 at *;clear x0 x1 x2 x3 x4 x5 x6 x7 x8 BKr;have y0:=BKs.o.cell 0 rfl 0 rfl;by_cases h78:x.do'=7\/x.do'=8
      ·obtain⟨jj,t,-,-,hlat⟩:=T.lout_inv HX.o
       obtain⟨to_,hto,hlat2⟩:=okP_to (T.lat_ok HSP.o HTY.o x (List.mem_of_getElem? hlat)) h78;have htj:to_<j:=by have h:=hlat2.2.1;rw[HL.o]at h;exact h
       have HHIT:=Hd (lpd_hit HX.o h78 hto);have t0:(0:Int)<=(to_:Int):=by omega
       have t1:(to_:Int)<(j:Int):=by omega
       have hbt:(natL bg)[to_]?=some (.int .i64 (T.lbegin l ps to_:Int)):=by
        rw[<-HBG.o];unfold natL;rw[List.map_map,List.getElem?_map,List.getElem?_range htj];rfl
       have HBT:=Hd hbt;have hkl:k<(lpd l ps k).length:=by rw[lpd_len,HQ.o];exact hlt
       have hx2:(lpd l ps k)[k]?=some x:=by rw[lpd_get (by rw[HQ.o];exact hlt)];exact HX.o
       have hxe:=(List.getElem?_eq_some_iff.1 hx2).2;have HOLD:=Hd (show((lpd l ps k).flatMap flL)[k*9+8]?=some (.int .i64 (to_:Int))by rw[flat_get flL 9 flL_len _ k hkl 8 (by decide),hxe,<-hto];rfl);clear hx2 hxe
       have key:(x.do'==7)=true\/((x.do'==7)=false/\(x.do'==8)=true):=by
        by_cases h7:x.do'=7
        ·left;simpa using h7
        ·right;exact⟨by simpa using h7,by simpa using h78.resolve_left h7⟩
       rw[hto]at BKs;clear hlat hlat2 hto h78 hbt hkl htj;rcases key with k7|⟨k7,k8⟩
       all_goals
        go_upto_region 16 with fail
        (try clear k8)
        clear y0 k7;have BKa:=Hd BKs.o.drew;refine WL.begin 15 (fun w'=>w'.cell? ⟨Mk,3,none⟩=some (.slice (some ⟨g,0,none⟩) q oc)/\w'.cell? ⟨Mk,4,none⟩=some (.slice (some ⟨h,0,none⟩) j bc)/\w'.cell? ⟨Y,8,none⟩=some (.int .i64 (to_:Int))/\w'.cell? ⟨h,to_,none⟩=some (.int .i64 (T.lbegin l ps to_:Int))) (fun _=>True) (by kernel_rfl) ⟨BKa.o.cell 1 rfl 3 rfl,BKa.o.cell 1 rfl 4 rfl,BKa.o.cell 0 rfl 8 rfl,BKa.o.rcell 3 rfl to_ HBT.o⟩ trivial (fun hs=>?_);generalize w5.drew=w6 at *;refine WL.tk [(0,[]),(1,[]),(2,[]),(3,[3]),(4,[]),(5,[]),(6,[]),(7,[]),(8,[8]),(9,[]),(10,[10]),(11,[]),(12,[12]),(13,[]),(14,[])] hs ?_;clear hs
        iterate 15
         (first|refine WLp ?_ ?_ ?_|refine WLl ?_ ?_ ?_);rotate_left
         ·intro w hc;go_simp<;>rfl
         simp only[Act.put,sA,sZ,sS]
        refine TKs.mk ?_;intro hs;refine WLo 15 hs ?_;clear hs;intro K hK;have c0:=BKa.o.rcell 2 rfl (k*9+8) HOLD.o;have g0:=BKa.o.rfree 2 rfl (k*9+8);go_simp;have BKb:=Hd (BKa.o.rset 2 rfl (k*9+8) (.int .i64 (T.lbegin l ps to_:Int)));clear c0 g0;refine hK.o _ _ SaF ?_;clear hK K;intro hs;try simp only[Act.put]
        clear hs;refine WLd ?_ _;try simp only[Exit.then]
        have BKz:=Hd (show Bank w2 _ (boxAcc Mk 50 [(.slice (some ⟨b,o,none⟩) j c),(.slice (some ⟨P,0,none⟩) j pc),.int .i64 (kk:Int),.slice (some ⟨g,0,none⟩) q oc,.slice (some ⟨h,0,none⟩) j bc]::rwA g q oc 58 9 ((lpd l ps (k+1)).flatMap flL)::rwA h j bc 3 1 (natL bg)::[])from HHIT.o▸BKb.o.drop);go_wp2;go_round
        case rel=>exact⟨k+1,by omega,by go_num,BKz.o⟩
        case measure=>simp[intOf];omega
      ·have k7:(x.do'==7)=false:=by simpa using(not_or.1 h78).1
       have k8:(x.do'==8)=false:=by simpa using(not_or.1 h78).2
       have BKz:=Hd (show Bank w2 w5 (boxAcc Mk 50 [(.slice (some ⟨b,o,none⟩) j c),(.slice (some ⟨P,0,none⟩) j pc),.int .i64 (kk:Int),.slice (some ⟨g,0,none⟩) q oc,.slice (some ⟨h,0,none⟩) j bc]::rwA g q oc 58 9 ((lpd l ps (k+1)).flatMap flL)::rwA h j bc 3 1 (natL bg)::[])from(lpd_same HX.o h78).symm▸BKs.o.drop);clear h78;go_wp2;go_round
       case rel=>exact⟨k+1,by omega,by go_num,BKz.o⟩
       case measure=>simp[intOf];omega
     ·have i1:¬(k:Int)<(q:Int):=by omega
      obtain rfl:k=q:=by omega
      have hall:lpd l ps k=T.lmake l ps:=by rw[<-HQ.o];exact lpd_all
      have hlen:k=(T.lmake l ps).length:=by unfold T.lmake;rw[List.length_map,HQ.o]
      have BKj:=Hd (bank_join BK1.o BKr.o);have m3:=BKj.o.cell 0 rfl 3 rfl;obtain⟨r0,r1,g0,g1⟩:=BKj.o.r2 3 rfl;have HALL:=Hd hall;have HLEN:=Hd hlen;clear hall hlen BKr BK1;have BKz:=Hd ((BKj.o.boxSet 3 rfl 0 (.int .i64 0)).boxSet 3 rfl 1 (.int .i64 0));go_wp2;clear r0 r1;obtain⟨r0,r1⟩:=BKz.o.q2 3 rfl;refine bodyPost_ret (v:=.tuple #[.slice (some ⟨g,0,none⟩) k oc,.agg #[.int .i64 0,.int .i64 0]]) ?_ rfl (.inl ⟨HPF.o,BKz.o.since,some ⟨g,0,none⟩,oc,by rw[HPS.o,<-HLEN.o],?_⟩)
      ·simp[results,Tryz.results6,go_sem,r0,r1]
      ·rw[HPS.o,<-HLEN.o,<-HALL.o]
       exact BKz.o.at 1 rfl
end Go.Proofs.YtfeipbgnjainlaaGreatDoor.K
