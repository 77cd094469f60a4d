/- TSim, TShape, TYm, TYn, TShift, TIr -/
import Derived.Test.YtfeipbgnjainlaaGreatDoorTp3
set_option linter.unusedVariables false
set_option linter.unusedSimpArgs false
namespace Go.Proofs.YtfeipbgnjainlaaGreatDoor.T
section
variable{l:List Ins}{ps:List Pl}{pk:List B}{m:Mc}{f:Fm}
theorem one_step{j t:Nat}(hj:j<l.length){g g':Fl}(h:(lat l ps j)[t]?=some g)(hp:lpatch l ps g=g')(hat:f.at'=lbegin l ps j+t){f':Fm}(hst:fstep pk g' { f with at':=f.at'+1 }=some f'):FSteps (lmake l ps) pk 1 f f' :=
 .cons (by rw[hat,lmake_get j t hj g h,hp]) hst (.nil _)
theorem FSteps.trans{c:List Fl}{k n:Nat}{f1 f2 f3:Fm}(h:FSteps c pk k f1 f2)(h2:FSteps c pk n f2 f3):FSteps c pk (k+n) f1 f3:=by
 induction h with
 | nil m=>rw[Nat.zero_add];exact h2
 | cons a b _ ih =>
   rw[show ∀k,k+1+n=(k+n)+1 from fun k=>by omega];exact .cons a b (ih h2)
theorem lsec_do(i:Ins):∀g∈lsec i,g.do'=1:=by
 intro g hg;unfold lsec at hg;split at hg
 ·rw[List.mem_singleton.1 hg]
 ·cases hg
theorem sec_steps{j:Nat}(hj:j<l.length)(hR:Rel m f)(hat:f.at'=lbegin l ps j)(i:Ins)(hs:i.src<=10)(rest:List Fl)(hl:lat l ps j=lsec i++rest):
  ∃k f',FSteps (lmake l ps) pk k f f'/\Rel m f'/\f'.at'=lbegin l ps j+(lsec i).length/\f'.reg (lreg i)=(esecond i m).2:=by
 rw[<-hat];refine lsec_steps hR i hs fun t g hg=>?_
 have h1:(lat l ps j)[t]?=some g:=by
  rw[hl,List.getElem?_append_left (List.getElem?_eq_some_iff.1 hg).1];exact hg
 have hd:=lsec_do i g (List.mem_of_getElem? hg);rw[hat,lmake_get j t hj g h1,lpatch_other g (by omega)]
theorem lat_len{j:Nat}{i:Ins}{g:Fl}(hl:lat l ps j=lsec i ++ [g]):lbegin l ps (j+1)=lbegin l ps j+(lsec i).length+1:=by
 rw[lbegin_succ,hl,List.length_append,List.length_singleton];omega
theorem sec_one{j:Nat}(hj:j<l.length)(hR:Rel m f)(hat:f.at'=lbegin l ps j)(i:Ins)(hs:i.src<=10){g g':Fl}(hl:lat l ps j=lsec i ++ [g])(hp:lpatch l ps g=g')(T:Fm->Fm)
  (hst:∀f1:Fm,Rel m f1->f1.reg (lreg i)=(esecond i m).2->fstep pk g' { f1 with at':=lbegin l ps (j+1) }=some (T f1)) :
  ∃k f1,FSteps (lmake l ps) pk k f (T f1)/\Rel m f1/\f1.reg (lreg i)=(esecond i m).2:=by
 obtain⟨k,f1,h1,h2,h3,h4⟩:=sec_steps (pk:=pk) hj hR hat i hs [g] hl;have hg:(lat l ps j)[(lsec i).length]?=some g:=by rw[hl,List.getElem?_append_right (Nat.le_refl _)];simp
 have h5:=one_step (pk:=pk) (f:=f1) hj hg hp h3 (f':=T f1) (by rw[h3,<-lat_len hl];exact hst f1 h2 h4);exact⟨k+1,f1,h1.trans h5,h2,h4⟩
theorem Mc.reg_at(m:Mc)(k:Nat)(r:Int):Mc.reg { m with at':=k } r=m.reg r:=rfl
theorem ado12(a b:U):ado 12 true a b=(low b).setWidth 64:=by simp[ado,adoN]
theorem sim_load{i:Ins}(hr:i.right=true)(ho:i.op=14){j:Nat}(hj:j<l.length)(hi:l[j]?=some i)(hlv:(plAt ps j).live=true)(hR:Rel m f)(hat:f.at'=lbegin l ps j)(hP:PlH (plAt ps j) m pk.length){ah af:Option Pl}(hc:cstep i (plAt ps j)=(0,ah,af)){m':Mc}(he:estep pk i m=(0,m')):
  ∃k f',FSteps (lmake l ps) pk k f f'/\Rel m' f'/\f'.at'=lbegin l ps (j+1):=by
 obtain⟨hd,hs,hof,him,hsz,hop,_⟩:=right_facts hr
 have hla:lat l ps j=[{ Fl.zero with do':=if((plAt ps j).reg i.src).k=3 then 5 else 4,d:=i.dst,a:=i.src,n:=wide i.off,size:=i.size }]:=by
  rw[lat_of hi hlv,lone,if_pos ho]
 have hb:lbegin l ps (j+1)=lbegin l ps j+1:=by rw[lbegin_succ,hla];rfl
 have hg:(lat l ps j)[0]?=some { Fl.zero with do':=if((plAt ps j).reg i.src).k=3 then 5 else 4,d:=i.dst,a:=i.src,n:=wide i.off,size:=i.size }:=by rw[hla];rfl
 have hreg:=hP.reg i.src hs.1 hs.2
 have hk:((plAt ps j).reg i.src).k=3\/((plAt ps j).reg i.src).k=2:=by
  unfold cstep at hc;rw[if_pos ho]at hc;split at hc
  ·rename_i h;exact absurd (congrArg Prod.fst hc) h
  ·rename_i h
   simp only[ne_eq,Decidable.not_not]at h;unfold loadErr at h;split at h
   ·left;assumption
   split at h
   ·right;assumption
   split at h
   ·rename_i h2;exact absurd h h2
   ·omega
 have hfs:f.reg i.src=(m.reg i.src).2:=hR.reg i.src hs.2;unfold estep at he;rw[if_neg (by omega),if_neg (by omega),if_pos ho]at he;split at he
 ·simp at he
 by_cases c1:(m.reg i.src).1=1
 ·rw[if_pos c1]at he;simp at he
 rw[if_neg c1]at he;by_cases h2:(m.reg i.src).1=2
 ·rw[if_pos h2]at he
  by_cases hge:getErr pk.length ((m.reg i.src).2+wide i.off).toInt i.size=0
  rotate_left
  ·rw[if_pos hge]at he;exact absurd (congrArg Prod.fst he) hge
  rw[if_neg (fun e=>e hge)]at he;have hm':m'=m.put i.dst (1,gets pk ((m.reg i.src).2+wide i.off).toInt.toNat i.size.toNat):=(congrArg Prod.snd he).symm;have hk2:¬((plAt ps j).reg i.src).k=3:=fun e=>by have:=(holds_frame hreg e).1;omega
  rw[if_neg hk2]at hg;refine⟨1,{ f.put i.dst (gets pk ((m.reg i.src).2+wide i.off).toInt.toNat i.size.toNat)with at':=f.at'+1 },one_step hj hg (lpatch_other _ (by simp[Fl.zero])) (by rw[hat];rfl) ?_,?_,by rw[hat,hb]⟩
  ·show(if getErr pk.length (f.reg i.src+wide i.off).toInt i.size=0 then _ else none)=_
   rw[hfs,if_pos hge];show some (Fm.put { f with at':=f.at'+1 } i.dst (gets pk (f.reg i.src+wide i.off).toInt.toNat i.size.toNat))=_
   rw[hfs];rfl
  ·rw[hm']
   exact hR.put i.dst hd.1 hd.2 (1,_) _ _
 ·rw[if_neg h2]at he
  by_cases hfe:frameErr (m.reg i.src).2 i=0
  rotate_left
  ·rw[if_pos hfe]at he;simp at he
  rw[if_neg (fun e=>e hfe)]at he;by_cases has:allSet m.set (((m.reg i.src).2+wide i.off).toInt+512).toNat i.size.toNat=false
  ·rw[if_pos has]at he;simp at he
  rw[if_neg has]at he;have hm':m'=m.put i.dst (1,gets m.stk (((m.reg i.src).2+wide i.off).toInt+512).toNat i.size.toNat):=(congrArg Prod.snd he).symm
  have hk3:((plAt ps j).reg i.src).k=3:=by
   rcases hk with e|e
   ·exact e
   ·have:=(holds_kind hreg (by omega) (by omega)).1
    exact absurd (this.trans e) h2
  rw[if_pos hk3]at hg
  have hce:cellErr ((m.reg i.src).2+wide i.off).toInt i.size=false:=by
   unfold frameErr at hfe;unfold cellErr;rw[decide_eq_false_iff_not];intro e;rw[if_pos (by omega)]at hfe;omega
  refine⟨1,{ f.put i.dst (gets f.stk (((m.reg i.src).2+wide i.off).toInt+512).toNat i.size.toNat)with at':=f.at'+1 },one_step hj hg (lpatch_other _ (by simp[Fl.zero])) (by rw[hat];rfl) ?_,?_,by rw[hat,hb]⟩
  ·show(if cellErr (f.reg i.src+wide i.off).toInt i.size then none else some (Fm.put { f with at':=f.at'+1 } i.dst (gets f.stk ((f.reg i.src+wide i.off).toInt+512).toNat i.size.toNat)))=_
   rw[hfs,hce];rfl
  ·rw[hm',hR.stk]
   exact hR.put i.dst hd.1 hd.2 (1,_) _ _
theorem sim_put{i:Ins}(hr:i.right=true)(ho:i.op=15){j:Nat}(hj:j<l.length)(hi:l[j]?=some i)(hlv:(plAt ps j).live=true)(hR:Rel m f)(hat:f.at'=lbegin l ps j){m':Mc}(he:estep pk i m=(0,m')):
  ∃k f',FSteps (lmake l ps) pk k f f'/\Rel m' f'/\f'.at'=lbegin l ps (j+1):=by
 obtain⟨hd,hs,hof,him,hsz,hop,_⟩:=right_facts hr
 have hla:lat l ps j=lsec i ++ [{ Fl.zero with do':=6,a:=i.dst,b:=lreg i,n:=wide i.off,size:=i.size }]:=by
  rw[lat_of hi hlv,lone,if_neg (by omega),if_pos ho]
 unfold estep at he;rw[if_neg (by omega),if_neg (by omega),if_neg (by omega),if_pos ho]at he;split at he
 ·simp at he
 by_cases c1:(m.reg i.dst).1=2
 ·rw[if_pos c1]at he;simp at he
 rw[if_neg c1]at he;by_cases c2:(m.reg i.dst).1=1\/(esecond i m).1≠1
 ·rw[if_pos c2]at he;simp at he
 rw[if_neg c2]at he;by_cases hfe:frameErr (m.reg i.dst).2 i=0
 rotate_left
 ·rw[if_pos hfe]at he;simp at he
 rw[if_neg (fun e=>e hfe)]at he;have hm':=(congrArg Prod.snd he).symm;simp only at hm'
 have hce:cellErr ((m.reg i.dst).2+wide i.off).toInt i.size=false:=by
  unfold frameErr at hfe;unfold cellErr;rw[decide_eq_false_iff_not];intro e;rw[if_pos (by omega)]at hfe;omega
 obtain⟨k,f1,h1,h2,h3⟩:=sec_one (pk:=pk) hj hR hat i hs.2 hla (lpatch_other _ (by simp[Fl.zero])) (fun f1=>{ f1 with stk:=puts f1.stk (((m.reg i.dst).2+wide i.off).toInt+512).toNat i.size.toNat (esecond i m).2,at':=lbegin l ps (j+1) }) (fun f1 g1 g2=>by
  show(if cellErr (f1.reg i.dst+wide i.off).toInt i.size then none else some { f1 with stk:=puts f1.stk ((f1.reg i.dst+wide i.off).toInt+512).toNat i.size.toNat (f1.reg (lreg i)),at':=lbegin l ps (j+1) })=_
  rw[g1.reg i.dst hd.2,g2,hce];rfl)
 refine⟨k,_,h1,?_,rfl⟩;rw[hm'];exact⟨h2.ml,h2.fl,h2.regs,by simp only[h2.stk]⟩
theorem sim_alu{i:Ins}(hr:i.right=true)(ho:i.op<=13){j:Nat}(hj:j<l.length)(hi:l[j]?=some i)(hlv:(plAt ps j).live=true)(hR:Rel m f)(hat:f.at'=lbegin l ps j){m':Mc}(he:estep pk i m=(0,m')):
  ∃k f',FSteps (lmake l ps) pk k f f'/\Rel m' f'/\f'.at'=lbegin l ps (j+1):=by
 obtain⟨hd,hs,hof,him,hsz,hop,_⟩:=right_facts hr;have hnj:i.jumps=false:=by unfold Ins.jumps;rw[decide_eq_false_iff_not];omega
 have hla:lat l ps j=lreckon i:=by
  rw[lat_of hi hlv,lone,if_neg (by omega),if_neg (by omega),if_neg (by omega),if_neg (by omega),hnj];rfl
 have single:∀g:Fl,lat l ps j=[g]->g.do'≠7/\g.do'≠8->∀(v:Int×U),(∀f1:Fm,f1.regs=f.regs->fstep pk g f1=some (f1.put i.dst v.2))->m'=m.put i.dst v->∃k f',FSteps (lmake l ps) pk k f f'/\Rel m' f'/\f'.at'=lbegin l ps (j+1):=by
  intro g hg hd7 v hst hm;have hb:lbegin l ps (j+1)=lbegin l ps j+1:=by rw[lbegin_succ,hg];rfl
  refine⟨1,{ f.put i.dst v.2 with at':=f.at'+1 },one_step (t:=0) hj (by rw[hg];rfl) (lpatch_other _ hd7) (by rw[hat];rfl) (hst _ rfl),?_,by rw[hat,hb]⟩;rw[hm];exact hR.put i.dst hd.1 hd.2 v _ _
 have twice:∀g:Fl,lat l ps j=lsec i ++ [g]->g.do'≠7/\g.do'≠8->∀(v:Int×U),(∀f1:Fm,Rel m f1->f1.reg (lreg i)=(esecond i m).2->fstep pk g { f1 with at':=lbegin l ps (j+1) }=some (Fm.put { f1 with at':=lbegin l ps (j+1) } i.dst v.2))->m'=m.put i.dst v->∃k f',FSteps (lmake l ps) pk k f f'/\Rel m' f'/\f'.at'=lbegin l ps (j+1):=by
  intro g hg hd7 v hst hm;obtain⟨k,f1,h1,h2,_⟩:=sec_one (pk:=pk) hj hR hat i hs.2 hg (lpatch_other _ hd7) (fun f1=>Fm.put { f1 with at':=lbegin l ps (j+1) } i.dst v.2) hst;refine⟨k,_,h1,?_,rfl⟩;rw[hm];exact h2.put i.dst hd.1 hd.2 v _ _
 unfold estep at he;by_cases h12:i.op=12
 ·rw[if_pos h12]at he
  split at he
  ·simp at he
  by_cases c1:(i.narrow&&decide ((esecond i m).1≠1))=true
  ·rw[if_pos c1]at he;simp at he
  rw[if_neg c1]at he;have hm':=(congrArg Prod.snd he).symm;simp only at hm';cases hn:i.narrow with
  | false =>
    rw[hn]at hm';simp only[Bool.false_eq_true,if_false]at hm';cases hu:i.useImm with
    | true =>
      refine single _ (hla.trans (by rw[lreckon,if_neg (by omega),if_pos ⟨h12,hn,hu⟩])) (by simp[Fl.zero]) ((esecond i m).1,(esecond i m).2) (fun f1 hf1=>?_) hm';rw[fstep,if_pos rfl];unfold esecond;rw[hu];rfl
    | false =>
      refine single _ (hla.trans (by rw[lreckon,if_neg (by omega),if_neg (by rw[hu];simp),if_pos ⟨h12,hn⟩])) (by simp[Fl.zero]) ((esecond i m).1,(esecond i m).2) (fun f1 hf1=>?_) hm';rw[fstep,if_neg (by simp),if_pos rfl]
      have e2:f1.reg i.src=(esecond i m).2:=by
       unfold Fm.reg;rw[hf1];unfold esecond;rw[hu];exact hR.reg i.src hs.2
      show some (f1.put i.dst (f1.reg i.src))=_
      rw[e2]
  | true =>
    rw[hn]at hm';simp only[if_true]at hm';refine twice _ (hla.trans (by rw[lreckon,if_neg (by omega),if_neg (by rw[hn];simp),if_neg (by rw[hn];simp)])) (by simp[Fl.zero]) _ (fun f1 g1 g2=>?_) hm';show(if aerr i.op i.narrow (f1.reg (lreg i))=0 then some (Fm.put { f1 with at':=lbegin l ps (j+1) } i.dst (ado i.op i.narrow (f1.reg i.dst) (f1.reg (lreg i))))else none)=_
    rw[g2,h12,hn,if_pos (aerr_ok 12 true _ (by omega) (by omega)),ado12]
 rw[if_neg h12]at he;by_cases h13:i.op=13
 ·rw[if_pos h13]at he
  split at he
  ·simp at he
  by_cases c1:(m.reg i.dst).1≠1
  ·rw[if_pos c1]at he;simp at he
  rw[if_neg c1]at he;have hm':=(congrArg Prod.snd he).symm;simp only at hm';refine single _ (hla.trans (by rw[lreckon,if_pos h13])) (by simp[Fl.zero]) ((m.reg i.dst).1,ado 13 i.narrow (m.reg i.dst).2 0) (fun f1 hf1=>?_) hm';show(if aerr i.op i.narrow (f1.reg 0)=0 then some (f1.put i.dst (ado i.op i.narrow (f1.reg i.dst) (f1.reg 0)))else none)=_
  have e2:f1.reg i.dst=(m.reg i.dst).2:=by unfold Fm.reg;rw[hf1];exact hR.reg i.dst hd.2
  rw[h13,if_pos (aerr_ok 13 i.narrow _ (by omega) (by omega)),e2,ado_13 i.narrow _ (f1.reg 0) 0]
 rw[if_neg h13,if_neg (by omega),if_neg (by omega),if_neg (by omega),if_neg (by omega),if_pos (by omega)]at he;split at he
 ·simp at he
 by_cases c1:(esecond i m).1≠1\/((m.reg i.dst).1≠1/\¬((i.op=1\/i.op=2)/\i.narrow=false))
 ·rw[if_pos c1]at he;simp at he
 rw[if_neg c1]at he;by_cases hae:aerr i.op i.narrow (esecond i m).2=0
 rotate_left
 ·rw[if_pos hae]at he;exact absurd (congrArg Prod.fst he) hae
 rw[if_neg (fun e=>e hae)]at he;have hm':=(congrArg Prod.snd he).symm;simp only at hm';refine twice _ (hla.trans (by rw[lreckon,if_neg h13,if_neg (fun e=>h12 e.1),if_neg (fun e=>h12 e.1)])) (by simp[Fl.zero]) _ (fun f1 g1 g2=>?_) hm';show(if aerr i.op i.narrow (f1.reg (lreg i))=0 then some (Fm.put { f1 with at':=lbegin l ps (j+1) } i.dst (ado i.op i.narrow (f1.reg i.dst) (f1.reg (lreg i))))else none)=_
 rw[g2,if_pos hae,g1.reg i.dst hd.2]
theorem goes_steps{j t:Nat}(hj:j<l.length)(hR:Rel m f){to:Nat}(hla:lat l ps j=lgoes j (to:Int))(hto:j+1<=to)(hat:f.at'=lbegin l ps j)(hx:t=to):
  ∃k f',FSteps (lmake l ps) pk k f f'/\Rel m f'/\f'.at'=lbegin l ps t:=by
 subst hx;unfold lgoes at hla;split at hla
 ·refine⟨1,{ f with at':=lbegin l ps t },one_step (t:=0) hj (by rw[hla];rfl) (by rw[lpatch,if_pos (.inl rfl)]) (by rw[hat];rfl) ?_,hR.ats m.at' _,rfl⟩
  show some { f with at':=((lbegin l ps ((t:Int)).toNat:Nat):Int).toNat }=_
  simp
 ·have e:t=j+1:=by omega
  subst e;refine⟨0,f,.nil f,hR,?_⟩;rw[hat,lbegin_succ,hla];rfl
theorem sim_branch{i:Ins}(hr:i.right=true)(ho:17<=i.op/\i.op<=27){j:Nat}(hj:j<l.length)(hi:l[j]?=some i)(hlv:(plAt ps j).live=true)(hR:Rel m f)(hat:f.at'=lbegin l ps j){m':Mc}(he:estep pk i m=(0,m'))(hlv':(plAt ps m'.at').live=true)(hf:0<=i.off)(hma:m.at'=j+1):
  ∃k f',FSteps (lmake l ps) pk k f f'/\Rel m' f'/\f'.at'=lbegin l ps m'.at':=by
 obtain⟨hd,hs,hof,him,hsz,hop,_⟩:=right_facts hr;have hjp:i.jumps=true:=by unfold Ins.jumps;rw[decide_eq_true_eq];omega
 have hla:lat l ps j=lbranch ps j i:=by
  rw[lat_of hi hlv,lone,if_neg (by omega),if_neg (by omega),if_neg (by omega),if_neg (by omega),if_pos hjp]
 unfold estep at he;rw[if_neg (by omega),if_neg (by omega),if_neg (by omega),if_neg (by omega),if_neg (by omega),if_neg (by omega),if_neg (by omega)]at he;split at he
 ·simp at he
 by_cases c1:(m.reg i.dst).1≠1\/(esecond i m).1≠1
 ·rw[if_pos c1]at he;simp at he
 rw[if_neg c1]at he;have hm':=(congrArg Prod.snd he).symm;simp only[hma]at hm';have hcast:((j:Int)+1+i.off)=((j+1+i.off.toNat:Nat):Int):=by omega
 unfold lbranch at hla;split at hla
 ·rename_i hz
  have hb:lbegin l ps (j+1)=lbegin l ps j:=by rw[lbegin_succ,hla];rfl
  have hna:m'.at'=j+1:=by
   rw[hm']at hlv' ⊢;split
   ·rename_i ha
    rw[if_pos ha]at hlv';simp only at hlv' ⊢;rcases hz with e|e
    ·rw[e];rfl
    ·rw[e]at hlv';cases hlv'
   ·exact hma
  refine⟨0,f,.nil f,?_,by rw[hna,hb,hat]⟩;rw[hm'];split
  ·exact hR.ats _ f.at'
  ·exact hR.ats _ f.at'
 rename_i hz;split at hla
 ·rename_i hn
  have hna:m'.at'=j+1+i.off.toNat:=by
   rw[hm']at hlv' ⊢;split
   ·rfl
   ·rename_i ha
    rw[if_neg ha,hma]at hlv';rw[hn]at hlv';cases hlv'
  rw[hcast]at hla;obtain⟨k,f',h1,h2,h3⟩:=goes_steps (pk:=pk) hj hR hla (by omega) hat hna;refine⟨k,f',h1,?_,h3⟩;rw[hm'];split
  ·exact h2.ats _ f'.at'
  ·exact h2.ats _ f'.at'
 ·rename_i hn
  obtain⟨k,f1,h1,h2,h3⟩:=sec_one (pk:=pk) hj hR hat i hs.2 hla (g':={ Fl.zero with do':=8,what:=i.op,narrow:=i.narrow,a:=i.dst,b:=lreg i,to:=(lbegin l ps (j+1+i.off.toNat):Int) }) (by rw[lpatch,if_pos (.inr rfl),hcast];simp only[Int.toNat_natCast])
   (fun f1=>if ais i.op i.narrow (m.reg i.dst).2 (esecond i m).2 then { f1 with at':=lbegin l ps (j+1+i.off.toNat) }else { f1 with at':=lbegin l ps (j+1) }) (fun f1 g1 g2=>by
     show some (if ais i.op i.narrow (f1.reg i.dst) (f1.reg (lreg i))then { f1 with at':=((lbegin l ps (j+1+i.off.toNat):Nat):Int).toNat }else { f1 with at':=lbegin l ps (j+1) })=_
     rw[g2,g1.reg i.dst hd.2,Int.toNat_natCast])
  refine⟨k,_,h1,?_,?_⟩
  ·rw[hm']
   split
   ·exact h2.ats _ _
   ·exact h2.ats _ _
  ·rw[hm']
   split
   ·rfl
   ·rw[hma]
theorem sim_step(hs:Shaped l)(ht:Typed l ps)(hl:pk.length<=65535)(hA:At l ps pk.length m)(hR:Rel m f)(hat:f.at'=lbegin l ps m.at'){i:Ins}{m':Mc}(hi:l[m.at']?=some i)(he:estep pk i { m with at':=m.at'+1 }=(0,m'))(hA':At l ps pk.length m'):
  ∃k f',FSteps (lmake l ps) pk k f f'/\Rel m' f'/\f'.at'=lbegin l ps m'.at':=by
 have hr:i.right=true:=hs.right i (List.mem_of_getElem? hi);obtain⟨hd,hsr,hof,him,hsz,hop,_⟩:=right_facts hr;obtain⟨ah,af,hc,_,_⟩:=ht.went m.at' hA.lt i hi hA.live;obtain⟨m2,he2,ha⟩:=step_sound i hr pk rfl hl (hA.holds.at'' (m.at'+1)) hc;rw[he]at he2;cases he2
 have next:i.op<=15->m'.at'=m.at'+1:=fun h=>by
  rcases ha with⟨h1,_⟩|⟨_,_,⟨e1,_⟩|⟨_,e2,_⟩⟩
  ·omega
  ·exact e1
  ·unfold Ins.jumps at e2
   rw[decide_eq_true_eq]at e2;omega
 by_cases h14:i.op=14
 ·rw[next (by omega)];exact sim_load hr h14 hA.lt hi hA.live (hR.ats (m.at'+1) f.at') hat (hA.holds.at'' (m.at'+1)) hc he
 by_cases h15:i.op=15
 ·rw[next (by omega)];exact sim_put hr h15 hA.lt hi hA.live (hR.ats (m.at'+1) f.at') hat he
 by_cases h13:i.op<=13
 ·rw[next (by omega)];exact sim_alu hr h13 hA.lt hi hA.live (hR.ats (m.at'+1) f.at') hat he
 by_cases h28:i.op=28
 ·exfalso
  rcases ha with⟨_,hv,_⟩|⟨h,_⟩
  ·rw[hA'.verdict]at hv;cases hv
  ·exact h h28
 have hjp:i.jumps=true:=by unfold Ins.jumps;rw[decide_eq_true_eq];omega
 have hfw:=(hs.fwd _ _ hi hjp).1;by_cases h16:i.op=16
 ·have hla:lat l ps m.at'=lgoes m.at' ((m.at'+1+i.off.toNat:Nat):Int):=by
   rw[lat_of hi hA.live,lone,if_neg (by omega),if_neg (by omega),if_pos h16]
   congr 1;omega
  have hm':m'={ m with at':=m.at'+1+i.off.toNat }:=by
   unfold estep at he;rw[if_neg (by omega),if_neg (by omega),if_neg (by omega),if_neg (by omega),if_pos h16]at he;exact(congrArg Prod.snd he).symm
  obtain⟨k,f',h1,h2,h3⟩:=goes_steps (pk:=pk) hA.lt hR hla (by omega) hat rfl;refine⟨k,f',h1,?_,by rw[hm'];exact h3⟩;rw[hm'];exact h2.ats _ f'.at'
 ·exact sim_branch hr (by omega) hA.lt hi hA.live (hR.ats (m.at'+1) f.at') hat he hA'.live hfw rfl
theorem sim_last(hA:At l ps pk.length m)(hR:Rel m f)(hat:f.at'=lbegin l ps m.at'){i:Ins}{m':Mc}(hi:l[m.at']?=some i)(ho:i.op=28){m0:Mc}(hm0:∀r,m0.reg r=m.reg r)(he:estep pk i m0=(0,m')){v:U}(hv:m'.verdict=some v):FRuns (lmake l ps) pk 1 f v:=by
 have hla:lat l ps m.at'=[{ Fl.zero with do':=9 }]:=by
  rw[lat_of hi hA.live,lone,if_neg (by omega),if_neg (by omega),if_neg (by omega),if_pos ho]
 unfold estep at he;rw[if_neg (by omega),if_neg (by omega),if_neg (by omega),if_neg (by omega),if_neg (by omega),if_pos ho]at he;split at he
 ·simp at he
 by_cases c1:(m0.reg 0).1≠1
 ·rw[if_pos c1]at he;simp at he
 rw[if_neg c1]at he;have hm':=(congrArg Prod.snd he).symm;simp only at hm'
 have hv2:v=(m.reg 0).2:=by
  rw[hm']at hv;rw[<-hm0];exact(Option.some.inj hv).symm
 refine⟨{ Fl.zero with do':=9 },?_,.inl ⟨rfl,rfl,?_⟩⟩
 ·have h:=lmake_get (l:=l) (ps:=ps) m.at' 0 hA.lt _ (by rw[hla];rfl)
  rw[hat];exact h
 ·rw[hv2]
  exact(hR.reg 0 (by omega)).symm
theorem sim_runs(hs:Shaped l)(ht:Typed l ps)(hl:pk.length<=65535):∀(k:Nat) (m:Mc) (f:Fm) (v:U),At l ps pk.length m->Rel m f->f.at'=lbegin l ps m.at'->Runs l pk k m v->∃n,FRuns (lmake l ps) pk n f v
 | 0,_,_,_,_,_,_,h=>absurd h (by simp[Runs])
 | k+1,m,f,v,hA,hR,hat,h=>by
   obtain⟨i,m',hi,he,h3⟩:=h;obtain⟨i2,m2,hi2,he2,h4⟩:=step_at hs ht hl hA;rw[hi]at hi2;cases hi2
   rw[he]at he2;cases he2
   rcases h3 with⟨_,hv⟩|⟨hv,hr⟩
   ·have h28:i.op=28:=by
     have hri:i.right=true:=hs.right i (List.mem_of_getElem? hi);obtain⟨ah,af,hc,_,_⟩:=ht.went m.at' hA.lt i hi hA.live;obtain⟨m3,he3,ha⟩:=step_sound i hri pk rfl hl (hA.holds.at'' (m.at'+1)) hc;rw[he]at he3;cases he3
     rcases ha with⟨h,_⟩|⟨_,h,_⟩
     ·exact h
     ·have hvn:m.verdict=none:=hA.verdict
      rw[hv]at h;exact absurd (h.trans hvn) (by simp)
    exact⟨1,sim_last (m0:={ m with at':=m.at'+1 }) hA hR hat hi h28 (fun _=>rfl) he hv⟩
   ·rcases h4 with⟨v',hv'⟩|⟨hA',_⟩
    ·rw[hv]at hv';cases hv'
    ·obtain⟨n,f',h5,h6,h7⟩:=sim_step hs ht hl hA hR hat hi he hA'
     obtain⟨n2,h8⟩:=sim_runs hs ht hl k m' f' v hA' h6 h7 hr;exact⟨n+n2,h5.runs h8⟩
theorem sim_of(hs:Shaped l)(ht:Typed l ps)(pk:List B)(hl:pk.length<=65535){k:Nat}{v:U}(hr:Runs l pk k (Mc.start pk.length) v):∃n,FRuns (lmake l ps) pk n (Fm.start pk.length) v:=by
 obtain⟨h1,h2⟩:=ht.first _ rfl;exact sim_runs hs ht hl k _ _ v ⟨rfl,List.length_pos_iff.2 hs.ne,h1,h2.holds (ht.wf 0 h1) hl (start_holds _ hl)⟩ (start_rel _) rfl hr
end
def Ins.zero:Ins:=⟨0,false,0,0,false,0,0,0⟩
def insAt(l:List Ins)(j:Nat):Ins:=l.getD j Ins.zero
def firstOf(f:Nat->Int):Nat->Nat->Option (Int×Nat)
 | 0,_=>none
 | n+1,j=>if f j≠0 then some (f j,j)else firstOf f n (j+1)
theorem firstOf_none{f:Nat->Int}:∀ {n j:Nat},firstOf f n j=none->∀k,j<=k->k<j+n->f k=0
 | 0,_,_,k,h1,h2=>by omega
 | n+1,j,h,k,h1,h2=>by
   unfold firstOf at h;split at h
   ·cases h
   ·rename_i h0
    by_cases e:k=j
    ·subst e;exact Decidable.not_not.1 h0
    ·exact firstOf_none h k (by omega) (by omega)
theorem firstOf_some{f:Nat->Int}:∀ {n j:Nat} {r:Int×Nat},firstOf f n j=some r->r.1≠0/\j<=r.2/\r.2<j+n
 | 0,_,_,h=>by cases h
 | n+1,j,r,h=>by
   unfold firstOf at h;split at h
   ·rename_i h0
    cases h
    exact⟨h0,Nat.le_refl _,by omega⟩
   ·obtain⟨h1,h2,h3⟩:=firstOf_some h
    exact⟨h1,by omega,by omega⟩
def q1(l:List Ins)(j:Nat):Int:=if(insAt l j).right then 0 else 4
def q2(l:List Ins)(j:Nat):Int :=
 if(insAt l j).jumps=false then 0 else if(insAt l j).off<0 then 100 else if(l.length:Int)<=j+1+(insAt l j).off then 101 else 0
def q3(l:List Ins)(j:Nat):Int:=if j+1=l.length/\(insAt l j).op≠28/\(insAt l j).op≠16 then 102 else 0
def nexts(l:List Ins)(j:Nat):List Nat :=
 if(insAt l j).op=28 then[]else if(insAt l j).op=16 then[j+1+(insAt l j).off.toNat]else if(insAt l j).jumps=false\/(insAt l j).off=0 then[j+1]else[j+1,j+1+(insAt l j).off.toNat]
def markTo(c:List Bool)(j to:Nat):List Bool:=c.set to (c.getD to false||c.getD j false)
def comeStep(l:List Ins)(c:List Bool)(j:Nat):List Bool:=(nexts l j).foldl (fun c t=>markTo c j t) c
def comes(l:List Ins):Nat->List Bool
 | 0=>(List.replicate l.length false).set 0 true
 | n+1=>comeStep l (comes l n) n
def q4(l:List Ins)(j:Nat):Int:=if(comes l (j+1)).getD j false=false then 103 else 0
def orElse'(a b:Option (Int×Nat)):Option (Int×Nat):=match a with
 | some r=>some r
 | none=>b
def shapeO(l:List Ins):Option (Int×Nat):=orElse' (firstOf (q1 l) l.length 0) (orElse' (firstOf (q2 l) l.length 0) (orElse' (firstOf (q3 l) l.length 0) (firstOf (q4 l) l.length 0)))
def shapeF(l:List Ins):Int×Nat:=if l.length=0 then(6,0)else if 4096<l.length then(3,0)else match shapeO l with
 | some r=>r
 | none=>(0,0)
theorem insAt_get{l:List Ins}{j:Nat}{i:Ins}(h:l[j]?=some i):insAt l j=i:=by
 unfold insAt;rw[List.getD_eq_getElem?_getD,h];rfl
theorem shapeO_none{l:List Ins}(h:shapeO l=none):(∀j,j<l.length->q1 l j=0)/\(∀j,j<l.length->q2 l j=0)/\(∀j,j<l.length->q3 l j=0)/\(∀j,j<l.length->q4 l j=0):=by
 unfold shapeO at h;cases h1:firstOf (q1 l) l.length 0 with
 | some r=>rw[h1]at h;cases h
 | none =>
   rw[h1]at h;cases h2:firstOf (q2 l) l.length 0 with
   | some r=>rw[h2]at h;cases h
   | none =>
     rw[h2]at h;cases h3:firstOf (q3 l) l.length 0 with
     | some r=>rw[h3]at h;cases h
     | none =>
       rw[h3]at h;exact⟨fun j hj=>firstOf_none h1 j (Nat.zero_le _) (by omega),fun j hj=>firstOf_none h2 j (Nat.zero_le _) (by omega),fun j hj=>firstOf_none h3 j (Nat.zero_le _) (by omega),fun j hj=>firstOf_none h j (Nat.zero_le _) (by omega)⟩
theorem shapeF_err{l:List Ins}(h:(shapeF l).1=0):shapeF l=(0,0)/\l.length≠0/\l.length<=4096/\shapeO l=none:=by
 unfold shapeF at h ⊢;split at h
 ·cases h
 ·split at h
  ·cases h
  ·rename_i h1 h2
   cases ho:shapeO l with
   | none=>exact⟨by rw[if_neg h1,if_neg h2],h1,by omega,rfl⟩
   | some r =>
     rw[ho]at h;exfalso;unfold shapeO orElse' at ho
     repeat' split at ho
     all_goals first
      | (rename_i e;cases ho;exact(firstOf_some e).1 h)
      | exact(firstOf_some ho).1 h
theorem shaped_of{l:List Ins}(h:(shapeF l).1=0):Shaped l:=by
 obtain⟨_,hn,_,ho⟩:=shapeF_err h;obtain⟨h1,h2,h3,_⟩:=shapeO_none ho;refine⟨fun e=>hn (by rw[e];rfl),fun i hi=>?_,fun j i hi hj=>?_,fun j i hi ha hb=>?_⟩
 ·obtain⟨j,hj,e⟩:=List.getElem_of_mem hi
  have:=h1 j hj;unfold q1 at this;rw[insAt_get (List.getElem?_eq_some_iff.2 ⟨hj,e⟩)]at this;split at this
  ·assumption
  ·cases this
 ·have hl:=(List.getElem?_eq_some_iff.1 hi).1
  have:=h2 j hl;unfold q2 at this;rw[insAt_get hi,hj]at this;simp only[Bool.true_eq_false,if_false]at this;split at this
  ·cases this
  ·split at this
   ·cases this
   ·exact⟨by omega,by omega⟩
 ·have hl:=(List.getElem?_eq_some_iff.1 hi).1
  have:=h3 j hl;unfold q3 at this;rw[insAt_get hi]at this;split at this
  ·cases this
  ·rename_i hc
   rcases Nat.lt_or_ge (j+1) l.length with h|h
   ·exact h
   ·exact absurd ⟨by omega,ha,hb⟩ hc
def placesF(l:List Ins):(Int×Nat)×List Pl:=if(shapeF l).1≠0 then(shapeF l,[])else if(placesOf l).1.1≠0 then((placesOf l).1,[])else((0,0),(placesOf l).2)
theorem placesF_ok{l:List Ins}(h:(placesF l).1.1=0):(shapeF l).1=0/\(placesOf l).1.1=0/\placesF l=((0,0),(placesOf l).2):=by
 unfold placesF at h ⊢;split at h
 ·rename_i h1;exact absurd h h1
 ·split at h
  ·rename_i h1;exact absurd h h1
  ·rename_i h1 h2
   rw[if_neg h1,if_neg h2];exact⟨Decidable.not_not.1 h1,Decidable.not_not.1 h2,rfl⟩
def AllDead(ps:List Pl):Prop:=∀j,(plAt ps j).live=false->plAt ps j=Pl.dead
theorem told_dead{ps:List Pl}(h:AllDead ps)(t:Nat)(o:Option Pl)(ho:∀q,o=some q->q.live=true):AllDead (told ps t o):=by
 cases o with
 | none=>exact h
 | some q =>
   intro j hj;have e:plAt (told ps t (some q)) j=if t=j/\j<ps.length then(plAt ps t).tell q else plAt ps j:=plAt_set ps t j _
   rw[e]at hj ⊢;split
   ·rename_i hc
    rw[if_pos hc]at hj;exfalso;unfold Pl.tell at hj;split at hj
    ·cases hj
    ·rw[ho q rfl]at hj;cases hj
   ·rename_i hc
    rw[if_neg hc]at hj;exact h j hj
theorem pstep_dead{l:List Ins}{ps:List Pl}(h:AllDead ps)(hw:AllWf ps)(k:Nat)(he:(pstep l k ps).1=0):AllDead (pstep l k ps).2:=by
 unfold pstep at he ⊢;cases hi:l[k]? with
 | none=>exact h
 | some i =>
   rw[hi]at he;simp only at he ⊢;by_cases hl:(ps.getD k Pl.dead).live=true
   ·rw[if_pos hl]at he ⊢
    obtain⟨er,ah,af⟩:∃r,r=cstep i (ps.getD k Pl.dead):=⟨_,rfl⟩
    by_cases h0:(cstep i (ps.getD k Pl.dead)).1≠0
    ·rw[if_pos h0]at he;exact absurd he h0
    ·rw[if_neg h0]
     have hwf:=cstep_wf (hw k hl) i (ah:=(cstep i (ps.getD k Pl.dead)).2.1) (af:=(cstep i (ps.getD k Pl.dead)).2.2) (by
      have h1:(cstep i (ps.getD k Pl.dead)).1=0:=by simpa using h0
      show cstep i (ps.getD k Pl.dead)=_
      rw[<-h1])
     exact told_dead (told_dead h _ _ fun q hq=>(hwf.1 q hq).live) _ _ fun q hq=>(hwf.2 q hq).live
   ·rw[if_neg hl];exact h
theorem psteps_dead{l:List Ins}(hs:Shaped l):∀(n k:Nat) (ps:List Pl),ps.length=l.length->AllWf ps->(∀j,j<k->Went l ps j)->AllDead ps->(psteps l n k ps).1.1=0->AllDead (psteps l n k ps).2
 | 0,_,_,_,_,_,h,_=>h
 | n+1,k,ps,hl,hw,hj,h,he=>by
   unfold psteps at he ⊢;by_cases h0:(pstep l k ps).1≠0
   ·rw[if_pos h0]at he
    exact absurd he h0
   ·rw[if_neg h0]at he ⊢
    simp only[ne_eq,Decidable.not_not]at h0;obtain⟨a1,a2,a3,_,_⟩:=pstep_went hs hl hw k hj h0;exact psteps_dead hs n (k+1) _ a1 a2 a3 (pstep_dead h hw k h0) he
theorem placesOf_dead{l:List Ins}(hs:Shaped l)(he:(placesOf l).1.1=0):AllDead (placesOf l).2:=by
 have hd:∀j,plAt (List.replicate l.length Pl.dead) j=Pl.dead:=fun j=>by
  unfold plAt;rw[List.getD_eq_getElem?_getD,List.getElem?_replicate];split<;>rfl
 have h0:∀j,plAt (places0 l) j=if 0=j/\j<l.length then Pl.start else Pl.dead:=fun j=>by
  unfold places0;rw[plAt_set,hd,List.length_replicate]
 refine psteps_dead hs l.length 0 (places0 l) (by simp[places0]) (fun j hj=>?_) (fun j hj=>absurd hj (Nat.not_lt_zero _)) (fun j hj=>?_) he
 ·rw[h0]at hj ⊢
  split
  ·exact Pl.start_wf
  ·rename_i hne
   rw[if_neg hne]at hj;cases hj
 ·rw[h0]at hj ⊢
  split
  ·rename_i hc
   rw[if_pos hc]at hj;cases hj
  ·rfl
theorem plAt_lt{ps:List Pl}{j:Nat}(h:(plAt ps j).live=true):j<ps.length:=by
 refine Classical.byContradiction fun hn=>?_
 unfold plAt at h;rw[List.getD_eq_getElem?_getD,List.getElem?_eq_none (by omega)]at h;cases h
structure Tells(ps:List Pl)(t:Nat)(q:Pl):Prop where
 wf:q.Wf
 lt:t<ps.length
 at':(plAt ps t).Wf
 sub:q.In (plAt ps t)
theorem tells_of{ps:List Pl}(hw:AllWf ps){t:Nat}{q:Pl}(hq:q.Wf)(h:(plAt ps t).live=true/\q.In (plAt ps t)):Tells ps t q:=⟨hq,plAt_lt h.1,hw t h.1,h.2⟩
theorem holds_step{l:List Ins}{ps:List Pl}(hs:Shaped l)(ht:Typed l ps){j:Nat}{i:Ins}(hi:l[j]?=some i)(hlv:(plAt ps j).live=true):
  ∃ah af,cstep i (plAt ps j)=(0,ah,af)/\(∀q,ah=some q->Tells ps (j+1) q)/\(∀q,af=some q->0<=i.off/\Tells ps (j+1+i.off.toNat) q):=by
 have hj:j<l.length:=(List.getElem?_eq_some_iff.1 hi).1;obtain⟨ah,af,hc,h1,h2⟩:=ht.went j hj i hi hlv;obtain⟨w1,w2⟩:=cstep_wf (ht.wf j hlv) i hc;refine⟨ah,af,hc,fun q hq=>tells_of ht.wf (w1 q hq) (h1 q hq),fun q hq=>⟨?_,tells_of ht.wf (w2 q hq) (h2 q hq)⟩⟩;have hr:i.right=true:=hs.right i (List.mem_of_getElem? hi);exact(hs.fwd j i hi (jumps_of hr ((cstep_range hc).2 (by rw[hq];simp)))).1
theorem holds_first{l:List Ins}{ps:List Pl}(ht:Typed l ps):Tells ps 0 Pl.start:=tells_of ht.wf Pl.start_wf (ht.first _ rfl)
def Rightly(p:Pl):Prop:=(p.live=true->p.Wf)/\(p.live=false->p=Pl.dead)
theorem rightly_of{l:List Ins}(hs:Shaped l)(he:(placesOf l).1.1=0):∀p∈(placesOf l).2,Rightly p:=by
 intro p hp;obtain⟨j,hj,e⟩:=List.getElem_of_mem hp
 have ea:plAt (placesOf l).2 j=p:=by
  unfold plAt;rw[List.getD_eq_getElem?_getD,List.getElem?_eq_getElem hj,e];rfl
 exact⟨fun h=>ea▸(typed_of hs he).wf j (by rw[ea];exact h),fun h=>ea▸placesOf_dead hs he j (by rw[ea];exact h)⟩
def Pl.up(K:Kn)(p:Pl):Pl:=p.put 8 K
section
variable{K:Kn}{p q:Pl}
end
section
variable{l:List Ins}{a:Ins}{K:Kn}
theorem firstOf_of{f:Nat->Int}:∀ {n j:Nat},(∀k,j<=k->k<j+n->f k=0)->firstOf f n j=none
 | 0,_,_=>rfl
 | n+1,j,h=>by
   unfold firstOf;rw[if_neg (fun e=>e (h j (Nat.le_refl _) (by omega)))];exact firstOf_of fun k h1 h2=>h k (by omega) (by omega)
def Mc.up(v:Int×U)(m:Mc):Mc:={ m with regs:=m.regs.set 8 v,at':=m.at'+1 }
variable{v:Int×U}{m:Mc}
end
def reg16(r:Int):Prop:=0<=r/\r<=15
def Fl.okP(P:Nat->Prop)(f:Fl):Prop :=
 (∃d n,f={ Fl.zero with do':=1,d:=d,n:=n }/\reg16 d) \/
 (∃d a,f={ Fl.zero with do':=2,d:=d,a:=a }/\reg16 d/\reg16 a) \/
 (∃w nr d a b,f={ Fl.zero with do':=3,what:=w,narrow:=nr,d:=d,a:=a,b:=b }/\1<=w/\w<=13/\reg16 d/\reg16 a/\reg16 b/\(w=13->b=0)) \/
 (∃k d a n s,(k=4\/k=5)/\f={ Fl.zero with do':=k,d:=d,a:=a,n:=n,size:=s }/\reg16 d/\reg16 a/\sized s=true) \/
 (∃a b n s,f={ Fl.zero with do':=6,a:=a,b:=b,n:=n,size:=s }/\reg16 a/\reg16 b/\sized s=true) \/
 (∃to:Nat,f={ Fl.zero with do':=7,to:=(to:Int) }/\P to) \/
 (∃w nr a b,∃to:Nat,f={ Fl.zero with do':=8,what:=w,narrow:=nr,a:=a,b:=b,to:=(to:Int) }/\17<=w/\w<=27/\reg16 a/\reg16 b/\P to) \/
 f={ Fl.zero with do':=9 }
section
variable{P Q:Nat->Prop}
theorem ok_set{d:Int}(n:U)(h:reg16 d):Fl.okP P { Fl.zero with do':=1,d:=d,n:=n }:=.inl ⟨d,n,rfl,h⟩
theorem ok_move{d a:Int}(h:reg16 d)(h2:reg16 a):Fl.okP P { Fl.zero with do':=2,d:=d,a:=a }:=.inr (.inl ⟨d,a,rfl,h,h2⟩)
theorem ok_alu{w d a b:Int}(nr:Bool)(h0:1<=w)(h1:w<=13)(h:reg16 d)(h2:reg16 a)(h3:reg16 b)(h4:w=13->b=0):Fl.okP P { Fl.zero with do':=3,what:=w,narrow:=nr,d:=d,a:=a,b:=b }:=.inr (.inr (.inl ⟨w,nr,d,a,b,rfl,h0,h1,h,h2,h3,h4⟩))
theorem ok_load{k d a s:Int}(n:U)(hk:k=4\/k=5)(h:reg16 d)(h2:reg16 a)(hs:sized s=true):Fl.okP P { Fl.zero with do':=k,d:=d,a:=a,n:=n,size:=s }:=.inr (.inr (.inr (.inl ⟨k,d,a,n,s,hk,rfl,h,h2,hs⟩)))
theorem ok_write{a b s:Int}(n:U)(h:reg16 a)(h2:reg16 b)(hs:sized s=true):Fl.okP P { Fl.zero with do':=6,a:=a,b:=b,n:=n,size:=s }:=.inr (.inr (.inr (.inr (.inl ⟨a,b,n,s,rfl,h,h2,hs⟩))))
theorem ok_goto{to:Nat}(h:P to):Fl.okP P { Fl.zero with do':=7,to:=(to:Int) }:=.inr (.inr (.inr (.inr (.inr (.inl ⟨to,rfl,h⟩)))))
theorem ok_if{w a b:Int}(nr:Bool){to:Nat}(h0:17<=w)(h1:w<=27)(h2:reg16 a)(h3:reg16 b)(h:P to):Fl.okP P { Fl.zero with do':=8,what:=w,narrow:=nr,a:=a,b:=b,to:=(to:Int) }:=.inr (.inr (.inr (.inr (.inr (.inr (.inl ⟨w,nr,a,b,to,rfl,h0,h1,h2,h3,h⟩))))))
theorem ok_end:Fl.okP P { Fl.zero with do':=9 }:=.inr (.inr (.inr (.inr (.inr (.inr (.inr rfl))))))
end
section
variable{l:List Ins}{ps:List Pl}
def Later(l:List Ins)(ps:List Pl)(j to:Nat):Prop:=j<to/\to<l.length/\(plAt ps to).live=true
theorem lsec_ok{P:Nat->Prop}(i:Ins):∀g∈lsec i,g.okP P:=by
 unfold lsec;split
 ·intro g hg
  rw[List.mem_singleton]at hg;subst hg;exact ok_set _ ⟨by decide,by decide⟩
 ·intro g hg;cases hg
theorem lreg_16{i:Ins}(hs:0<=i.src/\i.src<=10):reg16 (lreg i):=by
 unfold lreg;split
 ·exact⟨by decide,by decide⟩
 ·exact⟨hs.1,by omega⟩
theorem goes_ok{j to:Nat}(h:Later l ps j to):∀g∈lgoes j (to:Int),g.okP (Later l ps j):=by
 unfold lgoes;split
 ·intro g hg
  rw[List.mem_singleton]at hg;subst hg;exact ok_goto h
 ·intro g hg;cases hg
theorem lone_ok(hs:Shaped l)(ht:Typed l ps){j:Nat}{i:Ins}(hi:l[j]?=some i)(hlv:(plAt ps j).live=true):∀g∈lone ps j i,g.okP (Later l ps j):=by
 have hjl:=(List.getElem?_eq_some_iff.1 hi).1;have hr:i.right=true:=hs.right i (List.mem_of_getElem? hi);obtain⟨hd,hsr,hof,him,hsz,hop,_⟩:=right_facts hr;have d16:reg16 i.dst:=⟨hd.1,by omega⟩
 have s16:reg16 i.src:=⟨hsr.1,by omega⟩
 have l16:=lreg_16 hsr;intro g hg;unfold lone at hg;split at hg
 ·rename_i h14
  rw[List.mem_singleton]at hg;subst hg;refine ok_load _ ?_ d16 s16 (hsz (.inl h14));split
  ·exact .inr rfl
  ·exact .inl rfl
 ·split at hg
  ·rename_i h15
   rcases List.mem_append.1 hg with hg|hg
   ·exact lsec_ok i g hg
   ·rw[List.mem_singleton]at hg
    subst hg;exact ok_write _ d16 l16 (hsz (.inr h15))
  ·split at hg
   ·rename_i h16
    have hjp:i.jumps=true:=by unfold Ins.jumps;rw[decide_eq_true_eq];omega
    obtain⟨hf0,hf⟩:=hs.fwd j i hi hjp
    have hlive:(plAt ps (j+1+i.off.toNat)).live=true:=by
     obtain⟨ah,af,hc,_,k2⟩:=ht.went j hjl i hi hlv;unfold cstep at hc;rw[if_neg (by omega),if_neg (by omega),if_pos h16]at hc;simp only[Prod.mk.injEq]at hc;exact(k2 _ hc.2.2.symm).1
    rw[show((j:Int)+1+i.off)=((j+1+i.off.toNat:Nat):Int)by omega]at hg;exact goes_ok ⟨by omega,hf,hlive⟩ g hg
   ·split at hg
    ·rw[List.mem_singleton]at hg
     subst hg;exact ok_end
    ·split at hg
     ·rename_i h14 h15 h16 h28 hjp
      obtain⟨hf0,hf⟩:=hs.fwd j i hi hjp;unfold lbranch at hg;split at hg
      ·cases hg
      ·rename_i hnl
       have hlive:(plAt ps (j+1+i.off.toNat)).live=true:=by
        cases e:(plAt ps (j+1+i.off.toNat)).live with
        | true=>rfl
        | false=>exact absurd (.inr e) hnl
       rw[show((j:Int)+1+i.off)=((j+1+i.off.toNat:Nat):Int)by omega]at hg;split at hg
       ·exact goes_ok ⟨by omega,hf,hlive⟩ g hg
       ·rcases List.mem_append.1 hg with hg|hg
        ·exact lsec_ok i g hg
        ·rw[List.mem_singleton]at hg
         subst hg;have hj2:16<=i.op/\i.op<=27:=by unfold Ins.jumps at hjp;exact of_decide_eq_true hjp
         exact ok_if _ (by omega) (by omega) d16 l16 ⟨by omega,hf,hlive⟩
     ·rename_i h14 h15 h16 h28 hjp
      have hj2:i.op<=13:=by
       unfold Ins.jumps at hjp;rw[decide_eq_true_eq]at hjp;omega
      unfold lreckon at hg;split at hg
      ·rename_i h13
       rw[List.mem_singleton]at hg;subst hg;exact ok_alu _ (by omega) (by omega) d16 d16 ⟨by decide,by decide⟩ fun _=>rfl
      ·split at hg
       ·rw[List.mem_singleton]at hg
        subst hg;exact ok_set _ d16
       ·split at hg
        ·rw[List.mem_singleton]at hg
         subst hg;exact ok_move d16 s16
        ·rename_i h13 _ _
         rcases List.mem_append.1 hg with hg|hg
         ·exact lsec_ok i g hg
         ·rw[List.mem_singleton]at hg
          subst hg;exact ok_alu _ (by omega) (by omega) d16 d16 l16 fun e=>absurd e h13
theorem lat_ok(hs:Shaped l)(ht:Typed l ps){j:Nat}:∀g∈lat l ps j,g.okP (Later l ps j):=by
 intro g hg;unfold lat at hg;cases hi:l[j]? with
 | none=>rw[hi]at hg;cases hg
 | some i =>
   rw[hi]at hg;simp only at hg;split at hg
   ·rename_i hlv
    exact lone_ok hs ht hi hlv g hg
   ·cases hg
theorem lout_inv{n x:Nat}{g:Fl}(h:(lout l ps n)[x]?=some g):∃j t,j<n/\x=lbegin l ps j+t/\(lat l ps j)[t]?=some g:=by
 induction n with
 | zero=>simp[lout]at h
 | succ n ih =>
   unfold lout at h;rcases Nat.lt_or_ge x (lout l ps n).length with hx|hx
   ·rw[List.getElem?_append_left hx]at h
    obtain⟨j,t,h1,h2,h3⟩:=ih h;exact⟨j,t,by omega,h2,h3⟩
   ·rw[List.getElem?_append_right hx]at h
    exact⟨n,x-(lout l ps n).length,by omega,by unfold lbegin;omega,h⟩
theorem lbegin_mono{j k:Nat}(h:j<=k):lbegin l ps j<=lbegin l ps k:=by
 induction k with
 | zero=>rw[show j=0 by omega];exact Nat.le_refl _
 | succ k ih =>
   rcases Nat.lt_or_ge j (k+1)with h1|h1
   ·rw[lbegin_succ]
    exact Nat.le_trans (ih (by omega)) (Nat.le_add_right _ _)
   ·rw[show j=k+1 by omega];exact Nat.le_refl _
theorem last_exit(hs:Shaped l)(ht:Typed l ps){j:Nat}{i:Ins}(hi:l[j]?=some i)(hlv:(plAt ps j).live=true)(hno:∀k,j<k->k<l.length->(plAt ps k).live=false):i.op=28:=by
 have hjl:=(List.getElem?_eq_some_iff.1 hi).1;have hr:i.right=true:=hs.right i (List.mem_of_getElem? hi);obtain⟨hd,hsr,hof,him,hsz,hop,_⟩:=right_facts hr;by_cases h28:i.op=28
 ·exact h28
 exfalso;obtain⟨ah,af,hc,k1,k2⟩:=ht.went j hjl i hi hlv
 have hnext:∀q,ah=some q->i.op≠16->False:=fun q hq h16=>by
  have h1:=(k1 q hq).1;rw[hno (j+1) (by omega) (hs.last j i hi h28 h16)]at h1;cases h1
 have hfar:∀q,af=some q->16<=i.op->False:=fun q hq h16=>by
  have h1:=(k2 q hq).1;have hjp:i.jumps=true:=by unfold Ins.jumps;rw[decide_eq_true_eq];omega
  rw[hno (j+1+i.off.toNat) (by omega) (hs.fwd j i hi hjp).2]at h1;cases h1
 unfold cstep at hc;split at hc
 ·rename_i h14
  split at hc
  ·rename_i he;simp only[Prod.mk.injEq]at hc;exact he hc.1
  ·simp only[Prod.mk.injEq]at hc
   exact hnext _ hc.2.1.symm (by omega)
 split at hc
 ·rename_i h15
  split at hc
  ·rename_i he;simp only[Prod.mk.injEq]at hc;exact he hc.1
  ·simp only[Prod.mk.injEq]at hc
   exact hnext _ hc.2.1.symm (by omega)
 split at hc
 ·rename_i h16
  simp only[Prod.mk.injEq]at hc;exact hfar _ hc.2.2.symm (by omega)
 first|rw[if_neg h28]at hc|skip
 split at hc
 ·split at hc
  ·rename_i he;simp only[Prod.mk.injEq]at hc;exact he hc.1
  ·simp only[Prod.mk.injEq]at hc
   exact hnext _ hc.2.1.symm (by omega)
 split at hc
 ·simp at hc
 split at hc
 ·rename_i he;simp only[Prod.mk.injEq]at hc;exact he hc.1
 split at hc
 ·rename_i he;simp only[Prod.mk.injEq]at hc;exact he hc.1
 rename_i h14 h15 h16 h13 hk ha hb;simp only[Prod.mk.injEq,true_and]at hc;have ha':=Decidable.not_not.1 ha;have hb':=Decidable.not_not.1 hb;have hw:=ht.wf j hlv;have ra:=(asN_sp hw (hw.reg i.dst) (s:=(asN (plAt ps j) ((plAt ps j).reg i.dst)).2) (by rw[<-ha'])).1;have rb:=(asN_sp hw (second_right hw i) (s:=(asN (plAt ps j) (second i (plAt ps j))).2) (by rw[<-hb'])).1;obtain⟨yes,p,hp⟩:=sif_one i.op i.narrow _ _ ⟨by omega,by omega⟩ ra rb;cases yes with
 | false =>
   have h1:ah≠none:=by rw[<-hc.1];unfold ended;rw[hp];simp
   cases ah with
   | none=>exact h1 rfl
   | some q=>exact hnext q rfl h16
 | true =>
   have h1:af≠none:=by rw[<-hc.2];unfold ended;rw[hp];simp
   cases af with
   | none=>exact h1 rfl
   | some q=>exact hfar q rfl (by omega)
theorem last_live(ht:Typed l ps)(hne:l ≠ []):∃j,j<l.length/\(plAt ps j).live=true/\∀k,j<k->k<l.length->(plAt ps k).live=false:=by
 have h0:(plAt ps 0).live=true:=(ht.first _ rfl).1;have hp:=List.length_pos_iff.2 hne;suffices ∀n,n<=l.length->0<n->∃j,j<n/\(plAt ps j).live=true/\∀k,j<k->k<n->(plAt ps k).live=false from this l.length (Nat.le_refl _) hp
 intro n
 induction n with
 | zero=>intro _ h;omega
 | succ n ih =>
   intro h1 _;cases hl:(plAt ps n).live with
   | true=>exact⟨n,by omega,hl,fun k h2 h3=>by omega⟩
   | false =>
     rcases Nat.eq_zero_or_pos n with rfl|hn
     ·rw[h0]at hl;cases hl
     ·obtain⟨j,g1,g2,g3⟩:=ih (by omega) hn
      refine⟨j,by omega,g2,fun k h2 h3=>?_⟩;rcases Nat.lt_or_ge k n with h4|h4
      ·exact g3 k h2 h4
      ·rw[show k=n by omega];exact hl
theorem lat_dead{j:Nat}(h:(plAt ps j).live=false):lat l ps j=[]:=by
 unfold lat;split
 ·rfl
 ·rw[h];rfl
theorem lout_succ(n:Nat):lout l ps (n+1)=lout l ps n++lat l ps n:=rfl
theorem lout_dead{j:Nat}:∀ {n:Nat},j<=n->(∀k,j<=k->k<n->(plAt ps k).live=false)->lout l ps n=lout l ps j
 | 0,h,_=>by rw[show j=0 by omega]
 | n+1,h,hd=>by
   rcases Nat.lt_or_ge j (n+1)with h1|h1
   ·rw[lout_succ,lat_dead (hd n (by omega) (by omega)),List.append_nil]
    exact lout_dead (by omega) fun k h2 h3=>hd k h2 (by omega)
   ·rw[show j=n+1 by omega]
theorem lmake_last(hs:Shaped l)(ht:Typed l ps):∃j,j<l.length/\(plAt ps j).live=true/\(∀k,j<k->k<l.length->(plAt ps k).live=false)/\lout l ps l.length=lout l ps j ++ [{ Fl.zero with do':=9 }]:=by
 obtain⟨j,h1,h2,h3⟩:=last_live ht hs.ne;have hi:l[j]?=some l[j]:=List.getElem?_eq_getElem h1;have h28:=last_exit hs ht hi h2 h3;refine⟨j,h1,h2,h3,?_⟩;rw[lout_dead (j:=j+1) (by omega) (fun k g1 g2=>h3 k (by omega) g2)];rw[lout_succ,lat_of hi h2,lone,if_neg (by omega),if_neg (by omega),if_neg (by omega),if_pos h28]
structure FRight(c:List Fl):Prop where
 ne:c ≠ []
 len:c.length<=16384
 last:∃f,c[c.length-1]?=some f/\f={ Fl.zero with do':=9 }
 all:∀x (f:Fl),c[x]?=some f->f.okP fun to=>x<to/\to<c.length
theorem lsec_len(i:Ins):(lsec i).length<=1:=by
 unfold lsec;split<;>simp
theorem lgoes_len(j:Nat)(to:Int):(lgoes j to).length<=1:=by
 unfold lgoes;split<;>simp
theorem lat_len2(j:Nat):(lat l ps j).length<=2:=by
 unfold lat;split
 ·simp
 ·rename_i i hi
  have h1:=lsec_len i;have h2:=lgoes_len j ((j:Int)+1+i.off);split
  ·unfold lone lreckon lbranch
   repeat' split
   all_goals (first|(simp only[List.length_append,List.length_cons,List.length_nil];omega)|omega)
  ·simp
theorem lout_len(n:Nat):(lout l ps n).length<=2*n:=by
 induction n with
 | zero=>simp[lout]
 | succ n ih =>
   unfold lout;have:=lat_len2 (l:=l) (ps:=ps) n;rw[List.length_append];omega
theorem lmake_right(hs:Shaped l)(ht:Typed l ps)(hl:l.length<=4096):FRight (lmake l ps):=by
 obtain⟨J,hJ,hlJ,hno,hout⟩:=lmake_last hs ht
 have hlen:(lmake l ps).length=(lout l ps J).length+1:=by
  unfold lmake;rw[List.length_map,hout,List.length_append];rfl
 refine⟨fun e=>by rw[e]at hlen;simp at hlen,?_,?_,fun x f hx=>?_⟩
 ·unfold lmake
  rw[List.length_map];have:=lout_len (l:=l) (ps:=ps) l.length;omega
 ·refine⟨_,?_,rfl⟩
  rw[hlen,Nat.add_sub_cancel];unfold lmake;rw[List.getElem?_map,hout,List.getElem?_append_right (Nat.le_refl _),Nat.sub_self];rfl
 ·unfold lmake at hx
  rw[List.getElem?_map]at hx;cases hg:(lout l ps l.length)[x]? with
  | none=>rw[hg]at hx;cases hx
  | some g =>
    rw[hg]at hx;obtain⟨j,t,hj,hxe,hgt⟩:=lout_inv hg;have hok:=lat_ok hs ht g (List.mem_of_getElem? hgt);have htl:=(List.getElem?_eq_some_iff.1 hgt).1
    have hto:∀to,Later l ps j to->x<lbegin l ps to/\lbegin l ps to<(lmake l ps).length:=fun to ⟨h1,h2,h3⟩=>by
     have m1:=lbegin_mono (l:=l) (ps:=ps) (show j+1<=to by omega);rw[lbegin_succ]at m1
     have hle:to<=J:=by
      rcases Nat.lt_or_ge J to with h4|h4
      ·rw[hno to h4 h2]at h3;cases h3
      ·exact h4
     have m2:=lbegin_mono (l:=l) (ps:=ps) hle;rw[hlen];unfold lbegin at *;omega
    simp only[Option.map,Option.some.injEq]at hx;subst hx;rcases hok with⟨d,n,rfl,h1⟩|⟨d,a,rfl,h1,h2⟩|⟨w,nr,d,a,b,rfl,h1,h2,h3,h4,h5,h6⟩|⟨k,d,a,n,s,hk,rfl,h1,h2,h3⟩|⟨a,b,n,s,rfl,h1,h2,h3⟩|⟨to,rfl,h1⟩|⟨w,nr,a,b,to,rfl,h1,h2,h3,h4,h5⟩|rfl
    ·rw[lpatch_other _ ⟨by simp,by simp⟩];exact ok_set _ h1
    ·rw[lpatch_other _ ⟨by simp,by simp⟩];exact ok_move h1 h2
    ·rw[lpatch_other _ ⟨by simp,by simp⟩];exact ok_alu _ h1 h2 h3 h4 h5 h6
    ·rw[lpatch_other _ ⟨by simp only;omega,by simp only;omega⟩];exact ok_load _ hk h1 h2 h3
    ·rw[lpatch_other _ ⟨by simp,by simp⟩];exact ok_write _ h1 h2 h3
    ·rw[lpatch,if_pos (.inl rfl)]
     exact ok_goto (to:=lbegin l ps ((to:Int)).toNat) (by rw[Int.toNat_natCast];exact hto to h1)
    ·rw[lpatch,if_pos (.inr rfl)]
     exact ok_if _ (to:=lbegin l ps ((to:Int)).toNat) h1 h2 h3 h4 (by rw[Int.toNat_natCast];exact hto to h5)
    ·rw[lpatch_other _ ⟨by simp,by simp⟩];exact ok_end
end
end Go.Proofs.YtfeipbgnjainlaaGreatDoor.T
