/- TExI, TExR, TLwA, TRnC, TIrB, TCkW -/
import Derived.Test.YtfeipbgnjainlaaGreatDoorTp2
import Derived.Test.YtfeipbgnjainlaaGreatDoorTp43
import Derived.Test.YtfeipbgnjainlaaGreatDoorTp4
import Derived.Test.YtfeipbgnjainlaaGreatDoorTp3
import Derived.Test.YtfeipbgnjainlaaGreatDoorTp10
import Derived.Test.YtfeipbgnjainlaaGreatDoorTp21
import Derived.Great.Ranges
import Derived.Test.YtfeipbgnjainlaaGreatDoorTp44
import Derived.Test.YtfeipbgnjainlaaGreatDoorTp47
import Derived.Test.YtfeipbgnjainlaaGreatDoorTp48
import Derived.Defers
import Derived.WalkLawsBesides
set_option linter.unusedVariables false
set_option linter.unusedSimpArgs false
set_option maxRecDepth 100000
set_option maxHeartbeats 8000000
namespace Go.Proofs.YtfeipbgnjainlaaGreatDoor.K
open Go Go.RowKit Go.Maps Go.Sort
theorem exDoes_any(op:Int)(h:1<=op/\op<=28)(w:World):Calls Tryz.prog 21 #[.int .u8 op] w (Ret w (if op=12 then .func (.func 55) #[] #[]else if op=13 then .func (.func 56) #[] #[]else if op=14 then .func (.func 57) #[] #[]else if op=15 then .func (.func 58) #[] #[]else if op=16 then .func (.func 59) #[] #[]else if op=28 then .func (.func 60) #[] #[]else if op<12 then .func (.func 61) #[] #[]else .func (.func 62) #[] #[])):=by
 have ht:=Tryz.underlying112;have hk:=Tryz.underlying53;obtain⟨v0,hv0⟩:∃v,v=Value.func (.func 55) #[] #[]:=⟨_,rfl⟩
 obtain⟨v1,hv1⟩:∃v,v=Value.func (.func 56) #[] #[]:=⟨_,rfl⟩
 obtain⟨v2,hv2⟩:∃v,v=Value.func (.func 57) #[] #[]:=⟨_,rfl⟩
 obtain⟨v3,hv3⟩:∃v,v=Value.func (.func 58) #[] #[]:=⟨_,rfl⟩
 obtain⟨v4,hv4⟩:∃v,v=Value.func (.func 59) #[] #[]:=⟨_,rfl⟩
 obtain⟨v5,hv5⟩:∃v,v=Value.func (.func 60) #[] #[]:=⟨_,rfl⟩
 have p0:=put_mes ht hk w [] 12 v0 (by decide) (by decide) (by simp);have p1:=put_mes ht hk w [(12,v0)] 13 v1 (by decide) (by decide) (by simp);have p2:=put_mes ht hk w [(12,v0),(13,v1)] 14 v2 (by decide) (by decide) (by simp);have p3:=put_mes ht hk w [(12,v0),(13,v1),(14,v2)] 15 v3 (by decide) (by decide) (by simp);have p4:=put_mes ht hk w [(12,v0),(13,v1),(14,v2),(15,v3)] 16 v4 (by decide) (by decide) (by simp);have p5:=put_mes ht hk w [(12,v0),(13,v1),(14,v2),(15,v3),(16,v4)] 28 v5 (by decide) (by decide) (by simp);simp only[List.cons_append,List.nil_append,List.length_cons,List.length_nil,Nat.reduceAdd]at p0 p1 p2 p3 p4 p5;have hb0:=heap_alloc_new w (.map (mes [(12,v0),(13,v1),(14,v2),(15,v3),(16,v4),(28,v5)]) 6);have l0:=look_mes ht hk hb0 12 v0 (by decide) (by decide) (by simp) (by simp);have l1:=look_mes ht hk hb0 13 v1 (by decide) (by decide) (by simp) (by simp);have l2:=look_mes ht hk hb0 14 v2 (by decide) (by decide) (by simp) (by simp);have l3:=look_mes ht hk hb0 15 v3 (by decide) (by decide) (by simp) (by simp);have l4:=look_mes ht hk hb0 16 v4 (by decide) (by decide) (by simp) (by simp);have l5:=look_mes ht hk hb0 28 v5 (by decide) (by decide) (by simp) (by simp);have hz:∀w,(zeroValue 71).run Tryz.prog w=.ok .nilFunc w:=fun w=>by kernel_rfl
 have ln:=fun(h0:0<=op) (h1:op<=255) (hf:∀p ∈ [(12,v0),(13,v1),(14,v2),(15,v3),(16,v4),(28,v5)],p.1≠op)=>look_none2 ht hk hb0 op .nilFunc (hz _) h0 h1 hf
 have e0:mes [] = #[]:=rfl;rw[e0]at p0;clear e0 hb0;generalize mes [(12,v0)]=E1 at p0 p1;generalize mes [(12,v0),(13,v1)]=E2 at p1 p2;generalize mes [(12,v0),(13,v1),(14,v2)]=E3 at p2 p3;generalize mes [(12,v0),(13,v1),(14,v2),(15,v3)]=E4 at p3 p4;generalize mes [(12,v0),(13,v1),(14,v2),(15,v3),(16,v4)]=E5 at p4 p5;generalize mes [(12,v0),(13,v1),(14,v2),(15,v3),(16,v4),(28,v5)]=E6 at p5 l0 l1 l2 l3 l4 l5 ln;have S1:=Hd (show Since w (w.alloc (.map E6 6))from(Below.refl _ _).alloc (Nat.le_refl _) _);have hmm:=run_makeMap (P:=Tryz.prog) 112 w;subst hv0 hv1 hv2 hv3 hv4 hv5;have hcs:(op=12\/op=13\/op=14\/op=15\/op=16\/op=28)\/(op≠12/\op≠13/\op≠14/\op≠15/\op≠16/\op≠28):=by omega
 rcases hcs with(rfl|rfl|rfl|rfl|rfl|rfl)|⟨n12,n13,n14,n15,n16,n28⟩
 case' inr =>
  have ln:=ln (by omega) (by omega) (by intro p hp;simp only[List.mem_cons,List.mem_nil_iff,or_false]at hp;rcases hp with rfl|rfl|rfl|rfl|rfl|rfl<;>simp only<;>omega);rw[if_neg n12,if_neg n13,if_neg n14,if_neg n15,if_neg n16,if_neg n28];clear n12 n13 n14 n15 n16 n28;by_cases h13:op<12
  case' pos=>rw[if_pos h13]
  case' neg=>rw[if_neg h13]
 all_goals
  go_enter Tryz.func21,Tryz.ntmps21;go_wp2;go_ret;exact⟨rfl,S1.o⟩
def ExStepF(F:FuncId)(i:T.Ins):Prop:=∀(M:Nat) (m m':T.Mc) (A:Option Addr) (n c:Nat) (pkl:List T.B) (vd:Value) (w0 w:World) (L:List Acc),Bank w0 w (boxAcc M 70 (mcL m (.slice A n c) vd)::L)->Mok m->RowRd w0 ⟨A,n,c⟩ pkl->n<=1000000->(i.jumps=true->0<=i.off/\(m.at':Int)+i.off<100000)->T.estep pkl i m=(0,m')->Calls Tryz.prog F #[.pointer (some ⟨M,0,none⟩),insV i] w (ExP w0 M m' (.slice A n c) (if i.op=28 then .pointer (some ⟨M,1,none⟩)else vd) L)
theorem unset_no{m:T.Mc}{r:Int}(h:¬T.unset m r=true):(m.reg r).1≠0:=by
 unfold T.unset at h;simpa using h
theorem exStep_move(i:T.Ins)(hr:i.right=true)(ho:i.op=12):ExStepF 55 i:=by
 intro M m m' A n c pkl vd w0 w L hB hok hrow hn hj he;obtain⟨hd,hs,_,_,_,hop,_⟩:=T.right_facts hr;unfold T.estep at he;rw[if_pos ho]at he;simp only at he;by_cases h1:T.secErr i m≠0
 ·rw[if_pos h1]at he;cases he
 by_cases h2:(i.narrow&&decide ((T.esecond i m).1≠1))=true
 ·rw[if_neg h1,if_pos h2]at he;cases he
 rw[if_neg h1,if_neg h2]at he;have he2:=congrArg Prod.snd he;simp only at he2;rw[if_neg (by omega),<-he2]
 exact exMove_ok i hB hok hd hs (Decidable.not_not.1 h1) (fun hnr=>by
  rw[hnr]at h2
  simpa using h2)
theorem exStep_turn(i:T.Ins)(hr:i.right=true)(ho:i.op=13):ExStepF 56 i:=by
 intro M m m' A n c pkl vd w0 w L hB hok hrow hn hj he;obtain⟨hd,hs,_,_,_,hop,_⟩:=T.right_facts hr;unfold T.estep at he;rw[if_neg (by omega),if_pos ho]at he;simp only at he;split at he
 ·cases he
 split at he
 ·cases he
 rename_i h1 h2;cases he
 rw[if_neg (by omega)];have h3:=Decidable.not_not.1 h2;have H:=exTurn_ok i hB hok hd ho h3;rw[<-h3]at H;exact H
theorem exStep_load(i:T.Ins)(hr:i.right=true)(ho:i.op=14):ExStepF 57 i:=by
 intro M m m' A n c pkl vd w0 w L hB hok hrow hn hj he;obtain⟨hd,hs,_,_,hsz,hop,_⟩:=T.right_facts hr;have hpl:pkl.length=n:=hrow.len;unfold T.estep at he;rw[if_neg (by omega),if_neg (by omega),if_pos ho]at he;simp only at he;split at he
 ·cases he
 split at he
 ·cases he
 rename_i h1 h2;split at he
 ·rename_i h3
  split at he
  ·rename_i h4
   exact absurd (congrArg Prod.fst he) h4
  rename_i h4;cases he
  rw[if_neg (by omega)];exact exLoadP_ok i hB hok hd hs hrow hn h3 (by rw[<-hpl];exact Decidable.not_not.1 h4)
 ·rename_i h3
  split at he
  ·cases he
  split at he
  ·cases he
  rename_i h4 h5;cases he
  rw[if_neg (by omega)];exact exLoadF_ok i hB hok hd hs ⟨unset_no h1,h2,h3⟩ (Decidable.not_not.1 h4) (hsz (.inl ho)) (by simpa using h5)
theorem or_unset{m:T.Mc}{i:T.Ins}(h:¬(T.unset m i.dst||decide (T.secErr i m≠0))=true):(m.reg i.dst).1≠0/\T.secErr i m=0:=by
 simp only[Bool.or_eq_true,decide_eq_true_eq,not_or,Decidable.not_not]at h;exact⟨unset_no h.1,h.2⟩
theorem exStep_put(i:T.Ins)(hr:i.right=true)(ho:i.op=15):ExStepF 58 i:=by
 intro M m m' A n c pkl vd w0 w L hB hok hrow hn hj he;obtain⟨hd,hs,_,_,hsz,hop,_⟩:=T.right_facts hr;unfold T.estep at he;rw[if_neg (by omega),if_neg (by omega),if_neg (by omega),if_pos ho]at he;simp only at he;split at he
 ·cases he
 split at he
 ·cases he
 split at he
 ·cases he
 split at he
 ·cases he
 rename_i h1 h2 h3 h4;cases he
 rw[if_neg (by omega)];obtain⟨k1,k2⟩:=or_unset h1;obtain⟨k3,k4⟩:=not_or.1 h3;exact exPut_ok i hB hok hd hs k2 ⟨k1,k3,h2⟩ (Decidable.not_not.1 k4) (Decidable.not_not.1 h4) (hsz (.inr ho))
theorem exStep_jump(i:T.Ins)(hr:i.right=true)(ho:i.op=16):ExStepF 59 i:=by
 intro M m m' A n c pkl vd w0 w L hB hok hrow hn hj he;unfold T.estep at he;rw[if_neg (by omega),if_neg (by omega),if_neg (by omega),if_neg (by omega),if_pos ho]at he;cases he
 rw[if_neg (by omega)];obtain⟨j1,j2⟩:=hj (by unfold T.Ins.jumps;rw[ho];decide);exact exJump_ok i hB hok j1 j2
theorem exStep_exit(i:T.Ins)(hr:i.right=true)(ho:i.op=28):ExStepF 60 i:=by
 intro M m m' A n c pkl vd w0 w L hB hok hrow hn hj he;unfold T.estep at he;rw[if_neg (by omega),if_neg (by omega),if_neg (by omega),if_neg (by omega),if_neg (by omega),if_pos ho]at he;split at he
 ·cases he
 split at he
 ·cases he
 rename_i h1 h2;cases he
 rw[if_pos ho];have H:=exExit_ok i hB hok (Decidable.not_not.1 h2);exact H
theorem exStep_reckon(i:T.Ins)(hr:i.right=true)(ho:i.op<12):ExStepF 61 i:=by
 intro M m m' A n c pkl vd w0 w L hB hok hrow hn hj he;obtain⟨hd,hs,_,_,hsz,hop,_⟩:=T.right_facts hr;unfold T.estep at he;rw[if_neg (by omega),if_neg (by omega),if_neg (by omega),if_neg (by omega),if_neg (by omega),if_neg (by omega),if_pos ho]at he;simp only at he;split at he
 ·cases he
 split at he
 ·cases he
 split at he
 ·rename_i h4
  exact absurd (congrArg Prod.fst he) h4
 rename_i h1 h2 h4;cases he
 rw[if_neg (by omega)];obtain⟨k1,k2⟩:=or_unset h1;obtain⟨k3,k4⟩:=not_or.1 h2;refine exReckon_ok i hB hok hd hs ⟨hop.1,ho⟩ k2 k1 (Decidable.not_not.1 k3) ?_ (Decidable.not_not.1 h4);by_cases h5:(m.reg i.dst).1=1
 ·exact .inl h5
 ·exact .inr (Decidable.not_not.1 fun h=>k4 ⟨h5,h⟩)
theorem exStep_branch(i:T.Ins)(hr:i.right=true)(ho:17<=i.op/\i.op<=27):ExStepF 62 i:=by
 intro M m m' A n c pkl vd w0 w L hB hok hrow hn hj he;obtain⟨hd,hs,_,_,hsz,hop,_⟩:=T.right_facts hr;unfold T.estep at he;rw[if_neg (by omega),if_neg (by omega),if_neg (by omega),if_neg (by omega),if_neg (by omega),if_neg (by omega),if_neg (by omega)]at he;simp only at he;split at he
 ·cases he
 split at he
 ·cases he
 rename_i h1 h2;obtain⟨k1,k2⟩:=or_unset h1;obtain⟨k3,k4⟩:=not_or.1 h2;have H:=exBranch_ok i hB hok hd hs ho k2 (Decidable.not_not.1 k3) (Decidable.not_not.1 k4) (fun _=>hj (by unfold T.Ins.jumps;simp;omega));rw[if_neg (by omega)];cases he
 exact H
theorem exDoes_step(i:T.Ins)(hr:i.right=true):∃F:FuncId,(∀w,Calls Tryz.prog 21 #[.int .u8 i.op] w (Ret w (.func (.func F) #[] #[])))/\(∀(a b:Value) (w:World),(callFunc F #[a,b]).run Tryz.prog w=.ok (.enter F #[a,b]) w)/\ExStepF F i:=by
 obtain⟨_,_,_,_,_,ho,_⟩:=T.right_facts hr;have hd:=fun w=>exDoes_any i.op ho w
 by_cases h12:i.op=12
 ·refine⟨55,fun w=>?_,fun a b w=>by kernel_rfl,exStep_move i hr h12⟩
  have:=hd w
  rwa [if_pos h12]at this
 by_cases h13:i.op=13
 ·refine⟨56,fun w=>?_,fun a b w=>by kernel_rfl,exStep_turn i hr h13⟩
  have:=hd w
  rwa [if_neg h12,if_pos h13]at this
 by_cases h14:i.op=14
 ·refine⟨57,fun w=>?_,fun a b w=>by kernel_rfl,exStep_load i hr h14⟩
  have:=hd w
  rwa [if_neg h12,if_neg h13,if_pos h14]at this
 by_cases h15:i.op=15
 ·refine⟨58,fun w=>?_,fun a b w=>by kernel_rfl,exStep_put i hr h15⟩
  have:=hd w
  rwa [if_neg h12,if_neg h13,if_neg h14,if_pos h15]at this
 by_cases h16:i.op=16
 ·refine⟨59,fun w=>?_,fun a b w=>by kernel_rfl,exStep_jump i hr h16⟩
  have:=hd w
  rwa [if_neg h12,if_neg h13,if_neg h14,if_neg h15,if_pos h16]at this
 by_cases h28:i.op=28
 ·refine⟨60,fun w=>?_,fun a b w=>by kernel_rfl,exStep_exit i hr h28⟩
  have:=hd w
  rwa [if_neg h12,if_neg h13,if_neg h14,if_neg h15,if_neg h16,if_pos h28]at this
 by_cases hlt:i.op<12
 ·refine⟨61,fun w=>?_,fun a b w=>by kernel_rfl,exStep_reckon i hr hlt⟩
  have:=hd w
  rwa [if_neg h12,if_neg h13,if_neg h14,if_neg h15,if_neg h16,if_neg h28,if_pos hlt]at this
 ·refine⟨62,fun w=>?_,fun a b w=>by kernel_rfl,exStep_branch i hr (by omega)⟩
  have:=hd w
  rwa [if_neg h12,if_neg h13,if_neg h14,if_neg h15,if_neg h16,if_neg h28,if_neg hlt]at this
set_option maxRecDepth 100000
set_option maxHeartbeats 8000000
def mcZero:T.Mc:=⟨List.replicate 11 (0,0),List.replicate 512 0,List.replicate 512 false,0,none⟩
def mcA(pk:Value):Array Value:=(mcL mcZero pk (.pointer none)).toArray
theorem built_mc(A:Option Addr)(n c:Nat):Tryz.prog.built 70 [(3,.slice A n c)]=some (mcA (.slice A n c)):=by kernel_rfl
theorem run_build_mc(A:Option Addr)(n c:Nat)(w:World):(Instr.build 70 #[(3,.slice A n c)]).run Tryz.prog w=.ok (.agg (mcA (.slice A n c))) w:=run_build w _ _ _ (built_mc A n c)
theorem mc_begin(pk vd:Value)(n:Nat):((((mcL mcZero pk vd).set 2 (.int .u8 2)).set 20 (.int .u8 3)).set 4 (.int .u8 1)).set 5 (W64 (BitVec.ofNat 64 n))=mcL (T.Mc.start n) pk vd:=by kernel_rfl
theorem mc_begin_ok(n:Nat):Mok (T.Mc.start n):=⟨rfl,List.length_replicate,List.length_replicate⟩
theorem at_buildL{P:Program}{ops:Array Oper}{Q:Exit->Act->World->Prop}{rest:List Oper}{a:Act}{w:World}{d:Option Tmp}{t:TypeId}{pos:String}{af:Array Edge}{g:Option (Nat×Bool)}(ty:TypeId){ps:Array (Nat×Operand)}
  (h:wpList P ops Q (⟨d,.build ty ps,t,pos,af,g⟩::rest) a w):wpList P ops Q (⟨d,.build ty ps,t,pos,af,g⟩::rest) a w:=h
theorem at_boxL{P:Program}{ops:Array Oper}{Q:Exit->Act->World->Prop}{rest:List Oper}{a:Act}{w:World}{d:Option Tmp}{t:TypeId}{pos:String}{af:Array Edge}{g:Option (Nat×Bool)}(ty:TypeId){x:Operand}
  (h:wpList P ops Q (⟨d,.box ty x,t,pos,af,g⟩::rest) a w):wpList P ops Q (⟨d,.box ty x,t,pos,af,g⟩::rest) a w:=h
theorem wpList_build_run{P:Program}{ops:Array Oper}{Q:Exit->Act->World->Prop}{rest:List Oper}{a:Act}{w:World}{o:Oper}(hg:o.guard=none)(t:TypeId)(parts:Array (Nat×Operand))(ho:o.op=.build t parts)(v:Value)
  (hr:(Instr.build t (parts.map fun(i,x)=>(i,a.eval x))).run P w=.ok v w) (h:wpList P ops Q rest (a.put o.dst v) w):wpList P ops Q (o::rest) a w :=
 wpList_plain hg fun K hK=>by
  unfold Oper.wp execOp;simp only[ho,Sem.run_bind,hr,Result.andThen_ok];exact hK _ _ h
def leftBy(X j k:Nat)(w:World):Nat:=match w.cell? ⟨X,j,none⟩with
 | some (.int _ z)=>k-z.toNat
 | _=>0
theorem leftBy_at{X j k q:Nat}{w:World}{t:IntKind}(h:w.cell? ⟨X,j,none⟩=some (.int t (q:Int))):leftBy X j k w=k-q:=by unfold leftBy;rw[h];rfl
theorem conv_len(n:Nat)(w:World):(convert 3 39 (.int .i64 (n:Int))).run Tryz.prog w=.ok (W64 (BitVec.ofNat 64 n)) w:=by
 have h:=wide_wrap (n:Int);have e:T.wide (n:Int)=BitVec.ofNat 64 n:=by unfold T.wide;exact BitVec.ofInt_natCast 64 n
 rw[e]at h;unfold W64;rw[<-h];simp[convert,run_underlying Tryz.underlying3,run_underlying Tryz.underlying39,Conv.intToInt]
theorem ite_P{α:Type _}{c:Prop} [Decidable c]{P:α->Prop}{a b:α}(ha:P a)(hb:P b):P (if c then a else b):=by split<;>assumption
theorem estep_vd'{pk:List T.B}{i:T.Ins}{m:T.Mc}(h28:i.op≠28):(T.estep pk i m).2.verdict=m.verdict:=by
 unfold T.estep;rw[if_neg h28];dsimp only
 repeat' (refine ite_P (P:=fun r:Int×T.Mc=>r.2.verdict=m.verdict) ?_ ?_)
 all_goals first|rfl|(dsimp only;split<;>rfl)
theorem estep_vd{pk:List T.B}{i:T.Ins}{m m':T.Mc}(he:T.estep pk i m=(0,m')):(i.op=28/\m'.verdict=some (m.reg 0).2/\m'.reg 0=m.reg 0)\/(i.op≠28/\m'.verdict=m.verdict):=by
 by_cases h28:i.op=28
 ·left
  refine⟨h28,?_⟩;unfold T.estep at he;rw[if_neg (by omega),if_neg (by omega),if_neg (by omega),if_neg (by omega),if_neg (by omega),if_pos h28]at he;split at he
  ·cases he
  split at he
  ·cases he
  cases he
  exact⟨rfl,rfl⟩
 ·right
  refine⟨h28,?_⟩;have h:=estep_vd' (pk:=pk) (m:=m) h28;rw[he]at h;exact h
theorem estep_ok'{pk:List T.B}{i:T.Ins}{m:T.Mc}(hok:Mok m):Mok (T.estep pk i m).2:=by
 unfold T.estep;dsimp only
 repeat' (refine ite_P (P:=fun r:Int×T.Mc=>Mok r.2) ?_ ?_)
 all_goals first
  | exact hok
  | (dsimp only;split<;>first|exact hok|exact⟨hok.rl,hok.tl,hok.sl⟩)
  | exact hok.put _ _
  | exact⟨hok.rl,hok.tl,hok.sl⟩
  | exact⟨hok.rl,by simp[T.puts,hok.tl],by simp[T.setAll,hok.sl]⟩
theorem estep_ok{pk:List T.B}{i:T.Ins}{m m':T.Mc}(hok:Mok m)(he:T.estep pk i m=(0,m')):Mok m':=by
 have h:=estep_ok' (pk:=pk) (i:=i) hok;rw[he]at h;exact h
theorem exRun_ok(b o n c:Nat)(l:List T.Ins)(A:Option Addr)(pn pc:Nat)(pkl:List T.B)(w:World)(hr:InsRd w b o l)(hl:l.length=n)(hn:n<=4096)(hrow:RowRd w ⟨A,pn,pc⟩ pkl)(hpn:pn<=65535)(hsp:T.Shaped l)(hsf:(T.shapeF l).1=0)(k:Nat)(hk:k<=4096)(v:T.U)(hruns:T.Runs l pkl k (T.Mc.start pn) v):
  Calls Tryz.prog 13 #[.slice (some ⟨b,o,none⟩) n c,.slice A pn pc] w (Ret w (.agg #[.int .i64 0,.int .i64 0,W64 v,.int .i64 (k:Int)])):=by
 have HR:=Hd hr;have HL:=Hd hl;have HROW:=Hd hrow;have HSP:=Hd hsp;have HRUN:=Hd hruns;clear hr hl hrow hsp hruns;have BK0:=Hd ((Bank.nil (Below.refl w.heap.size w)).bx [.int .i64 0,.int .i64 0,W64 0#64,.int .i64 0] 41);go_enter Tryz.func13,Tryz.ntmps13;go_upto_region 1 with fail;generalize w.heap.size=X at *;refine wp_hid BK0 (fun w1 BK0=>?_);go_wp2_with fail;refine(shapeCheck_any b o c n l _ (HR.o.since BK0.o.since) HL.o hn).mono ?_;rintro e w2 ⟨rfl,hs⟩;have BK1:=Hd (BK0.o.call hs);clear hs BK0;unfold shapeV;rw[hsf];obtain⟨z2,hz2⟩:∃z,((T.shapeF l).2:Int)=z:=⟨_,rfl⟩
 rw[hz2];clear hz2 hsf;have hpl:¬(65535:Int)<(pn:Int):=by omega
 go_upto_region 6 with fail;have BK2:=Hd (BK1.o.bx [.int .i64 0,.int .i64 z2] 27);generalize w2.heap.size=F at *;refine wp_hid BK2 (fun w3 BK2=>?_);clear BK1;obtain⟨M,hM⟩:∃M,w3.heap.size=M:=⟨_,rfl⟩
 go_wp2_with (first|(with_reducible refine at_buildL 70 ?_;refine wpList_build_run rfl _ _ rfl (.agg (mcA (.slice A pn pc))) (run_build_mc A pn pc _) ?_)|(with_reducible refine at_boxL 70 ?_;refine Great.wpList_boxTo rfl _ _ rfl (some 26) rfl M hM (mcA (.slice A pn pc)) rfl ?_));have BK3:=Hd (hM▸BK2.o.box (mcA (.slice A pn pc)) 70 (by show(mcL mcZero (.slice A pn pc) (.pointer none)).length<=1000000;rw[mcL_len ⟨List.length_replicate,List.length_replicate,List.length_replicate⟩];decide));clear hM BK2;generalize(w3.alloc (.cells (mcA (.slice A pn pc)) 70))=w4 at *;refine WL.begin 99 (fun _=>True) (fun _=>True) (by kernel_rfl) trivial trivial (fun hs=>?_);have BK4:=Hd BK3.o.drew;clear BK3;generalize w4.drew=w5 at *;refine WL.tk [(0,[]),(1,[]),(2,[]),(3,[]),(4,[]),(5,[]),(7,[]),(8,[])] hs ?_;clear hs
 iterate 8
  (first|refine WLp ?_ ?_ ?_|refine WLl ?_ ?_ ?_);rotate_left
  ·intro w hc;go_simp<;>rfl
  simp only[Act.put,sA,sZ,sS]
 refine TKs.mk ?_;intro hs;refine WLo 6 hs ?_;clear hs;intro K hK;have c0:=BK4.o.cl 0 2;have f0:=BK4.o.free 0 rfl 2;go_simp;have BK5:=Hd (BK4.o.bs 0 2 (.int .u8 2));clear c0 f0;refine hK.o _ _ (SaT trivial) ?_;clear hK K;intro hs;try simp only[Act.put]
 refine WL.tk [(9,[]),(10,[])] hs ?_;clear hs
 iterate 2
  (first|refine WLp ?_ ?_ ?_|refine WLl ?_ ?_ ?_);rotate_left
  ·intro w hc;go_simp<;>rfl
  simp only[Act.put,sA,sZ,sS]
 refine TKs.mk ?_;intro hs;refine WLo 11 hs ?_;clear hs;intro K hK;have c0:=BK5.o.cl 0 20;have f0:=BK5.o.free 0 rfl 20;go_simp;have BK6:=Hd (BK5.o.bs 0 20 (.int .u8 3));clear c0 f0;refine hK.o _ _ (SaT trivial) ?_;clear hK K;intro hs;try simp only[Act.put]
 clear hs;refine WLd ?_ _;try simp only[Exit.then]
 have hcl:=conv_len pn;have c4:=BK6.o.cl 0 4;have c5:=BK6.o.cl 0 5;have f4:=BK6.o.free 0 rfl 4;have f5:=BK6.o.free 0 rfl 5;have BK7:=Hd ((BK6.o.bs 0 4 (.int .u8 1)).bs 0 5 (W64 (BitVec.ofNat 64 pn)));go_wp2_with fail;have BK8:=Hd (mc_begin (.slice A pn pc) (.pointer none) pn▸BK7.o);clear c4 c5 f4 f5 hcl hpl BK6 BK7 BK4 BK5;go_loopw [7,8,9] (fun(_ _ _:Value) wr=>∃(j:Nat) (m:T.Mc) (vd:Value),j<=k/\Mok m/\Bank w wr (boxAcc M 70 (mcL m (.slice A pn pc) vd)::boxAcc F 27 [.int .i64 0,.int .i64 z2]::boxAcc X 41 [.int .i64 0,.int .i64 0,W64 0#64,.int .i64 (j:Int)]::[])/\((m.verdict=none/\vd=.pointer none/\T.Runs l pkl (k-j) m v)\/(j=k/\vd=.pointer (some ⟨M,1,none⟩)/\(m.reg 0).2=v))) (fun _ _ _ wr=>leftBy X 3 k wr)
 case atStart=>exact⟨0,T.Mc.start pn,.pointer none,Nat.zero_le _,mc_begin_ok pn,BK8.o,.inl ⟨rfl,rfl,HRUN.o⟩⟩
 case round =>
  obtain⟨j,m,vd,hj,hok,hB,hrel⟩:=hrel;have BK9:=Hd hB;have HM:=Hd (leftBy_at (k:=k) (hB.cl 2 3));have HJ:=Hd hj;have m8:=hB.cell 0 rfl 1048 (mcL_end hok _ _ 2);clear hB BK8 hj;rcases hrel with⟨hv,rfl,hrn⟩|⟨rfl,rfl,hv⟩
  ·obtain⟨q,hq⟩:∃q,k-j=q+1:=by
    cases hkj:k-j with
    | zero=>rw[hkj]at hrn;exact absurd hrn (by simp[T.Runs])
    | succ q=>exact⟨q,rfl⟩
   rw[hq]at hrn;obtain⟨i,m',hi,he,hlast⟩:=hrn;have hat:m.at'<n:=by rw[<-HL.o];exact(List.getElem?_eq_some_iff.1 hi).1
   have hri:=HSP.o.right i (List.mem_of_getElem? hi);obtain⟨FD,hdoes,hcf,hstep⟩:=exDoes_step i hri;have HSTEP:=Hd hstep;have HDOES:=Hd hdoes;have HE:=Hd he;have HLAST:=Hd hlast;have HQ:=Hd hq;have HI:=Hd hi;have HVN:=Hd hv;clear hstep hdoes he hlast hq hri hi hv;have m7:=BK9.o.cell 0 rfl 1047 (mcL_end hok _ _ 1);have t0:(0:Int)<=(m.at':Int):=by omega
   have t1:(m.at':Int)<(n:Int):=by omega
   go_upto_region 10 with fail;obtain⟨i0,i1,i2,i3,i4,i5,i6,i7⟩:=(HR.o.since BK9.o.since).cells HI.o;clear m8;refine WL.begin 12 (fun w'=>w'.cell? ⟨b,o+m.at'*8,none⟩=some (.int .u8 i.op)/\w'.cell? ⟨b,o+m.at'*8+1,none⟩=some (.bool i.narrow)/\w'.cell? ⟨b,o+m.at'*8+2,none⟩=some (.int .i64 i.dst)/\w'.cell? ⟨b,o+m.at'*8+3,none⟩=some (.int .i64 i.src)/\w'.cell? ⟨b,o+m.at'*8+4,none⟩=some (.bool i.useImm)/\w'.cell? ⟨b,o+m.at'*8+5,none⟩=some (.int .i64 i.off)/\w'.cell? ⟨b,o+m.at'*8+6,none⟩=some (.int .i64 i.imm)/\w'.cell? ⟨b,o+m.at'*8+7,none⟩=some (.int .i64 i.size)) (fun w'=>w'.cell? ⟨M,1047,none⟩=some (.int .i64 (m.at':Int))) (by kernel_rfl) ⟨i0,i1,i2,i3,i4,i5,i6,i7⟩ m7 (fun hs=>?_);have BKa:=Hd BK9.o.drew;have m7:=BKa.o.cell 0 rfl 1047 (mcL_end hok _ _ 1);generalize wr.drew=wa at *;refine WL.tk [(0,[]),(1,[]),(2,[]),(3,[]),(4,[]),(5,[]),(6,[6]),(7,[]),(8,[]),(9,[]),(10,[])] hs ?_;clear hs
   iterate 11
    (first|refine WLp ?_ ?_ ?_|refine WLl ?_ ?_ ?_);rotate_left
    ·intro w hc;go_simp<;>rfl
    simp only[Act.put,sA,sZ,sS]
   refine TKs.mk ?_;intro hs;refine WLo 11 hs ?_;clear hs;intro K hK;go_simp;have BKb:=Hd (BKa.o.bx [.int .u8 0,.bool false,.int .i64 0,.int .i64 0,.bool false,.int .i64 0,.int .i64 0,.int .i64 0] 55);refine hK.o _ _ (SApp.intro (fun _=>(HR.o.since BKb.o.since).cells HI.o) (BKb.o.cell 1 rfl 1047 (mcL_end hok _ _ 1))) ?_;generalize wa.heap.size=I at *;generalize(wa.alloc (.cells #[.int .u8 0,.bool false,.int .i64 0,.int .i64 0,.bool false,.int .i64 0,.int .i64 0,.int .i64 0] 55))=wb at *;clear hK K;intro hs;try simp only[Act.put,sA,sZ,sS]
   refine WLo 12 hs ?_;clear hs;intro K hK;obtain⟨r0,fr0⟩:=BKb.o.r1 0 rfl;have r1:=BKb.o.cl 0 1;have fr1:=BKb.o.free 0 rfl 1;have r2:=BKb.o.cl 0 2;have fr2:=BKb.o.free 0 rfl 2;have r3:=BKb.o.cl 0 3;have fr3:=BKb.o.free 0 rfl 3;have r4:=BKb.o.cl 0 4;have fr4:=BKb.o.free 0 rfl 4;have r5:=BKb.o.cl 0 5;have fr5:=BKb.o.free 0 rfl 5;have r6:=BKb.o.cl 0 6;have fr6:=BKb.o.free 0 rfl 6;have r7:=BKb.o.cl 0 7;have fr7:=BKb.o.free 0 rfl 7;go_simp;have BKc:=Hd (((((((((BKb.o.bs 0 0 (.int .u8 i.op)).bs 0 1 (.bool i.narrow)).bs 0 2 (.int .i64 i.dst)).bs 0 3 (.int .i64 i.src)).bs 0 4 (.bool i.useImm)).bs 0 5 (.int .i64 i.off)).bs 0 6 (.int .i64 i.imm)).bs 0 7 (.int .i64 i.size)));clear r0 fr0 r1 fr1 r2 fr2 r3 fr3 r4 fr4 r5 fr5 r6 fr6 r7 fr7;refine hK.o _ _ (SApp.intro (fun h=>(by cases h)) (BKc.o.cell 1 rfl 1047 (mcL_end hok _ _ 1))) ?_;clear hK K;intro hs;try simp only[Act.put]
   refine WLo 13 hs ?_;clear hs;intro K hK;go_simp;refine hK.o _ _ (SApp.intro (fun h=>(by cases h)) (BKc.o.cell 1 rfl 1047 (mcL_end hok _ _ 1))) ?_;clear hK K;intro hs;try simp only[Act.put,sA,sZ,sS]
   clear hs;refine WLd ?_ _;try simp only[Exit.then]
   have kw:IntKind.i64.wrap ((m.at':Int)+1)=((m.at'+1:Nat):Int):=by rw[IntWalk.i64_in _ (by have:=HL.o;omega)];omega
   have kj:IntKind.i64.wrap ((j:Int)+1)=((j+1:Nat):Int):=by rw[IntWalk.i64_in _ (by have:=HJ.o;omega)];omega
   clear i0 i1 i2 i3 i4 i5 i6 i7 m7;have m7:=BKc.o.cell 1 rfl 1047 (mcL_end hok _ _ 1);have fm7:=BKc.o.free 1 rfl 1047;have x3:=BKc.o.cl 3 3;have fx3:=BKc.o.free 3 rfl 3;have hne:=BKc.o.ne (i:=1) (j:=3) rfl rfl (by decide);have hne':=Ne.symm hne;go_upto_region 13 with fail;have BKd:=Hd ((BKc.o.bs 1 1047 (.int .i64 ((m.at'+1:Nat):Int))).bs 3 3 (.int .i64 ((j+1:Nat):Int)));have hX:Bank w _ (boxAcc I 55 [.int .u8 i.op,.bool i.narrow,.int .i64 i.dst,.int .i64 i.src,.bool i.useImm,.int .i64 i.off,.int .i64 i.imm,.int .i64 i.size]::boxAcc M 70 (mcL { m with at':=m.at'+1 } (.slice A pn pc) (.pointer none))::boxAcc F 27 [.int .i64 0,.int .i64 z2]::boxAcc X 41 [.int .i64 0,.int .i64 0,W64 0#64,.int .i64 ((j+1:Nat):Int)]::[]):=mcL_at hok _ _ (m.at'+1)▸BKd.o;have hX:=hX.permB (List.Perm.swap _ _ _);refine wp_bank _ hX (fun wd hz=>?_);clear hX BKd BKc m7 fm7 x3 fx3 hne hne' BK9 kw kj t0 t1;have BKe:=Hd hz;clear hz;have BKf:=Hd BKe.o.drew;refine WL.begin 5 (fun w'=>w'.cell? ⟨I,0,none⟩=some (.int .u8 i.op)/\w'.cell? ⟨I,1,none⟩=some (.bool i.narrow)/\w'.cell? ⟨I,2,none⟩=some (.int .i64 i.dst)/\w'.cell? ⟨I,3,none⟩=some (.int .i64 i.src)/\w'.cell? ⟨I,4,none⟩=some (.bool i.useImm)/\w'.cell? ⟨I,5,none⟩=some (.int .i64 i.off)/\w'.cell? ⟨I,6,none⟩=some (.int .i64 i.imm)/\w'.cell? ⟨I,7,none⟩=some (.int .i64 i.size)) (fun _=>True) (by kernel_rfl) ⟨BKf.o.cl 1 0,BKf.o.cl 1 1,BKf.o.cl 1 2,BKf.o.cl 1 3,BKf.o.cl 1 4,BKf.o.cl 1 5,BKf.o.cl 1 6,BKf.o.cl 1 7⟩ trivial (fun hs=>?_);generalize wd.drew=wf at *;refine WL.tk [(0,[]),(1,[2,1]),(3,[]),(4,[4])] hs ?_;clear hs
   iterate 4
    (first|refine WLp ?_ ?_ ?_|refine WLl ?_ ?_ ?_);rotate_left
    ·intro w hc;go_simp<;>rfl
    simp only[Act.put,sA,sZ,sS]
   refine TKs.mk ?_;intro hs;refine WLo 2 hs ?_;clear hs;intro K hK;go_simp;refine(HDOES.o _).mono ?_;rintro e w7 ⟨rfl,hs⟩;have BKg:=Hd (BKf.o.call hs);clear hs;refine hK.o _ _ (SApp.intro (fun _=>⟨BKg.o.cl 1 0,BKg.o.cl 1 1,BKg.o.cl 1 2,BKg.o.cl 1 3,BKg.o.cl 1 4,BKg.o.cl 1 5,BKg.o.cl 1 6,BKg.o.cl 1 7⟩) trivial) ?_;clear hK K;intro hs;try simp only[Act.put,sA,sZ,sS]
   refine WLo 5 hs ?_;clear hs;intro K hK;go_simp;refine(HSTEP.o M _ m' A pn pc pkl _ w _ _ BKg.o (hok.ats _) HROW.o (by omega) (fun hj=>by have h1:=HSP.o.fwd _ i HI.o hj;have:=HL.o;simp only;omega) HE.o).mono ?_;rintro e w8 ⟨rfl,hb⟩;have BKh:=Hd hb;clear hb;refine hK.o _ _ SaF ?_;clear hK K;intro hs;try simp only[Act.put,sA,sZ,sS]
   refine WLo 6 hs ?_;clear hs;intro K hK;go_simp;refine hK.o _ _ SaF ?_;clear hK K;intro hs;try simp only[Act.put,sA,sZ,sS]
   clear hs;refine WLd ?_ _;try simp only[Exit.then]
   go_wp2;go_round
   case rel =>
    have hq:=HQ.o;have hj:=HJ.o;have hB:=BKh.o.sub (.cons_cons _ (.cons _ (.refl _)));refine⟨j+1,m',_,by omega,estep_ok (hok.ats _) HE.o,hB,?_⟩;rcases estep_vd HE.o with⟨h28,hv1,hv2⟩|⟨h28,hv1⟩
    ·rcases HLAST.o with⟨rfl,hv3⟩|⟨hv3,_⟩
     ·right
      rw[hv1]at hv3;refine⟨by omega,if_pos h28,?_⟩;rw[hv2];exact Option.some.inj hv3
     ·rw[hv1]at hv3;cases hv3
    ·rcases HLAST.o with⟨rfl,hv3⟩|⟨hv3,hrn⟩
     ·rw[hv1]at hv3
      exact absurd (HVN.o.symm.trans hv3) (by simp)
     ·left
      refine⟨hv3,if_neg h28,?_⟩;rw[show k-(j+1)=q by omega];exact hrn
   case measure =>
    have hq:=HQ.o;rw[HM.o];exact Nat.lt_of_le_of_lt (Nat.le_of_eq (leftBy_at (k:=k) (BKh.o.cl 3 3))) (by omega)
  ·have m1:=BK9.o.cell 0 rfl 1 (hv▸(mcL_reg hok (.slice A pn pc) (.pointer (some ⟨M,1,none⟩)) 0 (by decide)).2)
   obtain⟨x0,x1,x2,x3,fx0,fx1,fx2,fx3⟩:=BK9.o.r4 2 rfl;go_wp2;rw[run_storeCells_W64];go_simp;go_wp2;clear x0 x1 x2 x3;have BKa:=Hd (((((BK9.o.bs 2 2 (W64 v)).bs 2 0 (.int .i64 0)).bs 2 1 (.int .i64 0)).bs 2 2 (W64 v)).bs 2 3 (.int .i64 (j:Int)));obtain⟨x0,x1,x2,x3⟩:=BKa.o.q4 2 rfl;refine bodyPost_ret (v:=.agg #[.int .i64 0,.int .i64 0,W64 v,.int .i64 (j:Int)]) ?_ rfl ⟨rfl,BKa.o.since⟩;simp[results,Tryz.results13,go_sem,x0,x1,x2,x3]
set_option maxRecDepth 100000
set_option maxHeartbeats 4000000
theorem infoFl:(Tryz.prog.info? 58).map (fun i=>(i.zero,i.size,i.bytes))=some (some (.agg #[.int .u8 0,.int .u8 0,.bool false,.int .i64 0,.int .i64 0,.int .i64 0,.int .u64 0,.int .i64 0,.int .i64 0]),9,56):=by kernel_rfl
theorem flL_len(f:T.Fl):(flL f).length=9:=rfl
theorem flL_one(f:T.Fl):∀u∈flL f,u.oneCell'=true:=by
 intro u hu;simp only[flL,List.mem_cons,List.mem_nil_iff,or_false]at hu;rcases hu with rfl|rfl|rfl|rfl|rfl|rfl|rfl|rfl|rfl<;>rfl
theorem conv_wide(n:Int)(w:World):(convert 3 39 (.int .i64 n)).run Tryz.prog w=.ok (W64 (T.wide n)) w:=by
 have h:=wide_wrap n;unfold W64;rw[<-h];simp[convert,run_underlying Tryz.underlying3,run_underlying Tryz.underlying39,Conv.intToInt]
def natL(l:List Nat):List Value:=l.map fun(q:Nat)=>Value.int .i64 (q:Int)
def LwB(w0 w:World)(Mk:Nat)(lv pv:Value)(k:Nat)(out:List T.Fl)(bg:List Nat)(L:List Acc):Prop :=
 ∃(OA:Option Addr) (oc:Nat) (BA:Option Addr) (bc:Nat),Bank w0 w (boxAcc Mk 50 [lv,pv,.int .i64 (k:Int),.slice OA out.length oc,.slice BA bg.length bc]::⟨.slice OA out.length oc,out.length,58,9,out.flatMap flL⟩::⟨.slice BA bg.length bc,bg.length,3,1,natL bg⟩::L)
def LwP(w0:World)(Mk:Nat)(lv pv:Value)(k:Nat)(out:List T.Fl)(bg:List Nat)(L:List Acc)(e:Ending)(w':World):Prop:=e=.returned (.tuple #[])/\LwB w0 w' Mk lv pv k out bg L
section
variable{w0 w:World}{Mk:Nat}{lv pv:Value}{k:Nat}{out:List T.Fl}{bg:List Nat}{L:List Acc}
theorem LwB.since(h:LwB w0 w Mk lv pv k out bg L):Since w0 w:=by obtain⟨_,_,_,_,h⟩:=h;exact h.since
theorem LwB.call(h:LwB w0 w Mk lv pv k out bg L){w':World}(hb:Below w.heap.size w w'):LwB w0 w' Mk lv pv k out bg L:=by obtain⟨a,b,c,d,h⟩:=h;exact⟨a,b,c,d,h.call hb⟩
theorem LwB.alloc(h:LwB w0 w Mk lv pv k out bg L)(o:Obj):LwB w0 (w.alloc o) Mk lv pv k out bg L:=h.call ((Below.refl _ _).alloc (Nat.le_refl _) o)
theorem LwB.drew(h:LwB w0 w Mk lv pv k out bg L):LwB w0 w.drew Mk lv pv k out bg L:=by obtain⟨a,b,c,d,h⟩:=h;exact⟨a,b,c,d,h.drew⟩
theorem LwB.drop{p:Acc}(h:LwB w0 w Mk lv pv k out bg (p::L)):LwB w0 w Mk lv pv k out bg L:=by obtain⟨a,b,c,d,h⟩:=h;exact⟨a,b,c,d,h.sub (.cons_cons _ (.cons_cons _ (.cons_cons _ (.cons _ (.refl _)))))⟩
theorem LwB.box(h:LwB w0 w Mk lv pv k out bg L)(vs:List Value)(t:TypeId)(hv:vs.length<=1000000):LwB w0 (w.alloc (.cells vs.toArray t)) Mk lv pv k out bg (boxAcc w.heap.size t vs::L):=by
 obtain⟨a,b,c,d,h⟩:=h;exact⟨a,b,c,d,(h.boxL vs t hv).permB ((List.perm_middle (a:=boxAcc w.heap.size t vs) (l₁:=[_,_,_]) (l₂:=L)).symm)⟩
theorem LwB.cellL(h:LwB w0 w Mk lv pv k out bg L)(i:Nat){g:Nat}{t:TypeId}{vs:List Value}(hi:L[i]?=some (boxAcc g t vs))(j:Nat){v:Value}(hv:vs[j]?=some v):w.cell? ⟨g,j,none⟩=some v:=by
 obtain⟨_,_,_,_,h⟩:=h;exact h.cell (i+3) hi j hv
theorem wp_hidL{P:Program}{cd:Code}{Q:Exit->Act->World->Prop}{a:Act}(hB:RowKit.Hid (LwB w0 w Mk lv pv k out bg L))(h:∀w',RowKit.Hid (LwB w0 w' Mk lv pv k out bg L)->cd.wp P Q a w'):cd.wp P Q a w:=h w hB
theorem LwB.cells8(h:LwB w0 w Mk lv pv k out bg L)(n:Nat){g:Nat}{t:TypeId}{v0 v1 v2 v3 v4 v5 v6 v7:Value}{vs:List Value}(hi:L[n]?=some (boxAcc g t (v0::v1::v2::v3::v4::v5::v6::v7::vs))):
  w.cell? ⟨g,0,none⟩=some v0/\w.cell? ⟨g,1,none⟩=some v1/\w.cell? ⟨g,2,none⟩=some v2/\w.cell? ⟨g,3,none⟩=some v3/\w.cell? ⟨g,4,none⟩=some v4/\w.cell? ⟨g,5,none⟩=some v5/\w.cell? ⟨g,6,none⟩=some v6/\w.cell? ⟨g,7,none⟩=some v7 :=
 ⟨h.cellL n hi 0 rfl,h.cellL n hi 1 rfl,h.cellL n hi 2 rfl,h.cellL n hi 3 rfl,h.cellL n hi 4 rfl,h.cellL n hi 5 rfl,h.cellL n hi 6 rfl,h.cellL n hi 7 rfl⟩
theorem LwB.m0(h:LwB w0 w Mk lv pv k out bg L):w.cell? ⟨Mk,0,none⟩=some lv:=by obtain⟨_,_,_,_,h⟩:=h;exact h.cell 0 rfl 0 rfl
theorem LwB.m1(h:LwB w0 w Mk lv pv k out bg L):w.cell? ⟨Mk,1,none⟩=some pv:=by obtain⟨_,_,_,_,h⟩:=h;exact h.cell 0 rfl 1 rfl
theorem LwB.m2(h:LwB w0 w Mk lv pv k out bg L):w.cell? ⟨Mk,2,none⟩=some (.int .i64 (k:Int)):=by obtain⟨_,_,_,_,h⟩:=h;exact h.cell 0 rfl 2 rfl
end
theorem lwPut_ok{w0 w:World}{Mk:Nat}{lv pv:Value}{k:Nat}{out:List T.Fl}{bg:List Nat}{L:List Acc}(Z:Nat)(f:T.Fl)(hB:LwB w0 w Mk lv pv k out bg L)(hZ:RdC w Z (flL f))(hn:out.length<=100000):Calls Tryz.prog 33 #[.pointer (some ⟨Mk,0,none⟩),.slice (some ⟨Z,0,none⟩) 1 1] w (LwP w0 Mk lv pv k (out ++ [f]) bg L):=by
 obtain⟨OA,oc,BA,bc,hB⟩:=hB;have BK0:=Hd hB;have HZ:=Hd hZ;clear hB hZ;have m3:=BK0.o.cell 0 rfl 3 rfl;go_enter Tryz.func33,Tryz.ntmps33;go_wp2_with (at_builtin;go_loud (refine wpList_append_bankG BK0.o rfl (.tmp 8) (.tmp 9) 29 rfl 58 (.agg #[.int .u8 0,.int .u8 0,.bool false,.int .i64 0,.int .i64 0,.int .i64 0,.int .u64 0,.int .i64 0,.int .i64 0]) 9 56 infoFl Tryz.underlying29 rfl (by decide) 1 OA out.length oc (out.flatMap flL) rfl rfl ⟨Z,0,none⟩ 1 1 (flL f) rfl rfl (fun j u hj=>by rw[Addr.add_mid,Nat.zero_add];exact HZ.o j u hj) (flL_one f) (by unfold maxLen;omega) (by omega) ?_);intro A' n' c' w5 hn' hB5 _ _;have HN:=Hd hn';have BK5:=Hd hB5;clear hn' hB5 m3;have m3:=BK5.o.cell 0 rfl 3 rfl;have fm3:=BK5.o.free 0 rfl 3);go_end0;have h:=BK5.o.boxSet 0 rfl 3 (.slice A' n' c');have e1:out.flatMap flL++flL f=(out ++ [f]).flatMap flL:=by rw[List.flatMap_append];simp
 have e2:n'=(out ++ [f]).length:=by rw[HN.o,List.length_append];rfl
 subst e2;refine⟨rfl,A',c',BA,bc,?_⟩;rw[<-e1];exact h
theorem lwPut_new{w0 w:World}{Mk:Nat}{lv pv:Value}{k:Nat}{out:List T.Fl}{bg:List Nat}{L:List Acc}(f:T.Fl)(hB:LwB w0 w Mk lv pv k out bg L)(hn:out.length<=100000):Calls Tryz.prog 33 #[.pointer (some ⟨Mk,0,none⟩),.slice (some ⟨w.heap.size,0,none⟩) 1 1] (w.alloc (.cells (flL f).toArray 58)) (LwP w0 Mk lv pv k (out ++ [f]) bg L) :=
 lwPut_ok w.heap.size f (hB.alloc _) (fun j u hj=>by rw[World.cell?_alloc_new];simpa using hj) hn
theorem lwSecond_ok{w0 w:World}{Mk:Nat}{lv pv:Value}{k:Nat}{out:List T.Fl}{bg:List Nat}{L:List Acc}(i:T.Ins)(hB:LwB w0 w Mk lv pv k out bg L)(hn:out.length<=100000):Calls Tryz.prog 32 #[.pointer (some ⟨Mk,0,none⟩),insV i] w (fun e w'=>e=.returned (.int .i64 (T.lreg i))/\LwB w0 w' Mk lv pv k (out++T.lsec i) bg L):=by
 obtain⟨op,nr,dst,src,u,off,imm,size⟩:=i;have hcv:=conv_wide imm;cases u
 case false =>
  have e1:T.lreg ⟨op,nr,dst,src,false,off,imm,size⟩=src:=rfl;have e2:T.lsec ⟨op,nr,dst,src,false,off,imm,size⟩=[]:=rfl;rw[e1,e2,List.append_nil];unfold insV insL;have HB:=Hd (hB.box [.int .u8 op,.bool nr,.int .i64 dst,.int .i64 src,.bool false,.int .i64 off,.int .i64 imm,.int .i64 size] 55 (by simp));clear hB;go_enter Tryz.func32,Tryz.ntmps32;go_upto_region 1 with fail;generalize w.heap.size=X at *;refine wp_hidL HB (fun w1 HB=>?_);obtain⟨x0,x1,x2,x3,x4,x5,x6,x7⟩:=HB.o.cells8 0 rfl;go_wp2;go_ret;exact⟨rfl,HB.o.drop⟩
 case true =>
  have e1:T.lreg ⟨op,nr,dst,src,true,off,imm,size⟩=15:=rfl;have e2:T.lsec ⟨op,nr,dst,src,true,off,imm,size⟩=[⟨1,0,false,15,0,0,T.wide imm,0,0⟩]:=rfl;rw[e1,e2];unfold insV insL;have HB:=Hd (hB.box [.int .u8 op,.bool nr,.int .i64 dst,.int .i64 src,.bool true,.int .i64 off,.int .i64 imm,.int .i64 size] 55 (by simp));clear hB;go_enter Tryz.func32,Tryz.ntmps32;go_upto_region 1 with fail;generalize w.heap.size=X at *;refine wp_hidL HB (fun w1 HB=>?_);obtain⟨x0,x1,x2,x3,x4,x5,x6,x7⟩:=HB.o.cells8 0 rfl;go_wp2_with fail;refine(lwPut_new ⟨1,0,false,15,0,0,T.wide imm,0,0⟩ HB.o hn).mono ?_;rintro e w2 ⟨rfl,hb⟩;have HB2:=Hd hb;clear hb;go_wp2;go_ret;exact⟨rfl,HB2.o.drop⟩
theorem lwGoes_ok{w0 w:World}{Mk:Nat}{lv pv:Value}{k:Nat}{out:List T.Fl}{bg:List Nat}{L:List Acc}(to_:Int)(hB:LwB w0 w Mk lv pv k out bg L)(hn:out.length<=100000)(hk:k<=100000):Calls Tryz.prog 35 #[.pointer (some ⟨Mk,0,none⟩),.int .i64 to_] w (LwP w0 Mk lv pv k (out++T.lgoes k to_) bg L):=by
 have HB:=Hd hB;clear hB;have m2:=HB.o.m2;have kw:IntKind.i64.wrap ((k:Int)+1)=(k:Int)+1:=IntWalk.i64_in _ (by omega);unfold T.lgoes;by_cases h:(k:Int)+1<to_
 ·rw[if_pos h]
  go_enter Tryz.func35,Tryz.ntmps35;go_wp2_with fail;refine(lwPut_new ⟨7,0,false,0,0,0,0#64,0,to_⟩ HB.o hn).mono ?_;rintro e w2 ⟨rfl,hb⟩;have HB2:=Hd hb;clear hb;go_wp2;go_end0;exact⟨rfl,HB2.o⟩
 ·rw[if_neg h,List.append_nil]
  go_enter Tryz.func35,Tryz.ntmps35;go_wp2;go_end0;exact⟨rfl,HB.o⟩
def PlcRd(w:World)(P:Nat)(ps:List T.Pl):Prop:=∀(j:Nat) (p:T.Pl),ps[j]?=some p->w.cell? ⟨P,j*4,none⟩=some (.bool p.live)/\(p.live=true->∃gr cr,w.cell? ⟨P,j*4+1,none⟩=some (.slice (some ⟨gr,0,none⟩) 11 cr)/\∀s:Nat,s<11->w.cell? ⟨gr,s*3,none⟩=some (.int .u8 (p.reg (s:Int)).k))
theorem lwLive_ok{w0 w:World}{Mk:Nat}{lv:Value}{k:Nat}{out:List T.Fl}{bg:List Nat}{L:List Acc}(P np pc:Nat)(ps:List T.Pl)(j:Nat)(hB:LwB w0 w Mk lv (.slice (some ⟨P,0,none⟩) np pc) k out bg L)(hP:PlcRd w0 P ps)(hj:j<np)(hl:ps.length=np):Calls Tryz.prog 16 #[.pointer (some ⟨Mk,0,none⟩),.int .i64 (j:Int)] w fun e w'=>e=.returned (.bool (T.plAt ps j).live)/\w'=w:=by
 have m1:=hB.m1;have c0:=hB.since.keep (hP j _ (List.getElem?_eq_getElem (by omega))).1;have e:T.plAt ps j=ps[j]'(by omega):=by unfold T.plAt;rw[List.getD_eq_getElem?_getD,List.getElem?_eq_getElem (by omega)];rfl
 rw[<-e]at c0;have j0:(0:Int)<=(j:Int):=by omega
 have j1:(j:Int)<(np:Int):=by omega
 clear hB e;go_enter Tryz.func16,Tryz.ntmps16;go_wp2;go_ret;exact⟨rfl,by first|rfl|trivial⟩
set_option maxRecDepth 100000
set_option maxHeartbeats 4000000
def rnEnt:List (Int×Value):=[(1,.func (.func 64) #[] #[]),(2,.func (.func 65) #[] #[]),(3,.func (.func 66) #[] #[]),(4,.func (.func 67) #[] #[]),(5,.func (.func 68) #[] #[]),(6,.func (.func 69) #[] #[]),(7,.func (.func 70) #[] #[]),(8,.func (.func 71) #[] #[]),(9,.func (.func 72) #[] #[])]
theorem rnDoes_any(w:World):Calls Tryz.prog 24 #[] w fun e w'=>e=.returned (.map (some w.heap.size))/\w'=w.alloc (.map (mes rnEnt) 9):=by
 have ht:=Tryz.underlying80;have hk:=Tryz.underlying56;obtain⟨v0,hv0⟩:∃v,v=Value.func (.func 64) #[] #[]:=⟨_,rfl⟩
 obtain⟨v1,hv1⟩:∃v,v=Value.func (.func 65) #[] #[]:=⟨_,rfl⟩
 obtain⟨v2,hv2⟩:∃v,v=Value.func (.func 66) #[] #[]:=⟨_,rfl⟩
 obtain⟨v3,hv3⟩:∃v,v=Value.func (.func 67) #[] #[]:=⟨_,rfl⟩
 obtain⟨v4,hv4⟩:∃v,v=Value.func (.func 68) #[] #[]:=⟨_,rfl⟩
 obtain⟨v5,hv5⟩:∃v,v=Value.func (.func 69) #[] #[]:=⟨_,rfl⟩
 obtain⟨v6,hv6⟩:∃v,v=Value.func (.func 70) #[] #[]:=⟨_,rfl⟩
 obtain⟨v7,hv7⟩:∃v,v=Value.func (.func 71) #[] #[]:=⟨_,rfl⟩
 obtain⟨v8,hv8⟩:∃v,v=Value.func (.func 72) #[] #[]:=⟨_,rfl⟩
 have p0:=put_mes ht hk w [] 1 v0 (by decide) (by decide) (by simp);have p1:=put_mes ht hk w [(1,v0)] 2 v1 (by decide) (by decide) (by simp);have p2:=put_mes ht hk w [(1,v0),(2,v1)] 3 v2 (by decide) (by decide) (by simp);have p3:=put_mes ht hk w [(1,v0),(2,v1),(3,v2)] 4 v3 (by decide) (by decide) (by simp);have p4:=put_mes ht hk w [(1,v0),(2,v1),(3,v2),(4,v3)] 5 v4 (by decide) (by decide) (by simp);have p5:=put_mes ht hk w [(1,v0),(2,v1),(3,v2),(4,v3),(5,v4)] 6 v5 (by decide) (by decide) (by simp);have p6:=put_mes ht hk w [(1,v0),(2,v1),(3,v2),(4,v3),(5,v4),(6,v5)] 7 v6 (by decide) (by decide) (by simp);have p7:=put_mes ht hk w [(1,v0),(2,v1),(3,v2),(4,v3),(5,v4),(6,v5),(7,v6)] 8 v7 (by decide) (by decide) (by simp);have p8:=put_mes ht hk w [(1,v0),(2,v1),(3,v2),(4,v3),(5,v4),(6,v5),(7,v6),(8,v7)] 9 v8 (by decide) (by decide) (by simp);simp only[List.cons_append,List.nil_append,List.length_cons,List.length_nil,Nat.reduceAdd]at p0 p1 p2 p3 p4 p5 p6 p7 p8;have e0:mes [] = #[]:=rfl;rw[e0]at p0;clear e0;generalize mes [(1,v0)]=E1 at p0 p1;generalize mes [(1,v0),(2,v1)]=E2 at p1 p2;generalize mes [(1,v0),(2,v1),(3,v2)]=E3 at p2 p3;generalize mes [(1,v0),(2,v1),(3,v2),(4,v3)]=E4 at p3 p4;generalize mes [(1,v0),(2,v1),(3,v2),(4,v3),(5,v4)]=E5 at p4 p5;generalize mes [(1,v0),(2,v1),(3,v2),(4,v3),(5,v4),(6,v5)]=E6 at p5 p6;generalize mes [(1,v0),(2,v1),(3,v2),(4,v3),(5,v4),(6,v5),(7,v6)]=E7 at p6 p7;generalize mes [(1,v0),(2,v1),(3,v2),(4,v3),(5,v4),(6,v5),(7,v6),(8,v7)]=E8 at p7 p8;obtain⟨E9,hE⟩:∃E,mes [(1,v0),(2,v1),(3,v2),(4,v3),(5,v4),(6,v5),(7,v6),(8,v7),(9,v8)]=E:=⟨_,rfl⟩
 rw[hE]at p8;have HE:=Hd hE;clear hE;have hmm:=run_makeMap (P:=Tryz.prog) 80 w;subst hv0;subst hv1;subst hv2;subst hv3;subst hv4;subst hv5;subst hv6;subst hv7;subst hv8;have HR:=Hd (show mes rnEnt=E9 from HE.o);clear HE;go_enter Tryz.func24,Tryz.ntmps24;go_wp2;go_ret;exact⟨rfl,by rw[HR.o]⟩
theorem rnLook{w:World}{g:Nat}(hb:w.heap[g]?=some (.map (mes rnEnt) 9)){k:Int}{v:Value}(hm:(k,v)∈rnEnt):(Instr.lookup 80 (.map (some g)) (.int .u8 k) false).run Tryz.prog w=.ok v w:=by
 have h:0<=k/\k<=255:=by
  simp only[rnEnt,List.mem_cons,List.mem_nil_iff,or_false,Prod.mk.injEq]at hm;rcases hm with⟨rfl,_⟩|⟨rfl,_⟩|⟨rfl,_⟩|⟨rfl,_⟩|⟨rfl,_⟩|⟨rfl,_⟩|⟨rfl,_⟩|⟨rfl,_⟩|⟨rfl,_⟩<;>decide
 exact look_mes1 Tryz.underlying80 Tryz.underlying56 hb k v h.1 h.2 hm (by simp[rnEnt])
def RnStepF(F:FuncId)(f:T.Fl):Prop:=∀(K:List (Nat×Obj)) (R:Nat) (m m':T.Fm) (A:Option Addr) (n c:Nat) (pkl:List T.B) (st dn:Value) (w0 w:World) (L:List Acc),BankK K w0 w (boxAcc R 78 (fmL m (.slice A n c) st dn)::L)->Fok m->RowRd w0 ⟨A,n,c⟩ pkl->n<=1000000->T.fstep pkl f m=some m'->Calls Tryz.prog F #[.pointer (some ⟨R,0,none⟩),flV f] w (RnP K w0 R m' (.slice A n c) st dn L)
theorem fstep_1{pk:List T.B}{f:T.Fl}{m m':T.Fm}(hk:f.do'=1)(h:T.fstep pk f m=some m'):m'=m.put f.d f.n:=by
 unfold T.fstep at h;rw[if_pos hk]at h;exact(Option.some.inj h).symm
theorem fstep_2{pk:List T.B}{f:T.Fl}{m m':T.Fm}(hk:f.do'=2)(h:T.fstep pk f m=some m'):m'=m.put f.d (m.reg f.a):=by
 unfold T.fstep at h;rw[if_neg (by omega),if_pos hk]at h;exact(Option.some.inj h).symm
theorem fstep_3{pk:List T.B}{f:T.Fl}{m m':T.Fm}(hk:f.do'=3)(h:T.fstep pk f m=some m'):T.aerr f.what f.narrow (m.reg f.b)=0/\m'=m.put f.d (T.ado f.what f.narrow (m.reg f.a) (m.reg f.b)):=by
 unfold T.fstep at h;rw[if_neg (by omega),if_neg (by omega),if_pos hk]at h;split at h
 ·rename_i h1;exact⟨h1,(Option.some.inj h).symm⟩
 ·cases h
theorem fstep_4{pk:List T.B}{f:T.Fl}{m m':T.Fm}(hk:f.do'=4)(h:T.fstep pk f m=some m'):T.getErr pk.length (m.reg f.a+f.n).toInt f.size=0/\m'=m.put f.d (T.gets pk (m.reg f.a+f.n).toInt.toNat f.size.toNat):=by
 unfold T.fstep at h;rw[if_neg (by omega),if_neg (by omega),if_neg (by omega),if_pos hk]at h;split at h
 ·rename_i h1;exact⟨h1,(Option.some.inj h).symm⟩
 ·cases h
theorem fstep_5{pk:List T.B}{f:T.Fl}{m m':T.Fm}(hk:f.do'=5)(h:T.fstep pk f m=some m'):T.cellErr (m.reg f.a+f.n).toInt f.size=false/\m'=m.put f.d (T.gets m.stk ((m.reg f.a+f.n).toInt+512).toNat f.size.toNat):=by
 unfold T.fstep at h;rw[if_neg (by omega),if_neg (by omega),if_neg (by omega),if_neg (by omega),if_pos hk]at h;split at h
 ·cases h
 ·rename_i h1;exact⟨by simpa using h1,(Option.some.inj h).symm⟩
theorem fstep_6{pk:List T.B}{f:T.Fl}{m m':T.Fm}(hk:f.do'=6)(h:T.fstep pk f m=some m'):T.cellErr (m.reg f.a+f.n).toInt f.size=false/\m'={ m with stk:=T.puts m.stk ((m.reg f.a+f.n).toInt+512).toNat f.size.toNat (m.reg f.b) }:=by
 unfold T.fstep at h;rw[if_neg (by omega),if_neg (by omega),if_neg (by omega),if_neg (by omega),if_neg (by omega),if_pos hk]at h;split at h
 ·cases h
 ·rename_i h1;exact⟨by simpa using h1,(Option.some.inj h).symm⟩
theorem fstep_7{pk:List T.B}{f:T.Fl}{m m':T.Fm}(hk:f.do'=7)(h:T.fstep pk f m=some m'):m'={ m with at':=f.to.toNat }:=by
 unfold T.fstep at h;rw[if_neg (by omega),if_neg (by omega),if_neg (by omega),if_neg (by omega),if_neg (by omega),if_neg (by omega),if_pos hk]at h;exact(Option.some.inj h).symm
theorem fstep_8{pk:List T.B}{f:T.Fl}{m m':T.Fm}(hk:f.do'=8)(h:T.fstep pk f m=some m'):m'=if T.ais f.what f.narrow (m.reg f.a) (m.reg f.b)then { m with at':=f.to.toNat }else m:=by
 unfold T.fstep at h;rw[if_neg (by omega),if_neg (by omega),if_neg (by omega),if_neg (by omega),if_neg (by omega),if_neg (by omega),if_neg (by omega),if_pos hk]at h;exact(Option.some.inj h).symm
theorem rn_mem{n:Nat}{k:Int}{v:Value}(h:rnEnt[n]?=some (k,v)):(k,v)∈rnEnt:=List.mem_of_getElem? h
theorem rnDoes_step(f:T.Fl){P:Nat->Prop}(hf:f.okP P)(h9:f.do'≠9):∃F:FuncId,(f.do',Value.func (.func F) #[] #[])∈rnEnt/\(∀(a b:Value) (w:World),(callFunc F #[a,b]).run Tryz.prog w=.ok (.enter F #[a,b]) w)/\RnStepF F f:=by
 rcases hf with⟨d,n,rfl,h1⟩|⟨d,a,rfl,h1,h2⟩|⟨wh,nr,d,a,b,rfl,w1,w2,h1,h2,h3,_⟩|⟨k,d,a,n,s,hk,rfl,h1,h2,hs⟩|⟨a,b,n,s,rfl,h1,h2,hs⟩|⟨t,rfl,_⟩|⟨wh,nr,a,b,t,rfl,w1,w2,h1,h2,_⟩|rfl
 ·refine⟨_,rn_mem (n:=0) rfl,fun a b w=>by kernel_rfl,fun K R m m' A n' c pkl st dn w0 w L hB hok hr hn he=>?_⟩
  rw[fstep_1 rfl he];exact rnSet_ok _ hB hok h1
 ·refine⟨_,rn_mem (n:=1) rfl,fun a b w=>by kernel_rfl,fun K R m m' A n' c pkl st dn w0 w L hB hok hr hn he=>?_⟩
  rw[fstep_2 rfl he];exact rnMove_ok _ hB hok h1 h2
 ·refine⟨_,rn_mem (n:=2) rfl,fun a b w=>by kernel_rfl,fun K R m m' A n' c pkl st dn w0 w L hB hok hr hn he=>?_⟩
  obtain⟨e1,e2⟩:=fstep_3 rfl he;rw[e2];exact rnAlu_ok _ hB hok h1 h2 h3 ⟨w1,w2⟩ e1
 ·rcases hk with rfl|rfl
  ·refine⟨_,rn_mem (n:=3) rfl,fun a b w=>by kernel_rfl,fun K R m m' A n' c pkl st dn w0 w L hB hok hr hn he=>?_⟩
   obtain⟨e1,e2⟩:=fstep_4 rfl he;rw[e2];exact rnLoad_ok _ hB hok h1 h2 hr hn (by have hl:pkl.length=n':=hr.len;rw[<-hl];exact e1)
  ·refine⟨_,rn_mem (n:=4) rfl,fun a b w=>by kernel_rfl,fun K R m m' A n' c pkl st dn w0 w L hB hok hr hn he=>?_⟩
   obtain⟨e1,e2⟩:=fstep_5 rfl he;rw[e2];exact rnRead_ok _ hB hok h1 h2 hs e1
 ·refine⟨_,rn_mem (n:=5) rfl,fun a b w=>by kernel_rfl,fun K R m m' A n' c pkl st dn w0 w L hB hok hr hn he=>?_⟩
  obtain⟨e1,e2⟩:=fstep_6 rfl he;rw[e2];exact rnWrite_ok _ hB hok h1 h2 hs e1
 ·refine⟨_,rn_mem (n:=6) rfl,fun a b w=>by kernel_rfl,fun K R m m' A n' c pkl st dn w0 w L hB hok hr hn he=>?_⟩
  rw[fstep_7 rfl he];exact rnJump_ok _ hB hok t rfl
 ·refine⟨_,rn_mem (n:=7) rfl,fun a b w=>by kernel_rfl,fun K R m m' A n' c pkl st dn w0 w L hB hok hr hn he=>?_⟩
  rw[fstep_8 rfl he];exact rnAsk_ok _ hB hok h1 h2 ⟨w1,w2⟩ t rfl _ rfl
 ·exact absurd rfl h9
theorem rnEnd_mem:(9,Value.func (.func 72) #[] #[])∈rnEnt:=rn_mem (n:=8) rfl
theorem tmps24P(a b c x:Value):(#[a,b,c]++((Array.replicate 21 undef).setIfInBounds 3 x).setIfInBounds 0 x) = #[a,b,c,x,undef,undef,x,undef,undef,undef,undef,undef,undef,undef,undef,undef,undef,undef,undef,undef,undef,undef,undef,undef]:=by
 apply Array.toList_inj.1;simp[List.replicate]
theorem catchDo_idle(p q r:Addr)(w:World):CallsD Tryz.prog 23 #[.pointer (some p),.pointer (some q),.pointer (some r)] .returning w fun e u' w'=>e=.returned (.tuple #[])/\u'=.returning/\w'=w:=by
 refine callsD_of_wpS Tryz.func23 rfl fun c₀ cs hu=>?_
 apply wpS_seq;apply wpS_region;simp[wpOpsS,go_sem,recoverD,hu,Tryz.ntmps23,Exit.thenS];refine wpS_of_wp ?_;rw[tmps24P];go_wp2;cases c₀
 simp_all [bodyPostS,results,Tryz.results23]
set_option maxRecDepth 100000
set_option maxHeartbeats 4000000
def irEnt:List (Int×Value):=[(1,.func (.func 103) #[] #[]),(2,.func (.func 104) #[] #[]),(3,.func (.func 105) #[] #[]),(4,.func (.func 106) #[] #[]),(5,.func (.func 106) #[] #[]),(6,.func (.func 107) #[] #[]),(7,.func (.func 108) #[] #[]),(8,.func (.func 109) #[] #[]),(9,.func (.func 110) #[] #[])]
theorem irKinds_any(w:World):Calls Tryz.prog 63 #[] w fun e w'=>e=.returned (.map (some w.heap.size))/\w'=w.alloc (.map (mes irEnt) 9):=by
 have ht:=Tryz.underlying113;have hk:=Tryz.underlying56;obtain⟨v0,hv0⟩:∃v,v=Value.func (.func 103) #[] #[]:=⟨_,rfl⟩
 obtain⟨v1,hv1⟩:∃v,v=Value.func (.func 104) #[] #[]:=⟨_,rfl⟩
 obtain⟨v2,hv2⟩:∃v,v=Value.func (.func 105) #[] #[]:=⟨_,rfl⟩
 obtain⟨v3,hv3⟩:∃v,v=Value.func (.func 106) #[] #[]:=⟨_,rfl⟩
 obtain⟨v4,hv4⟩:∃v,v=Value.func (.func 106) #[] #[]:=⟨_,rfl⟩
 obtain⟨v5,hv5⟩:∃v,v=Value.func (.func 107) #[] #[]:=⟨_,rfl⟩
 obtain⟨v6,hv6⟩:∃v,v=Value.func (.func 108) #[] #[]:=⟨_,rfl⟩
 obtain⟨v7,hv7⟩:∃v,v=Value.func (.func 109) #[] #[]:=⟨_,rfl⟩
 obtain⟨v8,hv8⟩:∃v,v=Value.func (.func 110) #[] #[]:=⟨_,rfl⟩
 have p0:=put_mes ht hk w [] 1 v0 (by decide) (by decide) (by simp);have p1:=put_mes ht hk w [(1,v0)] 2 v1 (by decide) (by decide) (by simp);have p2:=put_mes ht hk w [(1,v0),(2,v1)] 3 v2 (by decide) (by decide) (by simp);have p3:=put_mes ht hk w [(1,v0),(2,v1),(3,v2)] 4 v3 (by decide) (by decide) (by simp);have p4:=put_mes ht hk w [(1,v0),(2,v1),(3,v2),(4,v3)] 5 v4 (by decide) (by decide) (by simp);have p5:=put_mes ht hk w [(1,v0),(2,v1),(3,v2),(4,v3),(5,v4)] 6 v5 (by decide) (by decide) (by simp);have p6:=put_mes ht hk w [(1,v0),(2,v1),(3,v2),(4,v3),(5,v4),(6,v5)] 7 v6 (by decide) (by decide) (by simp);have p7:=put_mes ht hk w [(1,v0),(2,v1),(3,v2),(4,v3),(5,v4),(6,v5),(7,v6)] 8 v7 (by decide) (by decide) (by simp);have p8:=put_mes ht hk w [(1,v0),(2,v1),(3,v2),(4,v3),(5,v4),(6,v5),(7,v6),(8,v7)] 9 v8 (by decide) (by decide) (by simp);simp only[List.cons_append,List.nil_append,List.length_cons,List.length_nil,Nat.reduceAdd]at p0 p1 p2 p3 p4 p5 p6 p7 p8;have e0:mes [] = #[]:=rfl;rw[e0]at p0;clear e0;generalize mes [(1,v0)]=E1 at p0 p1;generalize mes [(1,v0),(2,v1)]=E2 at p1 p2;generalize mes [(1,v0),(2,v1),(3,v2)]=E3 at p2 p3;generalize mes [(1,v0),(2,v1),(3,v2),(4,v3)]=E4 at p3 p4;generalize mes [(1,v0),(2,v1),(3,v2),(4,v3),(5,v4)]=E5 at p4 p5;generalize mes [(1,v0),(2,v1),(3,v2),(4,v3),(5,v4),(6,v5)]=E6 at p5 p6;generalize mes [(1,v0),(2,v1),(3,v2),(4,v3),(5,v4),(6,v5),(7,v6)]=E7 at p6 p7;generalize mes [(1,v0),(2,v1),(3,v2),(4,v3),(5,v4),(6,v5),(7,v6),(8,v7)]=E8 at p7 p8;obtain⟨E9,hE⟩:∃E,mes [(1,v0),(2,v1),(3,v2),(4,v3),(5,v4),(6,v5),(7,v6),(8,v7),(9,v8)]=E:=⟨_,rfl⟩
 rw[hE]at p8;have HE:=Hd hE;clear hE;have hmm:=run_makeMap (P:=Tryz.prog) 113 w;subst hv0;subst hv1;subst hv2;subst hv3;subst hv4;subst hv5;subst hv6;subst hv7;subst hv8;have HR:=Hd (show mes irEnt=E9 from HE.o);clear HE;go_enter Tryz.func63,Tryz.ntmps63;go_wp2;go_ret;exact⟨rfl,by rw[HR.o]⟩
theorem irLook{w:World}{g:Nat}(hb:w.heap[g]?=some (.map (mes irEnt) 9)){k:Int}{v:Value}(hm:(k,v)∈irEnt):(Instr.lookup 113 (.map (some g)) (.int .u8 k) true).run Tryz.prog w=.ok (.tuple #[v,.bool true]) w:=by
 have h:0<=k/\k<=255:=by
  simp only[irEnt,List.mem_cons,List.mem_nil_iff,or_false,Prod.mk.injEq]at hm;rcases hm with⟨rfl,_⟩|⟨rfl,_⟩|⟨rfl,_⟩|⟨rfl,_⟩|⟨rfl,_⟩|⟨rfl,_⟩|⟨rfl,_⟩|⟨rfl,_⟩|⟨rfl,_⟩<;>decide
 exact look_mes Tryz.underlying113 Tryz.underlying56 hb k v h.1 h.2 hm (by simp[irEnt])
def plcL(f:T.Fl)(at_ many:Int):List Value:=[.int .u8 f.do',.int .u8 f.what,.bool f.narrow,.int .i64 f.d,.int .i64 f.a,.int .i64 f.b,W64 f.n,.int .i64 f.size,.int .i64 f.to,.int .i64 at_,.int .i64 many]
theorem ir_mem{n:Nat}{k:Int}{v:Value}(h:irEnt[n]?=some (k,v)):(k,v)∈irEnt:=List.mem_of_getElem? h
theorem irStep(f:T.Fl)(x many:Nat)(hf:f.okP fun y=>x<y/\y<many):∃F:FuncId,(f.do',Value.func (.func F) #[] #[])∈irEnt/\(∀(a:Value) (w:World),(callFunc F #[a]).run Tryz.prog w=.ok (.enter F #[a]) w)/\∀w,Calls Tryz.prog F #[.agg (plcL f (x:Int) (many:Int)).toArray] w (Ret w (.bool true)):=by
 rcases hf with⟨d,n,rfl,h1⟩|⟨d,a,rfl,h1,h2⟩|⟨wh,nr,d,a,b,rfl,w1,w2,h1,h2,h3,h4⟩|⟨k,d,a,n,s,hk,rfl,h1,h2,hs⟩|⟨a,b,n,s,rfl,h1,h2,hs⟩|⟨t,rfl,h1,h2⟩|⟨wh,nr,a,b,t,rfl,w1,w2,h1,h2,h3,h4⟩|rfl
 ·exact⟨_,ir_mem (n:=0) rfl,fun a w=>by kernel_rfl,fun w=>irSet_ok 1 d n x many w h1⟩
 ·exact⟨_,ir_mem (n:=1) rfl,fun a w=>by kernel_rfl,fun w=>irMove_ok 2 d a x many w h1 h2⟩
 ·refine⟨_,ir_mem (n:=2) rfl,fun a w=>by kernel_rfl,fun w=>?_⟩
  by_cases h13:wh=13
  ·subst h13
   obtain rfl:=h4 rfl;exact irNeg_ok 3 nr d a x many w h1 h2 h3
  ·exact irAlu_ok 3 wh nr d a b x many w h1 h2 h3 w1 w2 h13
 ·rcases hk with rfl|rfl
  ·exact⟨_,ir_mem (n:=3) rfl,fun a w=>by kernel_rfl,fun w=>irLoad_ok 4 d a n s x many w h1 h2 hs⟩
  ·exact⟨_,ir_mem (n:=4) rfl,fun a w=>by kernel_rfl,fun w=>irLoad_ok 5 d a n s x many w h1 h2 hs⟩
 ·exact⟨_,ir_mem (n:=5) rfl,fun a w=>by kernel_rfl,fun w=>irWrite_ok 6 a b n s x many w h1 h2 hs⟩
 ·exact⟨_,ir_mem (n:=6) rfl,fun a w=>by kernel_rfl,fun w=>irJump_ok 7 t x many w (by omega) (by omega)⟩
 ·exact⟨_,ir_mem (n:=7) rfl,fun a w=>by kernel_rfl,fun w=>irAsk_ok 8 wh nr a b t x many w h1 h2 w1 w2 (by omega) (by omega)⟩
 ·exact⟨_,ir_mem (n:=8) rfl,fun a w=>by kernel_rfl,fun w=>irEnd_ok 9 0 x many w ⟨by decide,by decide⟩⟩
theorem FlRd.cells{w:World}{b o:Nat}{l:List T.Fl}(h:FlRd w b o l){j:Nat}{f:T.Fl}(hi:l[j]?=some f):w.cell? ⟨b,o+j*9,none⟩=some (.int .u8 f.do')/\w.cell? ⟨b,o+j*9+1,none⟩=some (.int .u8 f.what)/\w.cell? ⟨b,o+j*9+2,none⟩=some (.bool f.narrow)/\w.cell? ⟨b,o+j*9+3,none⟩=some (.int .i64 f.d)/\w.cell? ⟨b,o+j*9+4,none⟩=some (.int .i64 f.a)/\w.cell? ⟨b,o+j*9+5,none⟩=some (.int .i64 f.b)/\w.cell? ⟨b,o+j*9+6,none⟩=some (W64 f.n)/\w.cell? ⟨b,o+j*9+7,none⟩=some (.int .i64 f.size)/\w.cell? ⟨b,o+j*9+8,none⟩=some (.int .i64 f.to) :=
 ⟨h j f hi 0 _ rfl,h j f hi 1 _ rfl,h j f hi 2 _ rfl,h j f hi 3 _ rfl,h j f hi 4 _ rfl,h j f hi 5 _ rfl,h j f hi 6 _ rfl,h j f hi 7 _ rfl,h j f hi 8 _ rfl⟩
theorem irRight_ok(b o n c:Nat)(l:List T.Fl)(w:World)(hr:FlRd w b o l)(hl:l.length=n)(h:T.FRight l):Calls Tryz.prog 22 #[.slice (some ⟨b,o,none⟩) n c] w (Ret w (.bool true)):=by
 have HR:=Hd hr;have HL:=Hd hl;have HF:=Hd h;obtain⟨fl,hfl,hend⟩:=h.last;obtain⟨q,hq⟩:∃q,l.length-1=q:=⟨_,rfl⟩
 have hn1:1<=n:=by rw[<-hl];exact List.length_pos_iff.2 h.ne
 have hn2:n<=16384:=by rw[<-hl];exact h.len
 rw[hq]at hfl;have c0:=(hr.cells hfl).1;rw[hend]at c0;have c0:w.cell? ⟨b,o+q*9,none⟩=some (.int .u8 9):=c0;have k1:¬(n:Int)<1:=by omega
 have k2:¬(16384:Int)<(n:Int):=by omega
 have kw:IntKind.i64.wrap ((n:Int)-1)=(q:Int):=by rw[IntWalk.i64_in _ (by omega)];omega
 have q0:(0:Int)<=(q:Int):=by omega
 have q1:(q:Int)<(n:Int):=by omega
 clear hr h hl hfl hend hq;go_enter Tryz.func22,Tryz.ntmps22;go_wp2_with fail;refine(irKinds_any _).mono ?_;rintro e w1 ⟨rfl,rfl⟩;have HG:=Hd (heap_alloc_new w (.map (mes irEnt) 9));have HW:=Hd (show Since w (w.alloc (.map (mes irEnt) 9))from(Below.refl _ _).alloc (Nat.le_refl _) _);have HR1:=Hd (HR.o.since HW.o);clear c0 k1 k2 kw q0 q1;generalize w.heap.size=g at HG ⊢;generalize hW1:w.alloc (.map (mes irEnt) 9)=w1 at *;clear hW1;have HLT:=Hd (Array.getElem?_eq_some_iff.1 HG.o).1;go_wp2_with fail;go_loopw [5,6,7,8,29] (fun _ _ _ _ i wr=>∃j:Nat,j<=n/\i=.int .i64 (j:Int)/\Since w1 wr) (fun _ _ _ _ i _=>n-(intOf i).toNat)
 case atStart=>exact⟨0,Nat.zero_le _,rfl,Below.refl _ _⟩
 case round =>
  obtain⟨j,hj,rfl,hs⟩:=hrel;have HS:=Hd hs;clear hs;have j0:(0:Int)<=(j:Int):=by omega
  by_cases hlt:j<n
  ·have i1:(j:Int)<(n:Int):=by omega
   obtain⟨f,hf⟩:∃f,l[j]?=some f:=⟨_,List.getElem?_eq_getElem (by have:=HL.o;omega)⟩
   obtain⟨F,hm,hcf,hstep⟩:=irStep f j n (by have:=HF.o.all j f hf;rwa [HL.o]at this);unfold plcL at hstep;have HM:=Hd hm;have HST:=Hd hstep;obtain⟨x0,x1,x2,x3,x4,x5,x6,x7,x8⟩:=(HR1.o.since HS.o).cells hf;clear hm hstep hf;go_upto_region 8 with fail;have BK0:=Hd ((Bank.nil (Below.refl wr.heap.size wr)).bx [.int .u8 f.do',.int .u8 f.what,.bool f.narrow,.int .i64 f.d,.int .i64 f.a,.int .i64 f.b,W64 f.n,.int .i64 f.size,.int .i64 f.to] 58);generalize wr.heap.size=X at *;refine wp_hid BK0 (fun w2 BK0=>?_);clear x0 x1 x2 x3 x4 x5 x6 x7 x8;obtain⟨x0,x1,x2,x3,x4,x5,x6,x7,x8⟩:=BK0.o.q9 0 rfl;have hlk:=irLook (((HS.o.add BK0.o.since).block _ HLT.o).trans HG.o) HM.o;go_wp2_with fail;refine(HST.o _).mono ?_;rintro e w3 ⟨rfl,hs⟩;have HS3:=Hd ((HS.o.add BK0.o.since).add hs);clear hs hlk;go_wp2;go_round
   case rel=>exact⟨j+1,by omega,by go_num,HS3.o⟩
   case measure=>simp[intOf];omega
  ·have i1:¬(j:Int)<(n:Int):=by omega
   go_wp2;go_ret;exact⟨rfl,HW.o.add HS.o⟩
set_option maxRecDepth 100000
set_option maxHeartbeats 4000000
theorem placesF_err{l:List T.Ins}(h:(T.placesF l).1.1=0):(T.placesF l).1=(0,0):=by rw[(T.placesF_ok h).2.2]
theorem filter_any(b o n c:Nat)(l:List T.Ins)(w:World)(hr:InsRd w b o l)(hl:l.length=n)(hn:n<=4096):
  Calls Tryz.prog 5 #[.slice (some ⟨b,o,none⟩) n c] w (Ret w (.agg #[.int .i64 (T.placesF l).1.1,.int .i64 ((T.placesF l).1.2:Int)])):=by
 have hc:=fun w' (hs:Since w w')=>places_any' b o n c l w' (hr.since hs) hl hn
 have HC:=Hd hc;have HE:=Hd (fun h=>placesF_err (l:=l) h);clear hr hl hc;have BK0:=bk1 w [.int .i64 0,.int .i64 0] 27;go_enter Tryz.func5,Tryz.ntmps5;go_upto_region 1 with fail;generalize w.heap.size=X at *;refine wp_hid BK0 (fun w1 BK0=>?_);obtain⟨r0,r1,fr0,fr1⟩:=BK0.o.r2 0 rfl;go_wp2_with fail;refine(HC.o _ BK0.o.since).mono ?_;clear r0 r1 fr0 fr1;rintro e w2 (⟨hz,P,c2,xs,rfl,_,_,hb⟩|⟨hz,rfl,hs⟩)
 case' inl =>
  have BK:=Hd (BK0.o.call hb.since);have HV:=Hd (show(T.placesF l).1=(0,0)from HE.o hz);clear hz hb
 case' inr =>
  have BK:=Hd (BK0.o.call hs);clear hz hs
 case inl =>
  go_upto_region 2 with fail;refine wp_bank [boxAcc w2.heap.size 27 [.int .i64 0,.int .i64 0],boxAcc X 27 [.int .i64 0,.int .i64 0]] (BK.o.bx [.int .i64 0,.int .i64 0] 27) (fun w3 h3=>?_);generalize w2.heap.size=Y at *;have BK:=Hd h3;obtain⟨q0,q1⟩:=h3.q2 0 rfl;obtain⟨r0,r1,fr0,fr1⟩:=h3.r2 1 rfl;clear h3;go_wp2;refine bodyPost_ret (v:=.agg #[.int .i64 0,.int .i64 0]) ?_ rfl ⟨by rw[HV.o];rfl,((BK.o.bs 1 0 (.int .i64 0)).bs 1 1 (.int .i64 0)).since⟩;simp[results,Tryz.results5,go_sem,r0,r1]
 case inr =>
  go_upto_region 2 with fail;refine wp_bank [boxAcc w2.heap.size 27 [.int .i64 (T.placesF l).1.1,.int .i64 ((T.placesF l).1.2:Int)],boxAcc X 27 [.int .i64 0,.int .i64 0]] (BK.o.bx [.int .i64 (T.placesF l).1.1,.int .i64 ((T.placesF l).1.2:Int)] 27) (fun w3 h3=>?_);generalize w2.heap.size=Y at *;have BK:=Hd h3;obtain⟨q0,q1⟩:=h3.q2 0 rfl;obtain⟨r0,r1,fr0,fr1⟩:=h3.r2 1 rfl;clear h3;go_wp2;refine bodyPost_ret (v:=.agg #[.int .i64 (T.placesF l).1.1,.int .i64 ((T.placesF l).1.2:Int)]) ?_ rfl ⟨rfl,((BK.o.bs 1 0 (.int .i64 (T.placesF l).1.1)).bs 1 1 (.int .i64 ((T.placesF l).1.2:Int))).since⟩;simp[results,Tryz.results5,go_sem,r0,r1]
end Go.Proofs.YtfeipbgnjainlaaGreatDoor.K
