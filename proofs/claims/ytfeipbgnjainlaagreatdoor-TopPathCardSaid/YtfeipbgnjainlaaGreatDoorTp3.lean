/- TKind, TMach, TWords, TSound, TStep, TWf, TWithin, TExec, TLower -/
import Derived.Test.YtfeipbgnjainlaaGreatDoorTp2
import Derived.Test.YtfeipbgnjainlaaGreatDoorTp1
set_option linter.unusedVariables false
set_option linter.unusedSimpArgs false
namespace Go.Proofs.YtfeipbgnjainlaaGreatDoor.T
structure Kn where
 k:Int
 s:Sp
deriving DecidableEq
def Sp.zero:Sp:=⟨0,0⟩
def Kn.none:Kn:=⟨0,Sp.zero⟩
def Kn.right(a:Kn):Bool:=if a.k=4\/a.k=0 then a.s==Sp.zero else if a.k=1\/a.k=2 then a.s.right else decide (a.k=3)&&a.s==Sp.of a.s.lo
def Kn.numS(a:Kn):Sp:=if a.k=4 then⟨0,65535#64⟩else a.s
def Kn.isN(a:Kn):Bool:=decide (a.k=4)||decide (a.k=1)
def Kn.join(a b:Kn):Kn :=
 if !a.right || !b.right then Kn.none else if a=b then a else if a.isN&&b.isN then⟨1,a.numS.join b.numS⟩else if a.k=2/\b.k=2 then⟨2,a.s.join b.s⟩else Kn.none
def nought(s:Sp)(narrow:Bool):Bool:=s.has 0||narrow && !s.within (Sp.all true)
def kdo(op:Int)(narrow:Bool)(a b:Kn):Kn×Int :=
 if op<1\/13<op\/a.right=false\/b.right=false then(Kn.none,2)
 else if(op≠12/\a.k=0)\/(op≠13/\b.k=0)then(Kn.none,110)
 else if op=12/\narrow=false then(b,0)
 else
  let a':=if op=12 then b else a
  let b':=if op=13 then a else b
  let moves:=decide (op=1\/op=2) && !narrow&&b'.isN
  if a'.isN&&b'.isN&&decide (op=4\/op=5)&&nought b'.numS narrow then(Kn.none,113)
  else if a'.isN&&b'.isN then(⟨1,sdo op narrow a'.numS b'.numS⟩,0)
  else if moves&&decide (a'.k=2)||moves&&decide (a'.k=3)&&b'.numS.lo==b'.numS.hi then(⟨a'.k,sdo op false a'.s b'.numS⟩,0)
  else(Kn.none,114)
def Kn.holds(a:Kn)(vk:Int)(n:U)(len:Nat):Prop :=
 a.right=true/\(a.k=0\/(a.k=4/\vk=1/\n.toNat=len)\/((a.k=1\/a.k=2\/a.k=3)/\vk=a.k/\a.s.has n=true))
theorem Kn.none_holds(vk:Int)(n:U)(len:Nat):Kn.none.holds vk n len:=⟨by decide,.inl rfl⟩
theorem Sp.has_right{s:Sp}{n:U}(h:s.has n=true):s.right=true:=by
 rw[Sp.has_iff]at h;rw[Sp.right_iff];omega
theorem Kn.num_holds{a:Kn}{vk:Int}{n:U}{len:Nat}(h:a.holds vk n len)(ha:a.isN=true)(hl:len<=65535):vk=1/\a.numS.has n=true:=by
 obtain⟨h1,h2⟩:=h;simp only[Kn.isN,Bool.or_eq_true,decide_eq_true_eq]at ha;unfold Kn.numS;rcases ha with ha|ha
 ·rw[if_pos ha]
  rcases h2 with h2|⟨_,h3,h4⟩|⟨h3,_⟩
  ·omega
  ·refine⟨h3,?_⟩
   rw[Sp.has_iff];simp only;rw[show(65535#64:U).toNat=65535 by rfl];exact⟨Nat.zero_le _,by omega⟩
  ·omega
 ·rw[if_neg (by omega)]
  rcases h2 with h2|⟨h3,_⟩|⟨_,h3,h4⟩
  ·omega
  ·omega
  ·exact⟨h3.trans ha,h4⟩
theorem Kn.num_of{a:Kn}(h:a.isN=true):a.k=4\/a.k=1:=by simpa [Kn.isN]using h
theorem Sp.join_comm(s t:Sp):s.join t=t.join s:=by
 unfold Sp.join
 congr 1
 ·exact BitVec.eq_of_toNat_eq (by rw[umin_toNat,umin_toNat,Nat.min_comm])
 ·exact BitVec.eq_of_toNat_eq (by rw[umax_toNat,umax_toNat,Nat.max_comm])
theorem Kn.join_comm(a b:Kn):a.join b=b.join a:=by
 unfold Kn.join;rw[Bool.or_comm,Bool.and_comm,Sp.join_comm a.numS,Sp.join_comm a.s];by_cases h:a=b
 ·subst h;rfl
 ·have h':¬b=a:=fun e=>h e.symm
  simp only[h,h',if_false];by_cases hp:a.k=2/\b.k=2
  ·have hp':b.k=2/\a.k=2:=⟨hp.2,hp.1⟩
   simp only[hp,hp',and_self,if_true]
  ·have hp':¬(b.k=2/\a.k=2):=fun e=>hp ⟨e.2,e.1⟩
   simp only[hp,hp',if_false]
theorem nought_err{s:Sp}{narrow:Bool}(h:nought s narrow=false){n:U}(hn:s.has n=true)(op:Int)(ho:1<=op/\op<=13):aerr op narrow n=0:=by
 unfold nought at h;rw[Bool.or_eq_false_iff]at h;obtain⟨h1,h2⟩:=h;have hn0:n≠0:=fun e=>by rw[e,h1]at hn;cases hn
 have hno:∀(k:Nat) (p:BitVec k),p≠0#k->aerrN k op p=0:=fun k p hp=>by
  unfold aerrN;rw[if_neg (fun e=>hp e.2),if_pos ho]
 unfold aerr;cases narrow with
 | false=>exact hno 64 n hn0
 | true =>
   simp only[Bool.true_and,Bool.not_eq_false',Sp.within_iff]at h2;rw[Sp.has_iff]at hn;obtain⟨_,h3⟩:=h2;have h4:(Sp.all true).hi.toNat=4294967295:=by decide
   refine hno 32 (low n) fun e=>?_
   have e2:=congrArg BitVec.toNat e;rw[low_toNat,Nat.mod_eq_of_lt (by omega)]at e2;exact hn0 (BitVec.eq_of_toNat_eq e2)
theorem aerr_ok(op:Int)(narrow:Bool)(n:U)(ho:1<=op/\op<=13)(h:¬(op=4\/op=5)):aerr op narrow n=0:=by
 have hno:∀(k:Nat) (p:BitVec k),aerrN k op p=0:=fun k p=>by
  unfold aerrN;rw[if_neg (fun e=>h e.1),if_pos ho]
 unfold aerr;split
 ·exact hno _ _
 ·exact hno _ _
theorem ule_ult(p q:U):(p.ule q||q.ult p)=true:=by
 simp only[BitVec.ule,BitVec.ult,Bool.or_eq_true,decide_eq_true_eq];omega
theorem Sp.eq_of{s:Sp}{n:U}(h:s.has n=true)(e:s.lo=s.hi):s=Sp.of n:=by
 obtain⟨p,q⟩:=s;simp only at e;subst e;rw[Sp.has_iff]at h;have:p=n:=BitVec.eq_of_toNat_eq (by simp only at h;omega);rw[this];rfl
theorem Kn.right_3{a:Kn}(h:a.k=3):a.right=(a.s==Sp.of a.s.lo):=by
 unfold Kn.right;rw[if_neg (by omega),if_neg (by omega),decide_eq_true h,Bool.true_and]
theorem Kn.right_12{a:Kn}(h:a.k=1\/a.k=2):a.right=a.s.right:=by
 unfold Kn.right;rw[if_neg (by omega),if_pos h]
theorem ado_1(X Y:U):ado 1 false X Y=X+Y:=by simp[ado,adoN]
theorem ado_2(X Y:U):ado 2 false X Y=X-Y:=by simp[ado,adoN]
theorem moved_one{op:Int}(ho:op=1\/op=2){a b:Sp}{X Y:U}(ha:a=Sp.of X)(hb:b=Sp.of Y):sdo op false a b=Sp.of (ado op false X Y):=by
 subst ha hb;have hr:∀Z:U,(Sp.of Z).right=true:=fun Z=>by rw[Sp.right_iff];exact Nat.le_refl _
 unfold sdo;rw[if_pos ⟨by omega,hr X,hr Y⟩];rcases ho with rfl|rfl
 ·rw[ado_1]
  have e:(Wk.over false (Sp.of X) (Sp.of Y)).rule 1=some (Sp.of (X+Y)):=by
   unfold Wk.rule;rw[if_pos rfl];have e0:Wk.over false (Sp.of X) (Sp.of Y)=⟨⟨X,X⟩,⟨Y,Y⟩,false⟩:=by simp only[Wk.over,Sp.cut,Sp.of,Bool.false_eq_true,if_false]
   rw[e0];unfold Wk.add;simp only;rw[if_pos (ule_ult Y _)];simp only[Wk.ends,Wk.most,Bool.false_eq_true,if_false,and_ones,Sp.of]
  rw[e];rfl
 ·rw[ado_2]
  have e:(Wk.over false (Sp.of X) (Sp.of Y)).rule 2=some (Sp.of (X-Y)):=by
   unfold Wk.rule;rw[if_neg (by decide),if_pos rfl];have e0:Wk.over false (Sp.of X) (Sp.of Y)=⟨⟨X,X⟩,⟨Y,Y⟩,false⟩:=by simp only[Wk.over,Sp.cut,Sp.of,Bool.false_eq_true,if_false]
   rw[e0];unfold Wk.sub;simp only;rw[if_pos (ule_ult Y X)];simp only[Wk.ends,Wk.most,Bool.false_eq_true,if_false,and_ones,Sp.of]
  rw[e];rfl
theorem kdo_sound(op:Int)(narrow:Bool)(a b k:Kn)(vka vkb:Int)(X Y:U)(len:Nat)(hl:len<=65535)(ha:a.holds vka X len)(hb:b.holds vkb Y len)(ho:op≠12/\op≠13)(h:kdo op narrow a b=(k,0)):
  vkb=1/\(vka=1\/((op=1\/op=2)/\narrow=false))/\a.k≠0/\b.k≠0/\aerr op narrow Y=0/\k.holds vka (ado op narrow X Y) len:=by
 unfold kdo at h;split at h
 ·simp at h
 rename_i h1;have hop:1<=op/\op<=13:=by omega
 split at h
 ·simp at h
 rename_i h2;have ha0:a.k≠0:=fun e=>h2 (.inl ⟨ho.1,e⟩)
 have hb0:b.k≠0:=fun e=>h2 (.inr ⟨ho.2,e⟩)
 rw[if_neg (by omega)]at h;simp only[if_neg ho.1,if_neg ho.2]at h;split at h
 ·simp at h
 rename_i h3;split at h
 ·rename_i h4
  rw[Bool.and_eq_true]at h4;obtain⟨a1,a2⟩:=Kn.num_holds ha h4.1 hl;obtain⟨b1,b2⟩:=Kn.num_holds hb h4.2 hl
  have he:aerr op narrow Y=0:=by
   by_cases hd:op=4\/op=5
   ·have hz:nought b.numS narrow=false:=by
     cases hz:nought b.numS narrow with
     | false=>rfl
     | true=>exact absurd (by simp[h4.1,h4.2,hd,hz]) h3
    exact nought_err hz b2 op hop
   ·exact aerr_ok op narrow Y hop hd
  have hk:k=⟨1,sdo op narrow a.numS b.numS⟩:=(congrArg Prod.fst h).symm;have hs:=sdo_sound op narrow a.numS b.numS X Y hop a2 b2 he;subst hk;exact⟨b1,.inl a1,ha0,hb0,he,Sp.has_right hs,.inr (.inr ⟨.inl rfl,a1,hs⟩)⟩
 ·split at h
  ·rename_i h4 h5
   simp only[Bool.or_eq_true,Bool.and_eq_true,decide_eq_true_eq,Bool.not_eq_true']at h5
   have hm:(op=1\/op=2)/\narrow=false/\b.isN=true:=by
    rcases h5 with⟨⟨⟨m1,m2⟩,m3⟩,_⟩|⟨⟨⟨⟨m1,m2⟩,m3⟩,_⟩,_⟩<;>exact⟨m1,m2,m3⟩
   obtain⟨m1,rfl,m3⟩:=hm;obtain⟨b1,b2⟩:=Kn.num_holds hb m3 hl;have hd:¬(op=4\/op=5):=by omega
   have he:aerr op false Y=0:=aerr_ok op false Y hop hd;have hk:k=⟨a.k,sdo op false a.s b.numS⟩:=(congrArg Prod.fst h).symm
   have hak:a.k=2\/(a.k=3/\b.numS.lo=b.numS.hi):=by
    rcases h5 with⟨_,m⟩|⟨⟨_,m⟩,m'⟩
    ·exact .inl m
    ·exact .inr ⟨m,by simpa using m'⟩
   obtain⟨hra,hva⟩:=ha
   have hv:vka=a.k/\a.s.has X=true:=by
    rcases hva with e|⟨e,_⟩|⟨_,e,e2⟩
    ·exact absurd e ha0
    ·omega
    ·exact⟨e,e2⟩
   have hs:=sdo_sound op false a.s b.numS X Y hop hv.2 b2 he;refine⟨b1,.inr ⟨m1,rfl⟩,ha0,hb0,he,?_⟩;subst hk;refine⟨?_,.inr (.inr ⟨by rcases hak with e|⟨e,_⟩<;>simp[e],hv.1,hs⟩)⟩;rcases hak with e|⟨e,e2⟩
   ·rw[Kn.right_12 (a:=⟨a.k,sdo op false a.s b.numS⟩) (.inr e)]
    exact Sp.has_right hs
   ·rw[Kn.right_3 (a:=⟨a.k,sdo op false a.s b.numS⟩) e]
    have hra2:a.s=Sp.of a.s.lo:=by
     rw[Kn.right_3 e]at hra;exact beq_iff_eq.1 hra
    have hsx:a.s=Sp.of X:=Sp.eq_of hv.2 (by rw[hra2];rfl);have hsy:b.numS=Sp.of Y:=Sp.eq_of b2 e2;rw[moved_one m1 hsx hsy];exact beq_iff_eq.2 rfl
  ·simp at h
theorem ado_13(narrow:Bool)(X Y Z:U):ado 13 narrow X Y=ado 13 narrow X Z:=by
 unfold ado adoN;simp
theorem ado_12(narrow:Bool)(X Z Y:U):ado 12 narrow X Y=ado 12 narrow Z Y:=by
 unfold ado adoN;simp
theorem kdo_neg(narrow:Bool)(a b k:Kn)(vka:Int)(X:U)(len:Nat)(hl:len<=65535)(ha:a.holds vka X len)(h:kdo 13 narrow a b=(k,0)):
  a.k≠0/\vka=1/\k.holds 1 (ado 13 narrow X 0) len:=by
 unfold kdo at h;split at h
 ·simp at h
 split at h
 ·simp at h
 rename_i h1 h2;have ha0:a.k≠0:=fun e=>h2 (.inl ⟨by decide,e⟩)
 rw[if_neg (by simp)]at h;simp only[show ¬((13:Int)=12)by decide,if_false,if_true]at h;split at h
 ·simp at h
 split at h
 ·rename_i h4
  rw[Bool.and_self]at h4;obtain⟨a1,a2⟩:=Kn.num_holds ha h4 hl;have hk:k=⟨1,sdo 13 narrow a.numS a.numS⟩:=(congrArg Prod.fst h).symm;have hs:=sdo_sound 13 narrow a.numS a.numS X X (by omega) a2 a2 (aerr_ok 13 narrow X (by omega) (by omega));subst hk;rw[ado_13 narrow X 0 X];exact⟨ha0,a1,Sp.has_right hs,.inr (.inr ⟨.inl rfl,rfl,hs⟩)⟩
 ·simp at h
theorem kdo_mov(narrow:Bool)(a b k:Kn)(vkb:Int)(Z Y:U)(len:Nat)(hl:len<=65535)(hb:b.holds vkb Y len)(h:kdo 12 narrow a b=(k,0)):
  b.k≠0/\(narrow=false->k=b)/\(narrow=true->vkb=1/\k.holds 1 (ado 12 true Z Y) len):=by
 unfold kdo at h;split at h
 ·simp at h
 split at h
 ·simp at h
 rename_i h1 h2;have hb0:b.k≠0:=fun e=>h2 (.inr ⟨by decide,e⟩)
 split at h
 ·rename_i h3
  refine⟨hb0,fun _=>(congrArg Prod.fst h).symm,fun e=>?_⟩;rw[h3.2]at e;cases e
 ·rename_i h3
  have hn:narrow=true:=by
   cases narrow with
   | true=>rfl
   | false=>exact absurd ⟨rfl,rfl⟩ h3
  subst hn;refine⟨hb0,fun e=>by(cases e),fun _=>?_⟩;simp only[show ¬((12:Int)=13)by decide,if_false,if_true]at h;split at h
  ·simp at h
  split at h
  ·rename_i h4
   rw[Bool.and_self]at h4;obtain⟨b1,b2⟩:=Kn.num_holds hb h4 hl;have hk:k=⟨1,sdo 12 true b.numS b.numS⟩:=(congrArg Prod.fst h).symm;have hs:=sdo_sound 12 true b.numS b.numS Y Y (by omega) b2 b2 (aerr_ok 12 true Y (by omega) (by omega));subst hk;rw[ado_12 true Z Y Y];exact⟨b1,Sp.has_right hs,.inr (.inr ⟨.inl rfl,rfl,hs⟩)⟩
  ·simp at h
abbrev B:=BitVec 8
def aluR(n:Nat)(op:Int)(a b:BitVec n):BitVec n:=if aerrN n op b=0 then adoN n op a b else 0#n
structure Ins where
 op:Int
 narrow:Bool
 dst:Int
 src:Int
 useImm:Bool
 off:Int
 imm:Int
 size:Int
deriving DecidableEq
def fields(op:Int):Nat:=if 1<=op/\op<=12 then 201 else if op=13 then 193 else if op=14 then 181 else if op=15 then 186 else if op=16 then 144 else if 17<=op/\op<=27 then 218 else if op=28 then 128 else 0
def wi(n least most:Int):Bool:=decide (least<=n)&&decide (n<=most)
def sized(n:Int):Bool:=decide (n=1\/n=2\/n=4\/n=8)
def fl(op:Int)(b:Nat):Bool:=(fields op).testBit b
def Ins.bare(i:Ins):Ins :=
 ⟨i.op,fl i.op 6&&i.narrow,if fl i.op 0||fl i.op 1 then i.dst else 0,if fl i.op 2||fl i.op 3 && !i.useImm then i.src else 0,fl i.op 3&&i.useImm,if fl i.op 4 then i.off else 0,if fl i.op 3&&i.useImm then i.imm else 0,if fl i.op 5 then i.size else 0⟩
def Ins.right(i:Ins):Bool :=
 decide (fields i.op≠0)&&decide (i=i.bare)&&wi i.dst 0 (if fl i.op 0 then 9 else 10)&&wi i.src 0 10&&wi i.off (-32768) 32767&&wi i.imm (-2147483648) 2147483647&&(!fl i.op 5||sized i.size)
def Ins.jumps(i:Ins):Bool:=decide (16<=i.op/\i.op<=27)
structure Pl where
 live:Bool
 regs:List Kn
 bytes:List Bool
 least:Int
deriving DecidableEq
def Pl.dead:Pl:=⟨false,[],[],0⟩
def Pl.start:Pl:=⟨true,[Kn.none,⟨2,Sp.zero⟩,⟨4,Sp.zero⟩,Kn.none,Kn.none,Kn.none,Kn.none,Kn.none,Kn.none,Kn.none,⟨3,Sp.zero⟩],List.replicate 512 false,0⟩
def Pl.tell(q p:Pl):Pl:=if q.live then⟨true,List.zipWith Kn.join q.regs p.regs,List.zipWith (· && ·) q.bytes p.bytes,min q.least p.least⟩else p
def Pl.reg(p:Pl)(r:Int):Kn:=p.regs.getD r.toNat Kn.none
def Pl.put(p:Pl)(r:Int)(k:Kn):Pl:={ p with regs:=p.regs.set r.toNat k }
def wide(n:Int):U:=BitVec.ofInt 64 n
def second(i:Ins)(p:Pl):Kn:=if i.useImm then⟨1,Sp.of (wide i.imm)⟩else p.reg i.src
def asN(p:Pl)(k:Kn):Int×Sp:=if k.k=0 then(110,Sp.zero)else if k.k=1 then(0,k.s)else if k.k=4 then(0,⟨wide p.least,65535#64⟩)else(111,Sp.zero)
def frameAt(k:Kn)(i:Ins):Int:=(k.s.lo+wide i.off).toInt
def partErr(at':Int)(size:Int):Int:=if sized size=false then 2 else if at' < -512 \/ -size<at' then 112 else 0
def allSet(b:List Bool)(from' n:Nat):Bool:=(List.range n).all fun j=>b.getD (from'+j) false
def setAll(b:List Bool)(from' n:Nat):List Bool:=b.mapIdx fun j x=>x||(decide (from'<=j)&&decide (j<from'+n))
def readErr(b:List Bool)(at':Int)(size:Int):Int:=if partErr at' size≠0 then partErr at' size else if allSet b (512+at').toNat size.toNat then 0 else 110
def Pl.with(p:Pl)(r:Int)(s:Sp):Pl:=if(p.reg r).k=1 then p.put r ⟨1,s⟩else { p with least:=max p.least s.lo.toInt }
def ended(i:Ins)(p:Pl)(yes:Bool)(m n:Sp):Option Pl :=
 (sif i.op i.narrow yes m n).map fun xy=>if i.useImm then p.with i.dst xy.1 else if i.src≠i.dst then(p.with i.dst xy.1).with i.src xy.2 else p
def loadErr(i:Ins)(p:Pl):Int :=
 if(p.reg i.src).k=3 then readErr p.bytes (frameAt (p.reg i.src) i) i.size
 else if(p.reg i.src).k=2 then(if(65535#64).ult (p.reg i.src).s.hi then 112 else if(p.reg i.src).s.lo.toInt+i.off<0\/p.least<(p.reg i.src).s.hi.toInt+i.off+i.size then 112 else 0)
 else if(asN p (p.reg i.src)).1≠0 then(asN p (p.reg i.src)).1 else 111
def putErr(i:Ins)(p:Pl):Int :=
 if(p.reg i.dst).k=0\/(second i p).k=0 then 110 else if(p.reg i.dst).k=2 then 114 else if(p.reg i.dst).k≠3 then 111 else if(asN p (second i p)).1≠0 then(asN p (second i p)).1 else partErr (frameAt (p.reg i.dst) i) i.size
def kof(i:Ins)(p:Pl):Kn×Int:=kdo i.op i.narrow (p.reg i.dst) (if i.op=13 then Kn.none else second i p)
def loaded(i:Ins):Kn:=⟨1,⟨0,ones >>> (64-8*i.size).toNat⟩⟩
def Pl.wrote(p:Pl)(i:Ins):Pl:={ p with bytes:=setAll p.bytes (512+frameAt (p.reg i.dst) i).toNat i.size.toNat }
def cstep(i:Ins)(p:Pl):Int×Option Pl×Option Pl :=
 if i.op=14 then(if loadErr i p≠0 then(loadErr i p,none,none)else(0,some (p.put i.dst (loaded i)),none))
 else if i.op=15 then(if putErr i p≠0 then(putErr i p,none,none)else(0,some (p.wrote i),none))
 else if i.op=16 then(0,none,some p)
 else if i.op=28 then((asN p (p.reg 0)).1,none,none)
 else if i.op<=13 then(if(kof i p).2≠0 then((kof i p).2,none,none)else(0,some (p.put i.dst (kof i p).1),none))
 else if(p.reg i.dst).k=0\/(second i p).k=0 then(110,none,none)
 else if(asN p (p.reg i.dst)).1≠0 then((asN p (p.reg i.dst)).1,none,none)
 else if(asN p (second i p)).1≠0 then((asN p (second i p)).1,none,none)
 else(0,ended i p false (asN p (p.reg i.dst)).2 (asN p (second i p)).2,ended i p true (asN p (p.reg i.dst)).2 (asN p (second i p)).2)
def told(ps:List Pl)(at':Nat)(p:Option Pl):List Pl:=match p with
 | none=>ps
 | some p=>ps.set at' ((ps.getD at' Pl.dead).tell p)
def pstep(l:List Ins)(at':Nat)(ps:List Pl):Int×List Pl:=match l[at']? with
 | none=>(0,ps)
 | some i=>if(ps.getD at' Pl.dead).live then
    let r:=cstep i (ps.getD at' Pl.dead)
    if r.1≠0 then(r.1,ps)else(0,told (told ps (at'+1) r.2.1) (at'+1+i.off.toNat) r.2.2)
   else(0,ps)
def psteps(l:List Ins):Nat->Nat->List Pl->(Int×Nat)×List Pl
 | 0,_,ps=>((0,0),ps)
 | n+1,at',ps=>if(pstep l at' ps).1≠0 then(((pstep l at' ps).1,at'),ps)else psteps l n (at'+1) (pstep l at' ps).2
structure Mc where
 regs:List (Int×U)
 stk:List B
 set:List Bool
 at':Nat
 verdict:Option U
def Mc.reg(m:Mc)(r:Int):Int×U:=m.regs.getD r.toNat (0,0)
def Mc.put(m:Mc)(r:Int)(v:Int×U):Mc:={ m with regs:=m.regs.set r.toNat v }
def gets(b:List B)(at' n:Nat):U:=(List.range n).foldl (fun s j=>s ||| ((b.getD (at'+j) 0).setWidth 64 <<< (8*(n-1-j)))) 0
def puts(b:List B)(at' n:Nat)(v:U):List B:=b.mapIdx fun j x=>if at'<=j/\j<at'+n then(v >>> (8*(n-1-(j-at')))).setWidth 8 else x
def getErr(len:Nat)(at' size:Int):Int:=if sized size=false then 2 else if at'<0\/(len:Int)-size<at' then 112 else 0
def frameErr(n:U)(i:Ins):Int:=if(n+wide i.off).toInt+512<0\/512-i.size<(n+wide i.off).toInt+512 then 112 else 0
def esecond(i:Ins)(m:Mc):Int×U:=if i.useImm then(1,wide i.imm)else m.reg i.src
def unset(m:Mc)(r:Int):Bool:=decide ((m.reg r).1=0)
def secErr(i:Ins)(m:Mc):Int:=if !i.useImm&&unset m i.src then 110 else 0
def estep(pk:List B)(i:Ins)(m:Mc):Int×Mc :=
 if i.op=12 then
  let b:=esecond i m
  if secErr i m≠0 then(110,m)
  else if i.narrow&&decide (b.1≠1)then(114,m)
  else(0,m.put i.dst (b.1,if i.narrow then(low b.2).setWidth 64 else b.2))
 else if i.op=13 then
  let a:=m.reg i.dst
  if unset m i.dst then(110,m)else if a.1≠1 then(114,m)else(0,m.put i.dst (a.1,ado 13 i.narrow a.2 0))
 else if i.op=14 then
  let p:=m.reg i.src
  if unset m i.src then(110,m)
  else if p.1=1 then(111,m)
  else if p.1=2 then
   let at':=(p.2+wide i.off).toInt
   if getErr pk.length at' i.size≠0 then(getErr pk.length at' i.size,m)else(0,m.put i.dst (1,gets pk at'.toNat i.size.toNat))
  else
   let at':=((p.2+wide i.off).toInt+512).toNat
   if frameErr p.2 i≠0 then(112,m)else if allSet m.set at' i.size.toNat=false then(110,m)else(0,m.put i.dst (1,gets m.stk at' i.size.toNat))
 else if i.op=15 then
  let p:=m.reg i.dst
  let b:=esecond i m
  if unset m i.dst||decide (secErr i m≠0)then(110,m)
  else if p.1=2 then(114,m)
  else if p.1=1\/b.1≠1 then(111,m)
  else
   let at':=((p.2+wide i.off).toInt+512).toNat
   if frameErr p.2 i≠0 then(112,m)else(0,{ m with set:=setAll m.set at' i.size.toNat,stk:=puts m.stk at' i.size.toNat b.2 })
 else if i.op=16 then(0,{ m with at':=m.at'+i.off.toNat })
 else if i.op=28 then(if unset m 0 then(110,m)else if(m.reg 0).1≠1 then(111,m)else(0,{ m with verdict:=some (m.reg 0).2 }))
 else if i.op<12 then
  let a:=m.reg i.dst
  let b:=esecond i m
  if unset m i.dst||decide (secErr i m≠0)then(110,m)
  else if b.1≠1\/(a.1≠1/\¬((i.op=1\/i.op=2)/\i.narrow=false))then(114,m)
  else if aerr i.op i.narrow b.2≠0 then(aerr i.op i.narrow b.2,m)else(0,m.put i.dst (a.1,ado i.op i.narrow a.2 b.2))
 else
  let a:=m.reg i.dst
  let b:=esecond i m
  if unset m i.dst||decide (secErr i m≠0)then(110,m)
  else if a.1≠1\/b.1≠1 then(111,m)
  else(0,if ais i.op i.narrow a.2 b.2 then { m with at':=m.at'+i.off.toNat }else m)
def Mc.start(len:Nat):Mc:=⟨[(0,0),(2,0),(1,BitVec.ofNat 64 len),(0,0),(0,0),(0,0),(0,0),(0,0),(0,0),(0,0),(3,0)],List.replicate 512 0,List.replicate 512 false,0,none⟩
end Go.Proofs.YtfeipbgnjainlaaGreatDoor.T
namespace Go.Proofs.YtfeipbgnjainlaaGreatDoor.K
open Go Go.RowKit
def S32(x:BitVec 32):Value:=.int .i32 x.toInt
def S64(x:BitVec 64):Value:=.int .i64 x.toInt
section
variable(t:TypeId)(x y:BitVec 32)
theorem W32_sub:binOp .sub t (W32 x) (W32 y)=pure (W32 (x-y)):=by
 have h:IntKind.u32.wrap ((x.toNat:Int)-(y.toNat:Int))=((x-y).toNat:Int):=by
  rw[wrap_u32',BitVec.toNat_sub];have:=x.isLt;have:=y.isLt;omega
 simp only[W32,binOp_sub,Op.intArith,h]
theorem W32_nz(hy:y≠0#32):¬(y.toNat:Int)=0:=fun e=>hy (BitVec.eq_of_toNat_eq (by simpa using e))
theorem W32_quo(hy:y≠0#32):binOp .quo t (W32 x) (W32 y)=pure (W32 (x/y)):=by
 have h0:=W32_nz y hy
 have h:IntKind.u32.wrap ((x.toNat:Int).tdiv (y.toNat:Int))=((x/y).toNat:Int):=by
  rw[show(x.toNat:Int).tdiv (y.toNat:Int)=((x.toNat/y.toNat:Nat):Int)from rfl,wrap_u32_nat,BitVec.toNat_ofNat,BitVec.toNat_udiv];have h2:=Nat.div_le_self x.toNat y.toNat;have h3:=x.isLt;rw[Nat.mod_eq_of_lt (by omega)]
 rw[show binOp .quo t (W32 x) (W32 y)=Op.intDiv .quo .u32 (x.toNat:Int) (y.toNat:Int)from binOp_quo ..];unfold Op.intDiv;rw[if_neg (by simpa using h0)];simp only[h,W32]
theorem W32_rem(hy:y≠0#32):binOp .rem t (W32 x) (W32 y)=pure (W32 (x % y)):=by
 have h0:=W32_nz y hy
 have h:(x.toNat:Int).tmod (y.toNat:Int)=((x % y).toNat:Int):=by
  rw[show(x.toNat:Int).tmod (y.toNat:Int)=((x.toNat % y.toNat:Nat):Int)from rfl,BitVec.toNat_umod]
 rw[show binOp .rem t (W32 x) (W32 y)=Op.intDiv .rem .u32 (x.toNat:Int) (y.toNat:Int)from binOp_rem ..];unfold Op.intDiv;rw[if_neg (by simpa using h0)];simp only[h,W32]
theorem W32_leq:binOp .leq t (W32 x) (W32 y)=pure (.bool (x.ule y)):=by
 have h:decide ((x.toNat:Int)<=(y.toNat:Int))=x.ule y:=by
  unfold BitVec.ule;rw[decide_eq_decide];omega
 simp only[W32,binOp_leq,h]
theorem W32_geq:binOp .geq t (W32 x) (W32 y)=pure (.bool (y.ule x)):=by
 have h:decide ((x.toNat:Int)≥(y.toNat:Int))=y.ule x:=by
  unfold BitVec.ule;rw[decide_eq_decide];omega
 simp only[W32,binOp_geq,h]
theorem W32_shlW:binOp .shl t (W32 x) (W32 y)=pure (W32 (x <<< y.toNat)):=W32_shl' t x .u32 y.toNat
theorem W32_shrW:binOp .shr t (W32 x) (W32 y)=pure (W32 (x >>> y.toNat)):=W32_shr' t x .u32 y.toNat
theorem S32_shrW:binOp .shr t (S32 x) (W32 y)=pure (S32 (x.sshiftRight y.toNat)):=by
 rw[show binOp .shr t (S32 x) (W32 y)=Op.shift .shr .i32 x.toInt .u32 (y.toNat:Int)from rfl,shift_shr_any _ _ _ _ (Int.natCast_nonneg _)];simp only[Int.toNat_natCast,IntKind.bits]
 have e:(x.sshiftRight y.toNat).toInt=x.toInt/2 ^ min y.toNat 32:=by
  rw[BitVec.toInt_sshiftRight,Int.shiftRight_eq_div_pow];rcases Nat.le_total y.toNat 32 with h|h
  ·rw[Nat.min_eq_left h];simp
  ·rw[Nat.min_eq_right h]
   have b1:x.toInt<2147483648:=x.toInt_lt;have b2 : -2147483648<=x.toInt:=x.le_toInt;have hp:(2:Nat) ^ 32<=2 ^ y.toNat:=Nat.pow_le_pow_right (by omega) h;have hq:((2:Int) ^ 32)=4294967296:=by decide
   rw[hq];generalize 2 ^ y.toNat=p at hp;by_cases hn:x.toInt<0
   ·have e1:x.toInt/(p:Int) = -1:=by
     rw[Int.ediv_eq_iff_of_pos (by omega)];omega
    rw[e1];omega
   ·rw[Int.ediv_eq_zero_of_lt (by omega) (by omega)];omega
 rw[S32,e]
theorem S32_lss:binOp .lss t (S32 x) (S32 y)=pure (.bool (x.slt y)):=by
 simp only[S32,binOp_lss,BitVec.slt]
theorem S32_gtr:binOp .gtr t (S32 x) (S32 y)=pure (.bool (y.slt x)):=by
 simp only[S32,binOp_gtr,BitVec.slt,gt_iff_lt]
theorem S32_leq:binOp .leq t (S32 x) (S32 y)=pure (.bool (x.sle y)):=by
 simp only[S32,binOp_leq,BitVec.sle]
theorem S32_geq:binOp .geq t (S32 x) (S32 y)=pure (.bool (y.sle x)):=by
 simp only[S32,binOp_geq,BitVec.sle,ge_iff_le]
end
section
variable(t:TypeId)(x y:BitVec 64)
theorem W64_sub:binOp .sub t (W64 x) (W64 y)=pure (W64 (x-y)):=by
 have h:IntKind.u64.wrap ((x.toNat:Int)-(y.toNat:Int))=((x-y).toNat:Int):=by
  rw[wrap_u64',BitVec.toNat_sub];have:=x.isLt;have:=y.isLt;omega
 simp only[W64,binOp_sub,Op.intArith,h]
theorem W64_nz(hy:y≠0#64):¬(y.toNat:Int)=0:=fun e=>hy (BitVec.eq_of_toNat_eq (by simpa using e))
theorem W64_quo(hy:y≠0#64):binOp .quo t (W64 x) (W64 y)=pure (W64 (x/y)):=by
 have h0:=W64_nz y hy
 have h:IntKind.u64.wrap ((x.toNat:Int).tdiv (y.toNat:Int))=((x/y).toNat:Int):=by
  rw[show(x.toNat:Int).tdiv (y.toNat:Int)=((x.toNat/y.toNat:Nat):Int)from rfl,wrap_u64_nat,BitVec.toNat_ofNat,BitVec.toNat_udiv];have h2:=Nat.div_le_self x.toNat y.toNat;have h3:=x.isLt;rw[Nat.mod_eq_of_lt (by omega)]
 rw[show binOp .quo t (W64 x) (W64 y)=Op.intDiv .quo .u64 (x.toNat:Int) (y.toNat:Int)from binOp_quo ..];unfold Op.intDiv;rw[if_neg (by simpa using h0)];simp only[h,W64]
theorem W64_rem(hy:y≠0#64):binOp .rem t (W64 x) (W64 y)=pure (W64 (x % y)):=by
 have h0:=W64_nz y hy
 have h:(x.toNat:Int).tmod (y.toNat:Int)=((x % y).toNat:Int):=by
  rw[show(x.toNat:Int).tmod (y.toNat:Int)=((x.toNat % y.toNat:Nat):Int)from rfl,BitVec.toNat_umod]
 rw[show binOp .rem t (W64 x) (W64 y)=Op.intDiv .rem .u64 (x.toNat:Int) (y.toNat:Int)from binOp_rem ..];unfold Op.intDiv;rw[if_neg (by simpa using h0)];simp only[h,W64]
theorem W64_leq:binOp .leq t (W64 x) (W64 y)=pure (.bool (x.ule y)):=by
 have h:decide ((x.toNat:Int)<=(y.toNat:Int))=x.ule y:=by
  unfold BitVec.ule;rw[decide_eq_decide];omega
 simp only[W64,binOp_leq,h]
theorem W64_geq:binOp .geq t (W64 x) (W64 y)=pure (.bool (y.ule x)):=by
 have h:decide ((x.toNat:Int)≥(y.toNat:Int))=y.ule x:=by
  unfold BitVec.ule;rw[decide_eq_decide];omega
 simp only[W64,binOp_geq,h]
theorem W64_shlW:binOp .shl t (W64 x) (W64 y)=pure (W64 (x <<< y.toNat)):=W64_shl' t x .u64 y.toNat
theorem W64_shrW:binOp .shr t (W64 x) (W64 y)=pure (W64 (x >>> y.toNat)):=W64_shr' t x .u64 y.toNat
theorem S64_shrW:binOp .shr t (S64 x) (W64 y)=pure (S64 (x.sshiftRight y.toNat)):=by
 rw[show binOp .shr t (S64 x) (W64 y)=Op.shift .shr .i64 x.toInt .u64 (y.toNat:Int)from rfl,shift_shr_any _ _ _ _ (Int.natCast_nonneg _)];simp only[Int.toNat_natCast,IntKind.bits]
 have e:(x.sshiftRight y.toNat).toInt=x.toInt/2 ^ min y.toNat 64:=by
  rw[BitVec.toInt_sshiftRight,Int.shiftRight_eq_div_pow];rcases Nat.le_total y.toNat 64 with h|h
  ·rw[Nat.min_eq_left h];simp
  ·rw[Nat.min_eq_right h]
   have b1:x.toInt<9223372036854775808:=x.toInt_lt;have b2 : -9223372036854775808<=x.toInt:=x.le_toInt;have hp:(2:Nat) ^ 64<=2 ^ y.toNat:=Nat.pow_le_pow_right (by omega) h;have hq:((2:Int) ^ 64)=18446744073709551616:=by decide
   rw[hq];generalize 2 ^ y.toNat=p at hp;by_cases hn:x.toInt<0
   ·have e1:x.toInt/(p:Int) = -1:=by
     rw[Int.ediv_eq_iff_of_pos (by omega)];omega
    rw[e1];omega
   ·rw[Int.ediv_eq_zero_of_lt (by omega) (by omega)];omega
 rw[S64,e]
theorem S64_lss:binOp .lss t (S64 x) (S64 y)=pure (.bool (x.slt y)):=by
 simp only[S64,binOp_lss,BitVec.slt]
theorem S64_gtr:binOp .gtr t (S64 x) (S64 y)=pure (.bool (y.slt x)):=by
 simp only[S64,binOp_gtr,BitVec.slt,gt_iff_lt]
theorem S64_leq:binOp .leq t (S64 x) (S64 y)=pure (.bool (x.sle y)):=by
 simp only[S64,binOp_leq,BitVec.sle]
theorem S64_geq:binOp .geq t (S64 x) (S64 y)=pure (.bool (y.sle x)):=by
 simp only[S64,binOp_geq,BitVec.sle,ge_iff_le]
end
theorem W64_neg(x:BitVec 64):Op.unary .neg (W64 x)=pure (W64 (-x)):=by
 have h:IntKind.u64.wrap (0-(x.toNat:Int))=((-x).toNat:Int):=by
  rw[wrap_u64',BitVec.toNat_neg];have:=x.isLt;omega
 show Op.intArith .sub .u64 0 (x.toNat:Int)=_
 simp[Op.intArith];exact congrArg (fun z=>(pure (Value.int .u64 z):Sem Value)) (by simpa using h)
section
variable{P:Program}(w:World)(src dst:TypeId)
theorem conv_W64_W32(x:BitVec 64)(hs:P.underlying src=some (.int .u64))(hd:P.underlying dst=some (.int .u32)):(convert src dst (W64 x)).run P w=.ok (W32 (T.low x)) w:=by
 have h:IntKind.u32.wrap (x.toNat:Int)=((T.low x).toNat:Int):=by
  rw[wrap_u32_nat,BitVec.toNat_ofNat,T.low,BitVec.toNat_setWidth]
 simp[convert,run_underlying hs,run_underlying hd,Conv.intToInt,W64,W32,h]
theorem conv_W32_W64(x:BitVec 32)(hs:P.underlying src=some (.int .u32))(hd:P.underlying dst=some (.int .u64)):(convert src dst (W32 x)).run P w=.ok (W64 (x.setWidth 64)) w:=by
 have h:IntKind.u64.wrap (x.toNat:Int)=((x.setWidth 64).toNat:Int):=by
  rw[wrap_u64_nat,BitVec.toNat_ofNat,BitVec.toNat_setWidth]
 simp[convert,run_underlying hs,run_underlying hd,Conv.intToInt,W64,W32,h]
theorem wrap_i32_nat(x:BitVec 32):IntKind.i32.wrap (x.toNat:Int)=x.toInt:=by
 have h:=x.isLt;simp only[IntKind.wrap,IntKind.bits,IntKind.signed,BitVec.toInt_eq_toNat_cond];simp;split<;>split<;>omega
theorem wrap_i64_nat(x:BitVec 64):IntKind.i64.wrap (x.toNat:Int)=x.toInt:=by
 have h:=x.isLt;simp only[IntKind.wrap,IntKind.bits,IntKind.signed,BitVec.toInt_eq_toNat_cond];simp;split<;>split<;>omega
theorem conv_W32_S32(x:BitVec 32)(hs:P.underlying src=some (.int .u32))(hd:P.underlying dst=some (.int .i32)):(convert src dst (W32 x)).run P w=.ok (S32 x) w:=by
 simp[convert,run_underlying hs,run_underlying hd,Conv.intToInt,W32,S32,wrap_i32_nat]
theorem conv_W64_S64(x:BitVec 64)(hs:P.underlying src=some (.int .u64))(hd:P.underlying dst=some (.int .i64)):(convert src dst (W64 x)).run P w=.ok (S64 x) w:=by
 simp[convert,run_underlying hs,run_underlying hd,Conv.intToInt,W64,S64,wrap_i64_nat]
theorem wrap_u32_toInt(x:BitVec 32):IntKind.u32.wrap x.toInt=(x.toNat:Int):=by
 have h:=x.isLt;rw[wrap_u32',BitVec.toInt_eq_toNat_cond];split<;>omega
theorem wrap_u64_toInt(x:BitVec 64):IntKind.u64.wrap x.toInt=(x.toNat:Int):=by
 have h:=x.isLt;rw[wrap_u64',BitVec.toInt_eq_toNat_cond];split<;>omega
theorem conv_S32_W32(x:BitVec 32)(hs:P.underlying src=some (.int .i32))(hd:P.underlying dst=some (.int .u32)):(convert src dst (S32 x)).run P w=.ok (W32 x) w:=by
 simp[convert,run_underlying hs,run_underlying hd,Conv.intToInt,W32,S32,wrap_u32_toInt]
theorem conv_S64_W64(x:BitVec 64)(hs:P.underlying src=some (.int .i64))(hd:P.underlying dst=some (.int .u64)):(convert src dst (S64 x)).run P w=.ok (W64 x) w:=by
 simp[convert,run_underlying hs,run_underlying hd,Conv.intToInt,W64,S64,wrap_u64_toInt]
theorem wrap_u64_int(z:Int):IntKind.u64.wrap z=((T.wide z).toNat:Int):=by
 rw[wrap_u64',T.wide,BitVec.toNat_ofInt];omega
end
section
variable{P:Program}(w:World)(ts:Array TypeId)(t:TypeId)(x y:BitVec 64)
theorem W64_max:(Builtin.max_ ts t #[W64 x,W64 y]).run P w=.ok (W64 (T.umax x y)) w:=by
 rw[W64,W64,run_max_int2]
 congr 1
 unfold T.umax BitVec.ult W64;by_cases h:x.toNat<y.toNat
 ·rw[if_pos (by omega),if_pos (by simpa using h)]
 ·rw[if_neg (by omega),if_neg (by simpa using h)]
theorem W64_min:(Builtin.min_ ts t #[W64 x,W64 y]).run P w=.ok (W64 (T.umin x y)) w:=by
 rw[W64,W64,run_min_int2]
 congr 1
 unfold T.umin BitVec.ult W64;by_cases h:y.toNat<x.toNat
 ·rw[if_pos (by omega),if_pos (by simpa using h)]
 ·rw[if_neg (by omega),if_neg (by simpa using h)]
end
attribute [go_sem ↓ high] W32_sub W32_quo W32_rem W32_leq W32_geq W32_shlW W32_shrW S32_shrW S32_lss S32_gtr S32_leq S32_geq W64_sub W64_quo W64_rem W64_leq W64_geq W64_shlW W64_shrW S64_shrW S64_lss S64_gtr S64_leq S64_geq W64_neg conv_W64_W32 conv_W32_W64 conv_W32_S32 conv_W64_S64 conv_S32_W32 conv_S64_W64 W64_max W64_min
theorem lit64_0:Value.int .u64 0=W64 0#64:=rfl
theorem lit64_1:Value.int .u64 1=W64 1#64:=rfl
theorem lit64_8:Value.int .u64 8=W64 8#64:=rfl
theorem lit64_16:Value.int .u64 16=W64 16#64:=rfl
theorem lit64_31:Value.int .u64 31=W64 31#64:=rfl
theorem lit64_32:Value.int .u64 32=W64 32#64:=rfl
theorem lit64_63:Value.int .u64 63=W64 63#64:=rfl
theorem lit64_64:Value.int .u64 64=W64 64#64:=rfl
theorem lit64_65535:Value.int .u64 65535=W64 65535#64:=rfl
theorem lit64_4294967295:Value.int .u64 4294967295=W64 4294967295#64:=rfl
theorem lit64_18446744073709551615:Value.int .u64 18446744073709551615=W64 18446744073709551615#64:=rfl
theorem lit32_0:Value.int .u32 0=W32 0#32:=rfl
theorem lit32_32:Value.int .u32 32=W32 32#32:=rfl
attribute [go_sem] lit64_0 lit64_1 lit64_8 lit64_16 lit64_31 lit64_32 lit64_63 lit64_64 lit64_65535 lit64_4294967295 lit64_18446744073709551615 lit32_0 lit32_32
end Go.Proofs.YtfeipbgnjainlaaGreatDoor.K
namespace Go.Proofs.YtfeipbgnjainlaaGreatDoor.T
structure PlH(p:Pl)(m:Mc)(len:Nat):Prop where
 live:p.live=true
 rl:p.regs.length=11
 bl:p.bytes.length=512
 ml:m.regs.length=11
 sl:m.set.length=512
 tl:m.stk.length=512
 regs:∀r,r<11->(p.regs.getD r Kn.none).holds (m.regs.getD r (0,0)).1 (m.regs.getD r (0,0)).2 len
 bytes:∀j,j<512->p.bytes.getD j false=true->m.set.getD j false=true
 l0:0<=p.least
 ll:p.least<=len
theorem getD_set{α:Type _}(l:List α)(i j:Nat)(x d:α):(l.set i x).getD j d=if i=j/\j<l.length then x else l.getD j d:=by
 rw[List.getD_eq_getElem?_getD,List.getD_eq_getElem?_getD,List.getElem?_set];by_cases h:i=j
 ·subst h
  by_cases h2:i<l.length
  ·simp[h2]
  ·rw[if_pos rfl,if_neg h2,if_neg (fun e=>h2 e.2),List.getElem?_eq_none (by omega)]
 ·rw[if_neg h,if_neg (fun e=>h e.1)]
section
variable{p:Pl}{m:Mc}{len:Nat}
theorem PlH.reg(h:PlH p m len)(r:Int)(h0:0<=r)(h1:r<=10):(p.reg r).holds (m.reg r).1 (m.reg r).2 len:=h.regs r.toNat (by omega)
theorem PlH.put(h:PlH p m len)(r:Int)(h0:0<=r)(h1:r<=10){k:Kn}{v:Int×U}(hk:k.holds v.1 v.2 len):PlH (p.put r k) (m.put r v) len:=by
 refine⟨h.live,by simp[Pl.put,h.rl],h.bl,by simp[Mc.put,h.ml],h.sl,h.tl,fun j hj=>?_,h.bytes,h.l0,h.ll⟩;simp only[Pl.put,Mc.put,getD_set,h.rl,h.ml];by_cases e:r.toNat=j/\j<11
 ·rw[if_pos e,if_pos e];exact hk
 ·rw[if_neg e,if_neg e];exact h.regs j hj
theorem asN_ok(h:PlH p m len)(hl:len<=65535){k:Kn}{vk:Int}{n:U}(hk:k.holds vk n len){s:Sp}(ha:asN p k=(0,s)):vk=1/\s.has n=true/\k.k≠0:=by
 obtain⟨h1,h2⟩:=hk;unfold asN at ha;split at ha
 ·simp at ha
 ·rename_i k0
  split at ha
  ·rename_i k1
   simp only[Prod.mk.injEq,true_and]at ha;subst ha;rcases h2 with e|⟨e,_⟩|⟨_,e1,e2⟩
   ·omega
   ·omega
   ·exact⟨e1.trans k1,e2,k0⟩
  ·split at ha
   ·rename_i k4
    simp only[Prod.mk.injEq,true_and]at ha;subst ha;rcases h2 with e|⟨_,e1,e2⟩|⟨e,_⟩
    ·omega
    ·refine⟨e1,?_,k0⟩
     have hll:=h.ll;have hl0:=h.l0;rw[Sp.has_iff];simp only;rw[show(65535#64:U).toNat=65535 by rfl];unfold wide;rw[BitVec.toNat_ofInt];omega
    ·omega
   ·simp at ha
theorem wide_imm_holds(n:Int)(len:Nat):(⟨1,Sp.of (wide n)⟩:Kn).holds 1 (wide n) len:=by
 have h:(Sp.of (wide n)).has (wide n)=true:=by rw[Sp.has_iff];exact⟨Nat.le_refl _,Nat.le_refl _⟩
 exact⟨Sp.has_right h,.inr (.inr ⟨.inl rfl,rfl,h⟩)⟩
theorem second_holds(h:PlH p m len)(i:Ins)(h0:0<=i.src)(h1:i.src<=10):(second i p).holds (esecond i m).1 (esecond i m).2 len:=by
 unfold second esecond;split
 ·exact wide_imm_holds _ _
 ·exact h.reg i.src h0 h1
theorem holds_set{k:Kn}{vk:Int}{n:U}(h:k.holds vk n len)(h0:k.k≠0):vk≠0:=by
 obtain⟨_,e|⟨_,e,_⟩|⟨e,e2,_⟩⟩:=h
 ·exact absurd e h0
 ·omega
 ·omega
theorem secErr_ok(h:PlH p m len)(i:Ins)(h0:0<=i.src)(h1:i.src<=10)(hs:(second i p).k≠0):secErr i m=0:=by
 unfold secErr;cases hu:i.useImm with
 | true=>rfl
 | false =>
   have e:second i p=p.reg i.src:=by unfold second;rw[hu];rfl
   rw[e]at hs;have h2:=holds_set (h.reg i.src h0 h1) hs;simp[unset,h2]
theorem unset_ok(h:PlH p m len)(r:Int)(h0:0<=r)(h1:r<=10)(hs:(p.reg r).k≠0):unset m r=false:=by
 have h2:=holds_set (h.reg r h0 h1) hs;simp[unset,h2]
theorem holds_kind{k:Kn}{vk:Int}{n:U}(h:k.holds vk n len)(h0:k.k≠0)(h4:k.k≠4):vk=k.k/\k.s.has n=true:=by
 obtain⟨_,e|⟨e,_⟩|⟨_,e1,e2⟩⟩:=h
 ·exact absurd e h0
 ·exact absurd e h4
 ·exact⟨e1,e2⟩
theorem holds_frame{k:Kn}{vk:Int}{n:U}(h:k.holds vk n len)(h3:k.k=3):vk=3/\n=k.s.lo:=by
 obtain⟨e1,e2⟩:=holds_kind h (by omega) (by omega);have hr:=h.1;rw[Kn.right_3 h3]at hr;have hs:k.s=Sp.of k.s.lo:=beq_iff_eq.1 hr;rw[hs,Sp.has_iff]at e2;exact⟨e1.trans h3,BitVec.eq_of_toNat_eq (by simp only[Sp.of]at e2;omega)⟩
theorem allSet_ok(h:PlH p m len){a n:Nat}(hn:a+n<=512)(hs:allSet p.bytes a n=true):allSet m.set a n=true:=by
 unfold allSet at hs ⊢;rw[List.all_eq_true]at hs ⊢;intro j hj;have hj2:=List.mem_range.1 hj;exact h.bytes (a+j) (by omega) (hs j hj)
theorem setAll_length(b:List Bool)(a n:Nat):(setAll b a n).length=b.length:=by simp[setAll]
theorem setAll_getD(b:List Bool)(a n j:Nat)(hj:j<b.length):(setAll b a n).getD j false=(b.getD j false||(decide (a<=j)&&decide (j<a+n))):=by
 unfold setAll;rw[List.getD_eq_getElem?_getD,List.getD_eq_getElem?_getD,List.getElem?_mapIdx,List.getElem?_eq_getElem hj];rfl
theorem puts_length(b:List B)(a n:Nat)(v:U):(puts b a n v).length=b.length:=by simp[puts]
theorem PlH.wrote(h:PlH p m len)(a n:Nat)(v:U):PlH { p with bytes:=setAll p.bytes a n } { m with set:=setAll m.set a n,stk:=puts m.stk a n v } len:=by
 refine⟨h.live,h.rl,by rw[setAll_length];exact h.bl,h.ml,by rw[setAll_length];exact h.sl,by rw[puts_length];exact h.tl,h.regs,fun j hj hb=>?_,h.l0,h.ll⟩;rw[setAll_getD _ _ _ _ (by rw[h.bl];exact hj)]at hb;rw[setAll_getD _ _ _ _ (by rw[h.sl];exact hj)];rw[Bool.or_eq_true]at hb ⊢;exact hb.imp (h.bytes j hj) id
theorem PlH.at''(h:PlH p m len)(k:Nat):PlH p { m with at':=k } len:=⟨h.live,h.rl,h.bl,h.ml,h.sl,h.tl,h.regs,h.bytes,h.l0,h.ll⟩
theorem gets_lt(b:List B)(a n:Nat)(hn:n<=8):(gets b a n).toNat<2 ^ (8*n):=by
 unfold gets
 have key:∀(l:List Nat) (s:U),(∀j∈l,j<n)->s.toNat<2 ^ (8*n)->(l.foldl (fun s j=>s ||| ((b.getD (a+j) 0).setWidth 64 <<< (8*(n-1-j)))) s).toNat<2 ^ (8*n):=by
  intro l
  induction l with
  | nil=>intro s _ h;exact h
  | cons j l ih =>
    intro s hj h;refine ih _ (fun k hk=>hj k (List.mem_cons_of_mem _ hk)) ?_;rw[BitVec.toNat_or];refine Nat.or_lt_two_pow h ?_;have hjn:=hj j (List.mem_cons_self ..);rw[BitVec.toNat_shiftLeft,BitVec.toNat_setWidth,Nat.shiftLeft_eq];have hb:=(b.getD (a+j) 0).isLt;have e1:(b.getD (a+j) 0).toNat % 2 ^ 64=(b.getD (a+j) 0).toNat:=Nat.mod_eq_of_lt (by omega);rw[e1];refine Nat.lt_of_le_of_lt (Nat.mod_le _ _) ?_;have e2:8*n=8+(8*(n-1-j)+8*j):=by omega
    rw[e2,Nat.pow_add,Nat.pow_add];have h3:0<2 ^ (8*(n-1-j)):=Nat.two_pow_pos _;have h4:0<2 ^ (8*j):=Nat.two_pow_pos _
    calc (b.getD (a+j) 0).toNat*2 ^ (8*(n-1-j))<2 ^ 8*2 ^ (8*(n-1-j)):=Nat.mul_lt_mul_of_pos_right hb h3
     _<=2 ^ 8*(2 ^ (8*(n-1-j))*2 ^ (8*j)):=Nat.mul_le_mul_left _ (Nat.le_mul_of_pos_right _ h4)
 exact key _ 0 (fun j hj=>List.mem_range.1 hj) (by simpa using Nat.two_pow_pos _)
theorem sized_cases{n:Int}(h:sized n=true):n=1\/n=2\/n=4\/n=8:=by simpa [sized]using h
theorem loaded_holds(b:List B)(a:Nat){size:Int}(hs:sized size=true):(⟨1,⟨0,ones >>> (64-8*size).toNat⟩⟩:Kn).holds 1 (gets b a size.toNat) len:=by
 have h:(⟨0,ones >>> (64-8*size).toNat⟩:Sp).has (gets b a size.toNat)=true:=by
  rw[Sp.has_iff];refine⟨Nat.zero_le _,?_⟩;have hg:=gets_lt b a size.toNat (by rcases sized_cases hs with rfl|rfl|rfl|rfl<;>decide);rw[BitVec.toNat_ushiftRight,ones_nat];rw[Nat.shiftRight_eq_div_pow];rcases sized_cases hs with rfl|rfl|rfl|rfl
  ·have hg':(gets b a (1:Int).toNat).toNat<256:=hg
   show _<=18446744073709551615/2 ^ 56
   omega
  ·have hg':(gets b a (2:Int).toNat).toNat<65536:=hg
   show _<=18446744073709551615/2 ^ 48
   omega
  ·have hg':(gets b a (4:Int).toNat).toNat<4294967296:=hg
   show _<=18446744073709551615/2 ^ 32
   omega
  ·have hg':(gets b a (8:Int).toNat).toNat<18446744073709551616:=hg
   show _<=18446744073709551615/2 ^ 0
   omega
 exact⟨Sp.has_right h,.inr (.inr ⟨.inl rfl,rfl,h⟩)⟩
theorem bmod_self{z:Int}(h0 : -9223372036854775808<=z)(h1:z<9223372036854775808):z.bmod (2 ^ 64)=z:=by
 have e:((2 ^ 64:Nat):Int)=18446744073709551616:=by decide
 simp only[Int.bmod,e];split<;>omega
theorem wide_toInt{z:Int}(h0 : -9223372036854775808<=z)(h1:z<9223372036854775808):(wide z).toInt=z:=by
 unfold wide;rw[BitVec.toInt_ofInt,bmod_self h0 h1]
theorem packet_at{s:Sp}{n:U}{off size:Int}(hn:s.has n=true)(h1:¬ 65535<s.hi.toNat)(h2:0<=s.lo.toInt+off)(h3:s.hi.toInt+off+size<=len)(ho : -32768<=off/\off<=32767)(hs:sized size=true):getErr len (n+wide off).toInt size=0:=by
 rw[Sp.has_iff]at hn;have e1:s.lo.toInt=(s.lo.toNat:Int):=by rw[BitVec.toInt_eq_toNat_cond,if_pos (by omega)]
 have e2:s.hi.toInt=(s.hi.toNat:Int):=by rw[BitVec.toInt_eq_toNat_cond,if_pos (by omega)]
 have e3:(n+wide off).toInt=(n.toNat:Int)+off:=by
  have e4:n.toInt=(n.toNat:Int):=by rw[BitVec.toInt_eq_toNat_cond,if_pos (by omega)]
  rw[BitVec.toInt_add,wide_toInt (by omega) (by omega),e4,bmod_self (by omega) (by omega)]
 rw[e1]at h2;rw[e2]at h3;unfold getErr;rw[if_neg (by rw[hs];decide),e3,if_neg (by omega)]
theorem frame_ok{n:U}{i:Ins}(h:¬((n+wide i.off).toInt < -512 \/ -i.size<(n+wide i.off).toInt)):frameErr n i=0:=by
 unfold frameErr;rw[if_neg (by omega)]
theorem with_holds{m:Mc}{r:Int}(h:PlH p m len)(hl:len<=65535)(h0:0<=r)(h1:r<=10){s:Sp}(hk:(p.reg r).k=1\/(p.reg r).k=4)(hs:s.has (m.reg r).2=true):PlH (p.with r s) m len:=by
 unfold Pl.with
 split
 ·rename_i hk1
  have hm:m.put r ((m.reg r).1,(m.reg r).2)=m:=by
   unfold Mc.put Mc.reg
   have e:m.regs.set r.toNat ((m.regs.getD r.toNat (0,0)).1,(m.regs.getD r.toNat (0,0)).2)=m.regs:=by
    apply List.ext_getElem?;intro j;rw[List.getElem?_set];split
    ·rename_i e;subst e
     split
     ·rename_i hlt;rw[List.getD_eq_getElem?_getD,List.getElem?_eq_getElem hlt];rfl
     ·rename_i hlt;rw[List.getElem?_eq_none (by omega)]
    ·rfl
   rw[e]
  have hv:=holds_kind (h.reg r h0 h1) (by omega) (by omega);have h2:=h.put r h0 h1 (k:=⟨1,s⟩) (v:=((m.reg r).1,(m.reg r).2)) ⟨Sp.has_right hs,.inr (.inr ⟨.inl rfl,hv.1.trans hk1,hs⟩)⟩;rw[hm]at h2;exact h2
 ·rename_i hk1
  have hk4:(p.reg r).k=4:=by omega
  have hv:(m.reg r).2.toNat=len:=by
   obtain⟨_,e|⟨_,_,e⟩|⟨e,_⟩⟩:=h.reg r h0 h1
   ·omega
   ·exact e
   ·omega
  rw[Sp.has_iff,hv]at hs;have e1:s.lo.toInt=(s.lo.toNat:Int):=by rw[BitVec.toInt_eq_toNat_cond,if_pos (by omega)]
  refine⟨h.live,h.rl,h.bl,h.ml,h.sl,h.tl,h.regs,h.bytes,?_,?_⟩
  ·simp only
   have:=h.l0;omega
  ·simp only
   have:=h.ll;omega
theorem with_reg_other(p:Pl)(r q:Int)(s:Sp)(h:r.toNat≠q.toNat):(p.with r s).reg q=p.reg q:=by
 unfold Pl.with
 split
 ·simp only[Pl.put,Pl.reg,getD_set]
  rw[if_neg (fun e=>h e.1)]
 ·rfl
theorem ended_holds{m:Mc}(h:PlH p m len)(hl:len<=65535)(i:Ins)(hd:0<=i.dst/\i.dst<=10)(hs:0<=i.src/\i.src<=10)(ho:17<=i.op/\i.op<=27){M N:Sp}(ha:asN p (p.reg i.dst)=(0,M))(hb:asN p (second i p)=(0,N))(yes:Bool)
  (hy:ais i.op i.narrow (m.reg i.dst).2 (esecond i m).2=yes):∃q,ended i p yes M N=some q/\PlH q m len:=by
 obtain⟨a1,a2,a3⟩:=asN_ok h hl (h.reg i.dst hd.1 hd.2) ha;obtain⟨b1,b2,b3⟩:=asN_ok h hl (second_holds h i hs.1 hs.2) hb;obtain⟨s,t,he,hs1,ht1⟩:=sif_sound i.op i.narrow yes M N _ _ ho a2 b2 hy
 have hka:(p.reg i.dst).k=1\/(p.reg i.dst).k=4:=by
  unfold asN at ha;split at ha
  ·simp at ha
  ·split at ha
   ·left;assumption
   ·split at ha
    ·right;assumption
    ·simp at ha
 unfold ended;rw[he];refine⟨_,rfl,?_⟩;simp only;cases hu:i.useImm with
 | true=>exact with_holds h hl hd.1 hd.2 hka hs1
 | false =>
   simp only[if_false,Bool.false_eq_true];by_cases hne:i.src≠i.dst
   ·rw[if_pos hne]
    have h2:=with_holds h hl hd.1 hd.2 hka hs1;have e1:second i p=p.reg i.src:=by unfold second;rw[hu];rfl
    have e2:esecond i m=m.reg i.src:=by unfold esecond;rw[hu];rfl
    have hkb:(p.reg i.src).k=1\/(p.reg i.src).k=4:=by
     rw[e1]at hb;unfold asN at hb;split at hb
     ·simp at hb
     ·split at hb
      ·left;assumption
      ·split at hb
       ·right;assumption
       ·simp at hb
    rw[e2]at ht1;refine with_holds h2 hl hs.1 hs.2 ?_ ht1;rw[with_reg_other p i.dst i.src s (by omega)];exact hkb
   ·rw[if_neg hne]
    exact h
end
theorem right_facts{i:Ins}(h:i.right=true):(0<=i.dst/\i.dst<=10)/\(0<=i.src/\i.src<=10)/\(-32768<=i.off/\i.off<=32767)/\(-2147483648<=i.imm/\i.imm<=2147483647)/\(i.op=14\/i.op=15->sized i.size=true)/\(1<=i.op/\i.op<=28)/\(i.op<=14->i.dst<=9):=by
 unfold Ins.right at h;simp only[Bool.and_eq_true,decide_eq_true_eq,wi]at h;obtain⟨⟨⟨⟨⟨⟨h1,h2⟩,h3⟩,h4⟩,h5⟩,h6⟩,h7⟩:=h
 have hop:1<=i.op/\i.op<=28:=by
  unfold fields at h1
  repeat' split at h1
  all_goals first|omega|exact absurd rfl h1
 refine⟨⟨h3.1,?_⟩,h4,h5,h6,fun e=>?_,hop,fun e=>?_⟩
 ·have:=h3.2
  split at this<;>omega
 ·have hf:fl i.op 5=true:=by rcases e with e|e<;>(rw[e];decide)
  rw[hf]at h7;simpa using h7
 ·have hf:fl i.op 0=true:=by
   unfold fl fields;by_cases c:1<=i.op/\i.op<=12
   ·rw[if_pos c];decide
   ·rw[if_neg c]
    by_cases c2:i.op=13
    ·rw[if_pos c2];decide
    ·rw[if_neg c2,if_pos (by omega)];decide
  have:=h3.2;rw[if_pos hf]at this;exact this
section
variable{p:Pl}{m:Mc}{len:Nat}
def After(i:Ins)(m m':Mc)(ah af:Option Pl)(len:Nat):Prop :=
 (i.op=28/\m'.verdict=some (m.reg 0).2/\m'.at'=m.at') \/
 (i.op≠28/\m'.verdict=m.verdict/\((m'.at'=m.at'/\∃q,ah=some q/\PlH q m' len)\/(m'.at'=m.at'+i.off.toNat/\i.jumps=true/\∃q,af=some q/\PlH q m' len)))
theorem step_load(i:Ins)(hi:i.right=true)(ho:i.op=14)(pk:List B)(hpk:pk.length=len)(hl:len<=65535)(h:PlH p m len){ah af:Option Pl}(hc:cstep i p=(0,ah,af)):∃m',estep pk i m=(0,m')/\After i m m' ah af len:=by
 obtain⟨hd,hs,hof,him,hsz,_,_⟩:=right_facts hi;have hsz:=hsz (.inl ho);unfold cstep at hc;rw[if_pos ho]at hc;split at hc
 ·rename_i he
  exact absurd (congrArg Prod.fst hc) he
 rename_i he;simp only[ne_eq,Decidable.not_not]at he;obtain⟨rfl,rfl⟩:some (p.put i.dst (loaded i))=ah/\(none:Option Pl)=af:=by simpa using hc
 have hreg:=h.reg i.src hs.1 hs.2;unfold loadErr at he
 have fin:∀(b:List B) (a:Nat),After i m (m.put i.dst (1,gets b a i.size.toNat)) (some (p.put i.dst (loaded i))) none len:=fun b a =>
  .inr ⟨by omega,rfl,.inl ⟨rfl,_,rfl,h.put i.dst hd.1 hd.2 (loaded_holds b a hsz)⟩⟩
 unfold estep;rw[if_neg (by omega),if_neg (by omega),if_pos ho];by_cases k3:(p.reg i.src).k=3
 ·rw[if_pos k3]at he
  obtain⟨v1,v2⟩:=holds_frame hreg k3;have hu:=unset_ok h i.src hs.1 hs.2 (by omega);unfold readErr at he;split at he
  ·rename_i hp;exact absurd he hp
  ·rename_i hp
   split at he
   ·rename_i ha
    unfold partErr at hp;rw[hsz]at hp;simp only[Bool.true_eq_false,if_false]at hp;have hp2:¬(frameAt (p.reg i.src) i < -512 \/ -i.size<frameAt (p.reg i.src) i):=fun e=>hp (by rw[if_pos e];decide)
    have hfa:frameAt (p.reg i.src) i=((m.reg i.src).2+wide i.off).toInt:=by unfold frameAt;rw[v2]
    rw[hfa]at hp2 ha;have hf:=frame_ok hp2;have hsc:=sized_cases hsz;have hset:=allSet_ok h (by omega) ha;simp only[hu,v1,hf];have e1:(512+((m.reg i.src).2+wide i.off).toInt).toNat=(((m.reg i.src).2+wide i.off).toInt+512).toNat:=by omega
    rw[e1]at hset;simp only[hset];exact⟨_,rfl,fin _ _⟩
   ·omega
 ·rw[if_neg k3]at he
  by_cases k2:(p.reg i.src).k=2
  ·rw[if_pos k2]at he
   split at he
   ·omega
   rename_i hh;split at he
   ·omega
   rename_i hb;obtain⟨v1,v2⟩:=holds_kind hreg (by omega) (by omega);have hu:=unset_ok h i.src hs.1 hs.2 (by omega);have hll:=h.ll;have hg:=packet_at (len:=pk.length) v2 (by simpa [BitVec.ult]using hh) (by omega) (by omega) hof hsz;simp only[hu,v1,k2,hg];exact⟨_,rfl,fin _ _⟩
  ·rw[if_neg k2]at he
   split at he
   ·rename_i hx;exact absurd he hx
   ·omega
theorem step_put(i:Ins)(hi:i.right=true)(ho:i.op=15)(pk:List B)(hl:len<=65535)(h:PlH p m len){ah af:Option Pl}(hc:cstep i p=(0,ah,af)):∃m',estep pk i m=(0,m')/\After i m m' ah af len:=by
 obtain⟨hd,hs,hof,him,hsz,_,_⟩:=right_facts hi;have hsz:=hsz (.inr ho);unfold cstep at hc;rw[if_neg (by omega),if_pos ho]at hc;split at hc
 ·rename_i he
  exact absurd (congrArg Prod.fst hc) he
 rename_i he;simp only[ne_eq,Decidable.not_not]at he;unfold putErr at he;split at he
 ·omega
 rename_i k0;split at he
 ·omega
 rename_i k2;split at he
 ·omega
 rename_i k3;have k3':(p.reg i.dst).k=3:=by omega
 split at he
 ·rename_i hx;exact absurd he hx
 rename_i hn;simp only[ne_eq,Decidable.not_not]at hn;obtain⟨rfl,rfl⟩:some (p.wrote i)=ah/\(none:Option Pl)=af:=by simpa using hc
 obtain⟨v1,v2⟩:=holds_frame (h.reg i.dst hd.1 hd.2) k3';obtain⟨b1,_,b3⟩:=asN_ok h hl (second_holds h i hs.1 hs.2) (show asN p (second i p)=(0,(asN p (second i p)).2)from Prod.ext hn rfl);have hu:=unset_ok h i.dst hd.1 hd.2 (by omega);have hse:=secErr_ok h i hs.1 hs.2 b3;unfold partErr at he;rw[hsz]at he;simp only[Bool.true_eq_false,if_false]at he;have hp2:¬(frameAt (p.reg i.dst) i < -512 \/ -i.size<frameAt (p.reg i.dst) i):=fun e=>by rw[if_pos e]at he;omega
 have hfa:frameAt (p.reg i.dst) i=((m.reg i.dst).2+wide i.off).toInt:=by unfold frameAt;rw[v2]
 rw[hfa]at hp2;have hf:=frame_ok hp2;have e1:(512+((m.reg i.dst).2+wide i.off).toInt).toNat=(((m.reg i.dst).2+wide i.off).toInt+512).toNat:=by omega
 unfold Pl.wrote;rw[hfa,e1];unfold estep;rw[if_neg (by omega),if_neg (by omega),if_neg (by omega),if_pos ho];simp only[hu,hse,v1,b1,hf];exact⟨_,rfl,.inr ⟨by omega,rfl,.inl ⟨rfl,_,rfl,h.wrote _ _ _⟩⟩⟩
theorem step_alu(i:Ins)(hi:i.right=true)(ho:i.op<=13)(pk:List B)(hl:len<=65535)(h:PlH p m len){ah af:Option Pl}(hc:cstep i p=(0,ah,af)):∃m',estep pk i m=(0,m')/\After i m m' ah af len:=by
 obtain⟨hd,hs,hof,him,_,hop,_⟩:=right_facts hi;unfold cstep at hc;rw[if_neg (by omega),if_neg (by omega),if_neg (by omega),if_neg (by omega),if_pos ho]at hc;split at hc
 ·rename_i he
  exact absurd (congrArg Prod.fst hc) he
 rename_i he;simp only[ne_eq,Decidable.not_not]at he;unfold kof at he hc;obtain⟨k,hk⟩:∃k,k=(kdo i.op i.narrow (p.reg i.dst) (if i.op=13 then Kn.none else second i p)).1:=⟨_,rfl⟩
 have hkd:kdo i.op i.narrow (p.reg i.dst) (if i.op=13 then Kn.none else second i p)=(k,0):=Prod.ext hk.symm he;obtain⟨rfl,rfl⟩:some (p.put i.dst k)=ah/\(none:Option Pl)=af:=by rw[hkd]at hc;simpa using hc
 have hra:=h.reg i.dst hd.1 hd.2;have hrb:=second_holds h i hs.1 hs.2
 have fin:∀v:Int×U,k.holds v.1 v.2 len->After i m (m.put i.dst v) (some (p.put i.dst k)) none len:=fun v hv =>
  .inr ⟨by omega,rfl,.inl ⟨rfl,_,rfl,h.put i.dst hd.1 hd.2 hv⟩⟩
 unfold estep;by_cases h12:i.op=12
 ·rw[if_pos h12]
  rw[if_neg (by omega),h12]at hkd;obtain⟨m1,m2,m3⟩:=kdo_mov i.narrow _ _ k _ (m.reg i.dst).2 _ len hl hrb hkd;have hse:=secErr_ok h i hs.1 hs.2 m1;cases hn:i.narrow with
  | false =>
    simp only[hse,ne_eq,not_true_eq_false,if_false,Bool.false_and,Bool.false_eq_true];refine⟨_,rfl,fin _ ?_⟩;rw[m2 hn];exact hrb
  | true =>
    obtain⟨m4,m5⟩:=m3 hn;simp only[hse,ne_eq,not_true_eq_false,if_false,m4,decide_false,Bool.and_false,Bool.false_eq_true,if_true];refine⟨_,rfl,fin _ ?_⟩;exact m5
 rw[if_neg h12];by_cases h13:i.op=13
 ·rw[if_pos h13]
  rw[if_pos h13,h13]at hkd;obtain⟨m1,m2,m3⟩:=kdo_neg i.narrow _ _ k _ _ len hl hra hkd;have hu:=unset_ok h i.dst hd.1 hd.2 m1;simp only[hu,m2];refine⟨_,rfl,fin _ ?_⟩;exact m3
 rw[if_neg h13,if_neg (by omega),if_neg (by omega),if_neg (by omega),if_neg (by omega),if_pos (by omega)];rw[if_neg h13]at hkd;obtain⟨m1,m2,m3,m4,m5,m6⟩:=kdo_sound i.op i.narrow _ _ k _ _ _ _ len hl hra hrb ⟨h12,h13⟩ hkd;have hu:=unset_ok h i.dst hd.1 hd.2 m3;have hse:=secErr_ok h i hs.1 hs.2 m4
 have hno:¬((esecond i m).1≠1\/((m.reg i.dst).1≠1/\¬((i.op=1\/i.op=2)/\i.narrow=false))):=by
  rintro(e|⟨e,e2⟩)
  ·exact e m1
  ·rcases m2 with e3|e3
   ·exact e e3
   ·exact e2 e3
 simp only[hu,hse,m5,ne_eq,not_true_eq_false,decide_false,Bool.or_self,Bool.false_eq_true,if_false];rw[if_neg hno];exact⟨_,rfl,fin _ m6⟩
theorem step_branch(i:Ins)(hi:i.right=true)(ho:17<=i.op/\i.op<=27)(pk:List B)(hl:len<=65535)(h:PlH p m len){ah af:Option Pl}(hc:cstep i p=(0,ah,af)):∃m',estep pk i m=(0,m')/\After i m m' ah af len:=by
 obtain⟨hd,hs,hof,him,_,hop,_⟩:=right_facts hi;unfold cstep at hc;rw[if_neg (by omega),if_neg (by omega),if_neg (by omega),if_neg (by omega),if_neg (by omega)]at hc;split at hc
 ·simp at hc
 rename_i k0;split at hc
 ·rename_i he;exact absurd (congrArg Prod.fst hc) he
 rename_i hea;split at hc
 ·rename_i he;exact absurd (congrArg Prod.fst hc) he
 rename_i heb;simp only[ne_eq,Decidable.not_not]at hea heb;have ha:asN p (p.reg i.dst)=(0,(asN p (p.reg i.dst)).2):=Prod.ext hea rfl;have hb:asN p (second i p)=(0,(asN p (second i p)).2):=Prod.ext heb rfl;obtain⟨rfl,rfl⟩:ended i p false (asN p (p.reg i.dst)).2 (asN p (second i p)).2=ah/\ended i p true (asN p (p.reg i.dst)).2 (asN p (second i p)).2=af:=by simpa using hc
 obtain⟨a1,_,a3⟩:=asN_ok h hl (h.reg i.dst hd.1 hd.2) ha;obtain⟨b1,_,b3⟩:=asN_ok h hl (second_holds h i hs.1 hs.2) hb;have hu:=unset_ok h i.dst hd.1 hd.2 a3;have hse:=secErr_ok h i hs.1 hs.2 b3;unfold estep;rw[if_neg (by omega),if_neg (by omega),if_neg (by omega),if_neg (by omega),if_neg (by omega),if_neg (by omega),if_neg (by omega)];simp only[hu,hse,a1,b1,ne_eq,not_true_eq_false,decide_false,Bool.or_self,Bool.false_eq_true,if_false,or_self];cases hy:ais i.op i.narrow (m.reg i.dst).2 (esecond i m).2 with
 | false =>
   obtain⟨q,e1,e2⟩:=ended_holds h hl i hd hs ho ha hb false hy;exact⟨_,rfl,.inr ⟨by omega,rfl,.inl ⟨rfl,q,e1,e2⟩⟩⟩
 | true =>
   obtain⟨q,e1,e2⟩:=ended_holds h hl i hd hs ho ha hb true hy;exact⟨_,rfl,.inr ⟨by omega,rfl,.inr ⟨rfl,by unfold Ins.jumps;rw[decide_eq_true_eq];omega,q,e1,e2.at'' _⟩⟩⟩
theorem step_sound(i:Ins)(hi:i.right=true)(pk:List B)(hpk:pk.length=len)(hl:len<=65535)(h:PlH p m len){ah af:Option Pl}(hc:cstep i p=(0,ah,af)):∃m',estep pk i m=(0,m')/\After i m m' ah af len:=by
 obtain⟨hd,hs,hof,him,_,hop,_⟩:=right_facts hi;by_cases h14:i.op=14
 ·exact step_load i hi h14 pk hpk hl h hc
 by_cases h15:i.op=15
 ·exact step_put i hi h15 pk hl h hc
 by_cases h16:i.op=16
 ·unfold cstep at hc
  rw[if_neg h14,if_neg h15,if_pos h16]at hc;obtain⟨rfl,rfl⟩:(none:Option Pl)=ah/\some p=af:=by simpa using hc
  unfold estep;rw[if_neg (by omega),if_neg (by omega),if_neg h14,if_neg h15,if_pos h16];exact⟨_,rfl,.inr ⟨by omega,rfl,.inr ⟨rfl,by unfold Ins.jumps;rw[decide_eq_true_eq];omega,p,rfl,h.at'' _⟩⟩⟩
 by_cases h28:i.op=28
 ·unfold cstep at hc
  rw[if_neg h14,if_neg h15,if_neg h16,if_pos h28]at hc;have he:(asN p (p.reg 0)).1=0:=congrArg Prod.fst hc;obtain⟨a1,_,a3⟩:=asN_ok h hl (h.reg 0 (by omega) (by omega)) (show asN p (p.reg 0)=(0,(asN p (p.reg 0)).2)from Prod.ext he rfl);have hu:=unset_ok h 0 (by omega) (by omega) a3;unfold estep;rw[if_neg (by omega),if_neg (by omega),if_neg h14,if_neg h15,if_neg h16,if_pos h28];simp only[hu,a1];exact⟨_,rfl,.inl ⟨h28,rfl,rfl⟩⟩
 by_cases h13:i.op<=13
 ·exact step_alu i hi h13 pk hl h hc
 ·exact step_branch i hi (by omega) pk hl h hc
end
theorem Sp.right_has{s:Sp}(h:s.right=true):s.has s.lo=true:=by
 rw[Sp.right_iff]at h;rw[Sp.has_iff];exact⟨Nat.le_refl _,h⟩
theorem sdo_right'(op:Int)(narrow:Bool)(a b:Sp)(ho:1<=op/\op<=13)(ha:a.right=true)(hb:b.right=true)(hn:op=4\/op=5->nought b narrow=false):(sdo op narrow a b).right=true:=by
 refine sdo_right op narrow a b a.lo b.lo ho (Sp.right_has ha) (Sp.right_has hb) ?_;by_cases hd:op=4\/op=5
 ·exact nought_err (hn hd) (Sp.right_has hb) op ho
 ·exact aerr_ok op narrow b.lo ho hd
def Sub(s a:Sp):Prop:=s.right=true/\a.lo.toNat<=s.lo.toNat/\s.hi.toNat<=a.hi.toNat
theorem Sub.refl{a:Sp}(h:a.right=true):Sub a a:=⟨h,Nat.le_refl _,Nat.le_refl _⟩
def Subs(o:Option (Sp×Sp))(a b:Sp):Prop:=∀s t,o=some (s,t)->Sub s a/\Sub t b
theorem Subs.swap{o:Option (Sp×Sp)}{a b:Sp}(h:Subs o a b):Subs (o.map T.swap) b a:=by
 intro s t he;cases o with
 | none=>cases he
 | some p =>
   obtain⟨x,y⟩:=p;simp only[Option.map_some,T.swap,Option.some.injEq,Prod.mk.injEq]at he;obtain⟨rfl,rfl⟩:=he;obtain⟨h1,h2⟩:=h x y rfl;exact⟨h2,h1⟩
section
variable{w:Wk}
theorem Wk.gt_sub(ha:w.a.right=true)(hb:w.b.right=true):Subs w.gt w.a w.b:=by
 intro s t he;rw[Sp.right_iff]at ha hb;unfold Wk.gt at he;split at he
 ·rename_i hc
  simp only[BitVec.ult,decide_eq_true_eq]at hc;simp only[Option.some.injEq,Prod.mk.injEq]at he;obtain⟨rfl,rfl⟩:=he;have:=w.a.hi.isLt;have e1:(w.b.lo+1).toNat=w.b.lo.toNat+1:=by rw[BitVec.toNat_add,show(1:U).toNat=1 by rfl];omega
  have e2:(w.a.hi-1).toNat=w.a.hi.toNat-1:=by rw[BitVec.toNat_sub,show(1:U).toNat=1 by rfl];omega
  refine⟨⟨?_,?_,Nat.le_refl _⟩,⟨?_,Nat.le_refl _,?_⟩⟩
  ·rw[Sp.right_iff];simp only[umax_toNat,e1];omega
  ·simp only[umax_toNat];omega
  ·rw[Sp.right_iff];simp only[umin_toNat,e2];omega
  ·simp only[umin_toNat];omega
 ·cases he
theorem Wk.ge_sub(ha:w.a.right=true)(hb:w.b.right=true):Subs w.ge w.a w.b:=by
 intro s t he;rw[Sp.right_iff]at ha hb;unfold Wk.ge at he;split at he
 ·rename_i hc
  simp only[BitVec.ule,decide_eq_true_eq]at hc;simp only[Option.some.injEq,Prod.mk.injEq]at he;obtain⟨rfl,rfl⟩:=he;refine⟨⟨?_,?_,Nat.le_refl _⟩,⟨?_,Nat.le_refl _,?_⟩⟩
  ·rw[Sp.right_iff];simp only[umax_toNat];omega
  ·simp only[umax_toNat];omega
  ·rw[Sp.right_iff];simp only[umin_toNat];omega
  ·simp only[umin_toNat];omega
 ·cases he
theorem without_sub{s n:Sp}(h:s.right=true):Sub (s.without n) s:=by
 unfold Sp.without;split
 ·exact Sub.refl h
 ·rename_i hc
  simp only[Bool.or_eq_true,Bool.not_eq_true',not_or,Bool.not_eq_false]at hc;obtain⟨c1,c2⟩:=hc;rw[Sp.one_iff]at c1;rw[Sp.right_iff]at h;have:=s.hi.isLt;have e1:(s.lo+1).toNat=s.lo.toNat+1:=by rw[BitVec.toNat_add,show(1:U).toNat=1 by rfl];omega
  have e2:(s.hi-1).toNat=s.hi.toNat-1:=by rw[BitVec.toNat_sub,show(1:U).toNat=1 by rfl];omega
  unfold Sub;rw[Sp.right_iff];simp only;by_cases q1:(s.lo==n.lo)=true
  ·have f1:=congrArg BitVec.toNat (beq_iff_eq.1 q1)
   by_cases q2:(s.hi==n.lo)=true
   ·have f2:=congrArg BitVec.toNat (beq_iff_eq.1 q2)
    omega
   ·rw[if_pos q1,if_neg q2,e1];omega
  ·by_cases q2:(s.hi==n.lo)=true
   ·rw[if_neg q1,if_pos q2,e2];omega
   ·rw[if_neg q1,if_neg q2];omega
theorem Wk.plain_sub(ha:w.a.right=true)(hb:w.b.right=true)(op:Int):Subs (w.plain op) w.a w.b:=by
 unfold Wk.plain;split
 ·intro s t he
  unfold Sp.meet at he;split at he
  ·rename_i hc
   simp only[Option.map_some,Option.some.injEq,Prod.mk.injEq]at he;obtain⟨rfl,rfl⟩:=he;refine⟨⟨hc,?_,?_⟩,⟨hc,?_,?_⟩⟩<;>(simp only[umax_toNat,umin_toNat];omega)
  ·cases he
 split
 ·intro s t he
  split at he
  ·simp only[Option.some.injEq,Prod.mk.injEq]at he
   obtain⟨rfl,rfl⟩:=he;exact⟨without_sub ha,without_sub hb⟩
  ·cases he
 split
 ·exact Wk.gt_sub ha hb
 split
 ·exact Wk.ge_sub ha hb
 split
 ·exact(Wk.gt_sub (w:=w.turned) hb ha).swap
 ·exact(Wk.ge_sub (w:=w.turned) hb ha).swap
theorem same_sub(ha:w.a.right=true)(hb:w.b.right=true):Subs (some (w.a,w.b)) w.a w.b:=by
 intro s t he;simp only[Option.some.injEq,Prod.mk.injEq]at he;obtain⟨rfl,rfl⟩:=he;exact⟨Sub.refl ha,Sub.refl hb⟩
theorem none_sub{a b:Sp}:Subs none a b:=fun s t he=>by cases he
theorem Wk.ask_sub(ha:w.a.right=true)(hb:w.b.right=true)(op:Int)(yes:Bool):Subs (w.ask op yes) w.a w.b:=by
 unfold Wk.ask;split
 ·unfold Wk.set
  split
  ·split
   ·rename_i hc
    intro s t he;simp only[Bool.and_eq_true,BitVec.ult,decide_eq_true_eq]at hc;simp only[Option.some.injEq,Prod.mk.injEq]at he;obtain⟨rfl,rfl⟩:=he;rw[Sp.right_iff]at ha hb;obtain⟨⟨h1,h2⟩,_⟩:=hc;rw[show(0:U).toNat=0 by rfl]at h1 h2;refine⟨⟨?_,?_,Nat.le_refl _⟩,⟨?_,?_,Nat.le_refl _⟩⟩
    ·rw[Sp.right_iff];simp only[umax_toNat];rw[show(1:U).toNat=1 by rfl];omega
    ·simp only[umax_toNat];omega
    ·rw[Sp.right_iff];simp only[umax_toNat];rw[show(1:U).toNat=1 by rfl];omega
    ·simp only[umax_toNat];omega
   ·exact none_sub
  ·split
   ·exact same_sub ha hb
   ·exact none_sub
 ·generalize(if yes then op else opp op)=op'
  unfold Wk.askd;split
  ·unfold Wk.signed
   split
   ·exact same_sub ha hb
   split
   ·exact Wk.plain_sub ha hb _
   split
   ·exact same_sub ha hb
   ·exact none_sub
  ·exact Wk.plain_sub ha hb _
end
theorem cut_sub{a:Sp}(narrow:Bool)(h:a.right=true)(hm:¬(Wk.over narrow a a).most.toNat<a.hi.toNat):a.cut narrow=a:=by
 unfold Sp.cut;cases narrow with
 | false=>rfl
 | true =>
   simp only[if_true];rw[Wk.most_nat]at hm;have hw:(Wk.over true a a).narrow=true:=rfl;rw[hw,if_pos rfl]at hm;rw[Sp.right_iff]at h;have e1:(a.lo >>> 32)=(a.hi >>> 32):=BitVec.eq_of_toNat_eq (by rw[shr32,shr32];omega);rw[e1];simp only[bne_self_eq_false,Bool.false_eq_true,if_false];obtain⟨l,r⟩:=a;simp only at hm h ⊢
   congr 1
   ·exact BitVec.eq_of_toNat_eq (by rw[and_half];omega)
   ·exact BitVec.eq_of_toNat_eq (by rw[and_half];omega)
theorem sif_sub(op:Int)(narrow yes:Bool)(a b:Sp)(ha:a.right=true)(hb:b.right=true):Subs (sif op narrow yes a b) a b:=by
 intro s t he;unfold sif at he;split at he
 ·cases hq:(Wk.over narrow a b).ask op yes with
  | none=>rw[hq]at he;cases he
  | some p =>
    obtain⟨x,y⟩:=p;rw[hq]at he;simp only[Option.map_some,Option.some.injEq,Prod.mk.injEq]at he;obtain⟨rfl,rfl⟩:=he;obtain⟨h1,h2⟩:=Wk.ask_sub (w:=Wk.over narrow a b) (Sp.cut_le narrow ha).1 (Sp.cut_le narrow hb).1 op yes x y hq
    have one:∀(c r:Sp),c.right=true->Sub r (c.cut narrow)->Sub (if(Wk.over narrow a b).most.ult c.hi then c else r) c:=by
     intro c r hc hr;split
     ·exact Sub.refl hc
     ·rename_i hm
      simp only[BitVec.ult,decide_eq_true_eq]at hm;rw[cut_sub narrow hc (by rw[Wk.most_nat]at hm ⊢;exact hm)]at hr;exact hr
    exact⟨one a x ha h1,one b y hb h2⟩
 ·simp only[Option.some.injEq,Prod.mk.injEq]at he
  obtain⟨rfl,rfl⟩:=he;exact⟨Sub.refl ha,Sub.refl hb⟩
theorem sif_one(op:Int)(narrow:Bool)(a b:Sp)(ho:17<=op/\op<=27)(ha:a.right=true)(hb:b.right=true):∃yes p,sif op narrow yes a b=some p:=by
 obtain⟨s,t,h,_⟩:=sif_sound op narrow (ais op narrow a.lo b.lo) a b a.lo b.lo ho (Sp.right_has ha) (Sp.right_has hb) rfl;exact⟨_,_,h⟩
structure Pl.Wf(p:Pl):Prop where
 live:p.live=true
 rl:p.regs.length=11
 bl:p.bytes.length=512
 l0:0<=p.least
 ll:p.least<=65535
 right:∀k∈p.regs,k.right=true
theorem Kn.none_right:Kn.none.right=true:=by decide
theorem Pl.Wf.reg{p:Pl}(h:p.Wf)(r:Int):(p.reg r).right=true:=by
 unfold Pl.reg;rw[List.getD_eq_getElem?_getD];cases hx:p.regs[r.toNat]? with
 | none=>exact Kn.none_right
 | some k=>exact h.right k (List.mem_of_getElem? hx)
theorem Pl.Wf.put{p:Pl}(h:p.Wf)(r:Int){k:Kn}(hk:k.right=true):(p.put r k).Wf:=by
 refine⟨h.live,by simp[Pl.put,h.rl],h.bl,h.l0,h.ll,fun q hq=>?_⟩;rcases List.mem_or_eq_of_mem_set hq with hq|rfl
 ·exact h.right q hq
 ·exact hk
theorem Kn.join_right(a b:Kn):(a.join b).right=true:=by
 unfold Kn.join;split
 ·exact Kn.none_right
 ·rename_i hr
  simp only[Bool.or_eq_true,Bool.not_eq_true',not_or,Bool.not_eq_false]at hr;obtain⟨h1,h2⟩:=hr
  have hj:∀s t:Sp,s.right=true->t.right=true->(s.join t).right=true:=fun s t hs ht=>by
   rw[Sp.right_iff]at hs ht ⊢;simp only[Sp.join,umin_toNat,umax_toNat];omega
  have hnum:∀k:Kn,k.right=true->k.isN=true->k.numS.right=true:=fun k hk hn=>by
   unfold Kn.numS;split
   ·decide
   ·rename_i h4
    have h1:k.k=1:=by
     rcases Kn.num_of hn with e|e
     ·exact absurd e h4
     ·exact e
    rw[Kn.right_12 (.inl h1)]at hk;exact hk
  split
  ·exact h1
  ·split
   ·rename_i hn
    rw[Bool.and_eq_true]at hn;rw[Kn.right_12 (.inl rfl)];exact hj _ _ (hnum a h1 hn.1) (hnum b h2 hn.2)
   ·split
    ·rename_i hp
     rw[Kn.right_12 (.inr rfl)];rw[Kn.right_12 (.inr hp.1)]at h1;rw[Kn.right_12 (.inr hp.2)]at h2;exact hj _ _ h1 h2
    ·exact Kn.none_right
theorem Pl.start_wf:Pl.start.Wf:=⟨rfl,rfl,List.length_replicate,by decide,by decide,fun k hk=>by
 simp only[Pl.start,List.mem_cons,List.mem_nil_iff,or_false]at hk
 rcases hk with rfl|rfl|rfl|rfl|rfl|rfl|rfl|rfl|rfl|rfl|rfl<;>decide⟩
theorem Pl.tell_wf{q p:Pl}(hq:q.live=true->q.Wf)(hp:p.Wf):(q.tell p).Wf:=by
 unfold Pl.tell;split
 ·rename_i hl
  have h:=hq hl;refine⟨rfl,by simp[h.rl,hp.rl],by simp[h.bl,hp.bl],?_,?_,fun k hk=>?_⟩
  ·have:=h.l0;have:=hp.l0;simp only;omega
  ·have:=h.ll;simp only;omega
  ·obtain⟨i,hi⟩:=List.mem_iff_getElem?.1 hk
   rw[List.getElem?_zipWith]at hi;cases h1:q.regs[i]? with
   | none=>rw[h1]at hi;cases hi
   | some x =>
     cases h2:p.regs[i]? with
     | none=>rw[h1,h2]at hi;cases hi
     | some y =>
       rw[h1,h2]at hi;cases hi
       exact Kn.join_right x y
 ·exact hp
theorem kdo_right(op:Int)(narrow:Bool)(a b k:Kn)(h:kdo op narrow a b=(k,0)):k.right=true:=by
 unfold kdo at h;split at h
 ·simp at h
 rename_i h1;have hop:1<=op/\op<=13:=by omega
 have ha:a.right=true:=by
  cases hx:a.right with
  | true=>rfl
  | false=>exact absurd (.inr (.inr (.inl hx))) h1
 have hb:b.right=true:=by
  cases hx:b.right with
  | true=>rfl
  | false=>exact absurd (.inr (.inr (.inr hx))) h1
 split at h
 ·simp at h
 split at h
 ·rw[<-show b=k from congrArg Prod.fst h];exact hb
 have hnum:∀k:Kn,k.right=true->k.isN=true->k.numS.right=true:=fun k hk hn=>by
  unfold Kn.numS;split
  ·decide
  ·rename_i h4
   have h1:k.k=1:=by
    rcases Kn.num_of hn with e|e
    ·exact absurd e h4
    ·exact e
   rw[Kn.right_12 (.inl h1)]at hk;exact hk
 generalize ha':(if op=12 then b else a)=a' at h;generalize hb':(if op=13 then a else b)=b' at h;have hra:a'.right=true:=by rw[<-ha'];split<;>assumption
 have hrb:b'.right=true:=by rw[<-hb'];split<;>assumption
 simp only at h;split at h
 ·simp at h
 rename_i h3;split at h
 ·rename_i h4
  rw[Bool.and_eq_true]at h4;rw[<-show(⟨1,sdo op narrow a'.numS b'.numS⟩:Kn)=k from congrArg Prod.fst h,Kn.right_12 (.inl rfl)];refine sdo_right' op narrow _ _ hop (hnum a' hra h4.1) (hnum b' hrb h4.2) fun hd=>?_
  cases hz:nought b'.numS narrow with
  | false=>rfl
  | true=>exact absurd (by simp[h4.1,h4.2,hd,hz]) h3
 ·split at h
  ·rename_i h4 h5
   simp only[Bool.or_eq_true,Bool.and_eq_true,decide_eq_true_eq,Bool.not_eq_true']at h5
   have hm:(op=1\/op=2)/\b'.isN=true:=by
    rcases h5 with⟨⟨⟨m1,m2⟩,m3⟩,_⟩|⟨⟨⟨⟨m1,m2⟩,m3⟩,_⟩,_⟩<;>exact⟨m1,m3⟩
   rw[<-show(⟨a'.k,sdo op false a'.s b'.numS⟩:Kn)=k from congrArg Prod.fst h];have hd:¬(op=4\/op=5):=by omega
   rcases h5 with⟨_,m⟩|⟨⟨_,m⟩,m'⟩
   ·rw[Kn.right_12 (.inr m)]at hra
    rw[Kn.right_12 (a:=⟨a'.k,sdo op false a'.s b'.numS⟩) (.inr m)];exact sdo_right' op false _ _ hop hra (hnum b' hrb hm.2) (fun e=>absurd e hd)
   ·rw[Kn.right_3 m]at hra
    rw[Kn.right_3 (a:=⟨a'.k,sdo op false a'.s b'.numS⟩) m];have hsx:a'.s=Sp.of a'.s.lo:=beq_iff_eq.1 hra;have hsy:b'.numS=Sp.of b'.numS.lo:=Sp.eq_of (Sp.right_has (hnum b' hrb hm.2)) (by simpa using m');rw[moved_one hm.1 hsx hsy];exact beq_iff_eq.2 rfl
  ·simp at h
theorem asN_sp{p:Pl}(h:p.Wf){k:Kn}(hk:k.right=true){s:Sp}(ha:asN p k=(0,s)):s.right=true/\(k.k=1/\s=k.s\/k.k=4/\s.hi.toNat=65535):=by
 unfold asN at ha;split at ha
 ·simp at ha
 split at ha
 ·rename_i k1
  simp only[Prod.mk.injEq,true_and]at ha;rw[Kn.right_12 (.inl k1)]at hk;rw[<-ha];exact⟨hk,.inl ⟨k1,rfl⟩⟩
 split at ha
 ·rename_i k4
  simp only[Prod.mk.injEq,true_and]at ha;have h0:=h.l0;have h1:=h.ll;rw[<-ha];refine⟨?_,.inr ⟨k4,rfl⟩⟩;rw[Sp.right_iff];simp only;unfold wide;rw[BitVec.toNat_ofInt,show(65535#64:U).toNat=65535 by rfl];omega
 ·simp at ha
theorem with_wf{p:Pl}(h:p.Wf)(r:Int){s:Sp}(hs:s.right=true)(hl:(p.reg r).k≠1->s.hi.toNat<=65535):(p.with r s).Wf:=by
 unfold Pl.with
 split
 ·exact h.put r (by rw[Kn.right_12 (.inl rfl)];exact hs)
 ·rename_i hk
  have h2:=hl hk;rw[Sp.right_iff]at hs;have e1:s.lo.toInt=(s.lo.toNat:Int):=by rw[BitVec.toInt_eq_toNat_cond,if_pos (by omega)]
  refine⟨h.live,h.rl,h.bl,?_,?_,h.right⟩
  ·have:=h.l0;simp only;omega
  ·have:=h.ll;simp only;omega
theorem second_right{p:Pl}(h:p.Wf)(i:Ins):(second i p).right=true:=by
 unfold second;split
 ·rw[Kn.right_12 (.inl rfl),Sp.right_iff];exact Nat.le_refl _
 ·exact h.reg _
theorem with_k(p:Pl)(r q:Int)(s:Sp):((p.with r s).reg q).k=(p.reg q).k\/(r.toNat=q.toNat/\(p.reg r).k=1/\((p.with r s).reg q).k=1):=by
 unfold Pl.with
 split
 ·rename_i h
  by_cases e:r.toNat=q.toNat/\q.toNat<p.regs.length
  ·right
   refine⟨e.1,h,?_⟩;simp only[Pl.put,Pl.reg,getD_set];rw[if_pos e]
  ·left
   simp only[Pl.put,Pl.reg,getD_set];rw[if_neg e]
 ·left;rfl
theorem ended_wf{p:Pl}(h:p.Wf)(i:Ins){M N:Sp}(ha:asN p (p.reg i.dst)=(0,M))(hb:asN p (second i p)=(0,N))(yes:Bool):∀q,ended i p yes M N=some q->q.Wf:=by
 intro q hq;obtain⟨a1,a2⟩:=asN_sp h (h.reg _) ha;obtain⟨b1,b2⟩:=asN_sp h (second_right h i) hb;unfold ended at hq;cases hs:sif i.op i.narrow yes M N with
 | none=>rw[hs]at hq;cases hq
 | some st =>
   obtain⟨s,t⟩:=st;rw[hs]at hq;simp only[Option.map_some,Option.some.injEq]at hq;obtain⟨⟨s1,s2,s3⟩,t1,t2,t3⟩:=sif_sub i.op i.narrow yes M N a1 b1 s t hs
   have w1:=with_wf h i.dst s1 (fun e=>by
    rcases a2 with⟨e2,_⟩|⟨_,e2⟩
    ·exact absurd e2 e
    ·omega)
   subst hq;split
   ·exact w1
   ·rename_i hu
    split
    ·refine with_wf w1 i.src t1 fun e=>?_
     have e1:second i p=p.reg i.src:=by unfold second;rw[if_neg hu]
     rw[e1]at b2;rcases b2 with⟨e2,_⟩|⟨_,e2⟩
     ·rcases with_k p i.dst i.src s with e3|⟨_,_,e3⟩
      ·exact absurd (e3.trans e2) e
      ·exact absurd e3 e
     ·omega
    ·exact h
theorem cstep_wf{p:Pl}(h:p.Wf)(i:Ins){ah af:Option Pl}(hc:cstep i p=(0,ah,af)):(∀q,ah=some q->q.Wf)/\(∀q,af=some q->q.Wf):=by
 unfold cstep at hc;split at hc
 ·split at hc
  ·rename_i he;exact absurd (congrArg Prod.fst hc) he
  ·simp only[Prod.mk.injEq,true_and]at hc
   obtain⟨rfl,rfl⟩:=hc;refine⟨fun q hq=>?_,fun q hq=>by cases hq⟩;cases hq
   exact h.put _ (by rw[loaded,Kn.right_12 (.inl rfl),Sp.right_iff];exact Nat.zero_le _)
 split at hc
 ·split at hc
  ·rename_i he;exact absurd (congrArg Prod.fst hc) he
  ·simp only[Prod.mk.injEq,true_and]at hc
   obtain⟨rfl,rfl⟩:=hc;refine⟨fun q hq=>?_,fun q hq=>by cases hq⟩;cases hq
   exact⟨h.live,h.rl,by unfold Pl.wrote;simp only;rw[setAll_length];exact h.bl,h.l0,h.ll,h.right⟩
 split at hc
 ·simp only[Prod.mk.injEq,true_and]at hc
  obtain⟨rfl,rfl⟩:=hc;exact⟨fun q hq=>(by cases hq),fun q hq=>(by cases hq;exact h)⟩
 split at hc
 ·simp only[Prod.mk.injEq]at hc
  obtain⟨_,rfl,rfl⟩:=hc;exact⟨fun q hq=>(by cases hq),fun q hq=>(by cases hq)⟩
 split at hc
 ·split at hc
  ·rename_i he;exact absurd (congrArg Prod.fst hc) he
  ·rename_i he
   simp only[ne_eq,Decidable.not_not]at he;simp only[Prod.mk.injEq,true_and]at hc;obtain⟨rfl,rfl⟩:=hc;refine⟨fun q hq=>?_,fun q hq=>by cases hq⟩;cases hq
   exact h.put _ (kdo_right i.op i.narrow (p.reg i.dst) (if i.op=13 then Kn.none else second i p) _ (Prod.ext rfl he))
 split at hc
 ·simp at hc
 split at hc
 ·rename_i he;exact absurd (congrArg Prod.fst hc) he
 rename_i hea;split at hc
 ·rename_i he;exact absurd (congrArg Prod.fst hc) he
 rename_i heb;simp only[ne_eq,Decidable.not_not]at hea heb;simp only[Prod.mk.injEq,true_and]at hc;obtain⟨rfl,rfl⟩:=hc;have ha:asN p (p.reg i.dst)=(0,(asN p (p.reg i.dst)).2):=Prod.ext hea rfl;have hb:asN p (second i p)=(0,(asN p (second i p)).2):=Prod.ext heb rfl;exact⟨ended_wf h i ha hb false,ended_wf h i ha hb true⟩
def Kn.within(a b:Kn):Bool :=
 if a.right=false\/b.right=false then false else if b.k=0 then true else if b.k=4\/b.k=3 then decide (a=b)else if b.k=1/\a.k=4 then a.numS.within b.s else decide (a.k=b.k)&&a.s.within b.s
theorem Sp.within_refl(s:Sp):s.within s=true:=by rw[Sp.within_iff];omega
theorem Sp.within_trans{s t u:Sp}(h1:s.within t=true)(h2:t.within u=true):s.within u=true:=by
 rw[Sp.within_iff]at *;omega
theorem Sp.within_join_left(s t:Sp):s.within (s.join t)=true:=by
 rw[Sp.within_iff];simp only[Sp.join,umin_toNat,umax_toNat];omega
theorem Kn.right_cases{a:Kn}(h:a.right=true):a.k=0\/a.k=1\/a.k=2\/a.k=3\/a.k=4:=by
 unfold Kn.right at h;split at h
 ·omega
 split at h
 ·omega
 ·rw[Bool.and_eq_true,decide_eq_true_eq]at h
  omega
theorem Kn.within_refl{a:Kn}(h:a.right=true):a.within a=true:=by
 unfold Kn.within;rw[if_neg (by rw[h];simp)];split
 ·rfl
 split
 ·simp
 ·rw[if_neg (by omega),decide_eq_true rfl,Bool.true_and]
  exact Sp.within_refl _
theorem Kn.within_right{a b:Kn}(h:a.within b=true):a.right=true/\b.right=true:=by
 unfold Kn.within at h;split at h
 ·cases h
 ·rename_i hr
  constructor
  ·cases hx:a.right with
   | true=>rfl
   | false=>exact absurd (.inl hx) hr
  ·cases hx:b.right with
   | true=>rfl
   | false=>exact absurd (.inr hx) hr
theorem Kn.within_iff{a b:Kn}(ha:a.right=true)(hb:b.right=true):a.within b=true↔(b.k=0\/(b.k=4\/b.k=3)/\a=b\/b.k=1/\a.k=4/\a.numS.within b.s=true\/(b.k=1\/b.k=2)/\a.k=b.k/\a.s.within b.s=true):=by
 unfold Kn.within;rw[if_neg (by rw[ha,hb];simp)];have hc:=Kn.right_cases hb;split
 ·rename_i h;exact⟨fun _=>.inl h,fun _=>rfl⟩
 split
 ·rename_i h0 h
  rw[decide_eq_true_eq];constructor
  ·intro e;exact .inr (.inl ⟨h,e⟩)
  ·rintro(e|⟨_,e⟩|⟨e,_⟩|⟨e,_⟩)
   ·omega
   ·exact e
   ·omega
   ·omega
 split
 ·rename_i h0 h1 h
  constructor
  ·intro e;exact .inr (.inr (.inl ⟨h.1,h.2,e⟩))
  ·rintro(e|⟨e,_⟩|⟨_,_,e⟩|⟨_,e,_⟩)
   ·omega
   ·omega
   ·exact e
   ·omega
 ·rename_i h0 h1 h
  rw[Bool.and_eq_true,decide_eq_true_eq];constructor
  ·rintro⟨e1,e2⟩;exact .inr (.inr (.inr ⟨by omega,e1,e2⟩))
  ·rintro(e|⟨e,_⟩|⟨e1,e2,_⟩|⟨_,e⟩)
   ·omega
   ·omega
   ·exact absurd ⟨e1,e2⟩ h
   ·exact e
theorem Kn.within_trans{a b c:Kn}(h1:a.within b=true)(h2:b.within c=true):a.within c=true:=by
 obtain⟨ra,rb⟩:=Kn.within_right h1;obtain⟨_,rc⟩:=Kn.within_right h2;rw[Kn.within_iff ra rb]at h1;rw[Kn.within_iff rb rc]at h2;rw[Kn.within_iff ra rc];rcases h2 with e|⟨e,rfl⟩|⟨e1,e2,e3⟩|⟨e1,e2,e3⟩
 ·exact .inl e
 ·rcases h1 with f|⟨f,rfl⟩|⟨f,_⟩|⟨f,_⟩
  ·omega
  ·exact .inr (.inl ⟨e,rfl⟩)
  ·omega
  ·omega
 ·rcases h1 with f|⟨f,rfl⟩|⟨f,_⟩|⟨f,_⟩
  ·omega
  ·exact .inr (.inr (.inl ⟨e1,e2,e3⟩))
  ·omega
  ·omega
 ·rcases h1 with f|⟨f,rfl⟩|⟨f1,f2,f3⟩|⟨f1,f2,f3⟩
  ·omega
  ·omega
  ·exact .inr (.inr (.inl ⟨by omega,f2,Sp.within_trans f3 e3⟩))
  ·exact .inr (.inr (.inr ⟨e1,by omega,Sp.within_trans f3 e3⟩))
theorem Kn.join_within{a b:Kn}(ha:a.right=true)(hb:b.right=true):a.within (a.join b)=true:=by
 have hr:=Kn.join_right a b
 have hjn:a.join b=if a=b then a else if a.isN&&b.isN then⟨1,a.numS.join b.numS⟩else if a.k=2/\b.k=2 then⟨2,a.s.join b.s⟩else Kn.none:=by
  unfold Kn.join;rw[if_neg (by rw[ha,hb];simp)]
 rw[hjn]at hr ⊢;split
 ·exact Kn.within_refl ha
 rename_i hne;rw[if_neg hne]at hr;split
 ·rename_i hn
  rw[if_pos hn]at hr;rw[Kn.within_iff ha hr];rw[Bool.and_eq_true]at hn;rcases Kn.num_of hn.1 with e|e
  ·exact .inr (.inr (.inl ⟨rfl,e,Sp.within_join_left _ _⟩))
  ·have e2:a.numS=a.s:=by unfold Kn.numS;rw[if_neg (by omega)]
   refine .inr (.inr (.inr ⟨.inl rfl,e,?_⟩));simp only;rw[<-e2];exact Sp.within_join_left _ _
 rename_i hn;rw[if_neg hn]at hr;split
 ·rename_i hp
  rw[if_pos hp]at hr;rw[Kn.within_iff ha hr];exact .inr (.inr (.inr ⟨.inr rfl,hp.1,Sp.within_join_left _ _⟩))
 ·rename_i hp
  rw[if_neg hp]at hr;rw[Kn.within_iff ha hr];exact .inl rfl
theorem Kn.join_within'{a b:Kn}(ha:a.right=true)(hb:b.right=true):b.within (a.join b)=true:=by
 rw[Kn.join_comm];exact Kn.join_within hb ha
theorem Kn.within_holds{a b:Kn}(h:a.within b=true){vk:Int}{n:U}{len:Nat}(ha:a.holds vk n len)(hl:len<=65535):b.holds vk n len:=by
 obtain⟨ra,rb⟩:=Kn.within_right h;rw[Kn.within_iff ra rb]at h;obtain⟨_,hv⟩:=ha;refine⟨rb,?_⟩;rcases h with e|⟨e,rfl⟩|⟨e1,e2,e3⟩|⟨e1,e2,e3⟩
 ·exact .inl e
 ·exact hv
 ·rcases hv with f|⟨_,f1,f2⟩|⟨f,_⟩
  ·omega
  ·refine .inr (.inr ⟨.inl e1,f1.trans e1.symm,?_⟩)
   rw[Sp.within_iff]at e3;unfold Kn.numS at e3;rw[if_pos e2]at e3;simp only at e3;rw[show(0:U).toNat=0 by rfl,show(65535#64:U).toNat=65535 by rfl]at e3;rw[Sp.has_iff];omega
  ·omega
 ·rcases hv with f|⟨f,_⟩|⟨_,f1,f2⟩
  ·omega
  ·omega
  ·refine .inr (.inr ⟨by omega,f1.trans e2,?_⟩)
   rw[Sp.within_iff]at e3;rw[Sp.has_iff]at f2 ⊢;omega
structure Pl.In(a b:Pl):Prop where
 regs:∀r,r<11->(a.regs.getD r Kn.none).within (b.regs.getD r Kn.none)=true
 bytes:∀j,j<512->b.bytes.getD j false=true->a.bytes.getD j false=true
 least:b.least<=a.least
theorem Pl.In.trans{a b c:Pl}(h1:a.In b)(h2:b.In c):a.In c :=
 ⟨fun r hr=>Kn.within_trans (h1.regs r hr) (h2.regs r hr),fun j hj hb=>h1.bytes j hj (h2.bytes j hj hb),Int.le_trans h2.least h1.least⟩
theorem Pl.Wf.getD{p:Pl}(h:p.Wf)(r:Nat):(p.regs.getD r Kn.none).right=true:=by
 have:=h.reg (r:Int);unfold Pl.reg at this;simpa using this
theorem Pl.In.refl{a:Pl}(h:a.Wf):a.In a:=⟨fun r _=>Kn.within_refl (h.getD r),fun _ _ h=>h,Int.le_refl _⟩
theorem zipWith_getD{α β γ:Type _}(f:α -> β -> γ)(l:List α)(k:List β)(j:Nat)(a:α)(b:β)(c:γ)(h1:j<l.length)(h2:j<k.length):(List.zipWith f l k).getD j c=f (l.getD j a) (k.getD j b):=by
 rw[List.getD_eq_getElem?_getD,List.getD_eq_getElem?_getD,List.getD_eq_getElem?_getD,List.getElem?_zipWith,List.getElem?_eq_getElem h1,List.getElem?_eq_getElem h2];rfl
theorem Pl.tell_new{q p:Pl}(hq:q.live=true->q.Wf)(hp:p.Wf):p.In (q.tell p):=by
 unfold Pl.tell;split
 ·rename_i hl
  have h:=hq hl;refine⟨fun r hr=>?_,fun j hj hb=>?_,by simp only;omega⟩
  ·rw[zipWith_getD Kn.join _ _ r Kn.none Kn.none Kn.none (by rw[h.rl];exact hr) (by rw[hp.rl];exact hr)]
   exact Kn.join_within' (h.getD r) (hp.getD r)
  ·simp only at hb
   rw[zipWith_getD (· && ·) _ _ j false false false (by rw[h.bl];exact hj) (by rw[hp.bl];exact hj),Bool.and_eq_true]at hb;exact hb.2
 ·exact Pl.In.refl hp
theorem Pl.tell_old{q p:Pl}(hl:q.live=true)(h:q.Wf)(hp:p.Wf):q.In (q.tell p):=by
 unfold Pl.tell;rw[if_pos hl];refine⟨fun r hr=>?_,fun j hj hb=>?_,by simp only;omega⟩
 ·rw[zipWith_getD Kn.join _ _ r Kn.none Kn.none Kn.none (by rw[h.rl];exact hr) (by rw[hp.rl];exact hr)]
  exact Kn.join_within (h.getD r) (hp.getD r)
 ·simp only at hb
  rw[zipWith_getD (· && ·) _ _ j false false false (by rw[h.bl];exact hj) (by rw[hp.bl];exact hj),Bool.and_eq_true]at hb;exact hb.1
theorem Pl.In.holds{a b:Pl}(h:a.In b)(hb:b.Wf){m:Mc}{len:Nat}(hl:len<=65535)(ha:PlH a m len):PlH b m len :=
 ⟨hb.live,hb.rl,hb.bl,ha.ml,ha.sl,ha.tl,fun r hr=>Kn.within_holds (h.regs r hr) (ha.regs r hr) hl,fun j hj hx=>ha.bytes j hj (h.bytes j hj hx),hb.l0,Int.le_trans h.least ha.ll⟩
def plAt(ps:List Pl)(j:Nat):Pl:=ps.getD j Pl.dead
def Known(ps:List Pl)(j:Nat)(o:Option Pl):Prop:=∀q,o=some q->(plAt ps j).live=true/\q.In (plAt ps j)
def Went(l:List Ins)(ps:List Pl)(j:Nat):Prop:=∀i,l[j]?=some i->(plAt ps j).live=true->∃ah af,cstep i (plAt ps j)=(0,ah,af)/\Known ps (j+1) ah/\Known ps (j+1+i.off.toNat) af
def AllWf(ps:List Pl):Prop:=∀j,(plAt ps j).live=true->(plAt ps j).Wf
theorem plAt_set(ps:List Pl)(i j:Nat)(p:Pl):plAt (ps.set i p) j=if i=j/\j<ps.length then p else plAt ps j:=getD_set ps i j p Pl.dead
section
variable{l:List Ins}{ps:List Pl}
theorem told_length(ps:List Pl)(t:Nat)(o:Option Pl):(told ps t o).length=ps.length:=by
 cases o with
 | none=>rfl
 | some p=>simp[told]
theorem told_wf(h:AllWf ps)(t:Nat)(o:Option Pl)(ho:∀q,o=some q->q.Wf):AllWf (told ps t o):=by
 cases o with
 | none=>exact h
 | some p =>
   intro j hl;have e:told ps t (some p)=ps.set t ((plAt ps t).tell p):=rfl;rw[e]at hl ⊢;rw[plAt_set]at hl ⊢;by_cases c:t=j/\j<ps.length
   ·rw[if_pos c]at hl ⊢
    exact Pl.tell_wf (fun h0=>h t h0) (ho p rfl)
   ·rw[if_neg c]at hl ⊢
    exact h j hl
theorem told_known(h:AllWf ps)(t:Nat)(o:Option Pl)(ho:∀q,o=some q->q.Wf){j:Nat}{k:Option Pl}(hk:Known ps j k):Known (told ps t o) j k:=by
 cases o with
 | none=>exact hk
 | some p =>
   intro q hq;obtain⟨h1,h2⟩:=hk q hq;have e:told ps t (some p)=ps.set t ((plAt ps t).tell p):=rfl;rw[e,plAt_set];by_cases c:t=j/\j<ps.length
   ·rw[if_pos c]
    obtain⟨rfl,_⟩:=c;exact⟨(Pl.tell_wf (fun h0=>h t h0) (ho p rfl)).live,h2.trans (Pl.tell_old h1 (h t h1) (ho p rfl))⟩
   ·rw[if_neg c]
    exact⟨h1,h2⟩
theorem told_new(h:AllWf ps)(t:Nat)(o:Option Pl)(ho:∀q,o=some q->q.Wf)(ht:o≠none->t<ps.length):Known (told ps t o) t o:=by
 cases o with
 | none=>intro q hq;cases hq
 | some p =>
   intro q hq;cases hq
   have e:told ps t (some p)=ps.set t ((plAt ps t).tell p):=rfl;rw[e,plAt_set,if_pos ⟨rfl,ht (by simp)⟩];exact⟨(Pl.tell_wf (fun h0=>h t h0) (ho p rfl)).live,Pl.tell_new (fun h0=>h t h0) (ho p rfl)⟩
theorem told_before(t:Nat)(o:Option Pl)(j:Nat)(hj:j<t):plAt (told ps t o) j=plAt ps j:=by
 cases o with
 | none=>rfl
 | some p =>
   have e:told ps t (some p)=ps.set t ((plAt ps t).tell p):=rfl;rw[e,plAt_set,if_neg (by omega)]
structure Shaped(l:List Ins):Prop where
 ne:l ≠ []
 right:∀i∈l,i.right=true
 fwd:∀j i,l[j]?=some i->i.jumps=true->0<=i.off/\j+1+i.off.toNat<l.length
 last:∀j i,l[j]?=some i->i.op≠28->i.op≠16->j+1<l.length
theorem cstep_range{i:Ins}{p:Pl}{ah af:Option Pl}(hc:cstep i p=(0,ah,af)):(ah≠none->i.op≠28/\i.op≠16)/\(af≠none->16<=i.op/\i.op≠28):=by
 unfold cstep at hc;split at hc
 ·split at hc<;>(simp only[Prod.mk.injEq]at hc;obtain⟨_,rfl,rfl⟩:=hc;exact⟨fun _=>by omega,fun h=>absurd rfl h⟩)
 split at hc
 ·split at hc<;>(simp only[Prod.mk.injEq]at hc;obtain⟨_,rfl,rfl⟩:=hc;exact⟨fun _=>by omega,fun h=>absurd rfl h⟩)
 split at hc
 ·simp only[Prod.mk.injEq]at hc;obtain⟨_,rfl,rfl⟩:=hc;exact⟨fun h=>absurd rfl h,fun _=>by omega⟩
 split at hc
 ·simp only[Prod.mk.injEq]at hc;obtain⟨_,rfl,rfl⟩:=hc;exact⟨fun h=>absurd rfl h,fun h=>absurd rfl h⟩
 split at hc
 ·split at hc<;>(simp only[Prod.mk.injEq]at hc;obtain⟨_,rfl,rfl⟩:=hc;exact⟨fun _=>by omega,fun h=>absurd rfl h⟩)
 ·exact⟨fun _=>by omega,fun _=>by omega⟩
theorem jumps_of{i:Ins}(hr:i.right=true)(h:16<=i.op/\i.op≠28):i.jumps=true:=by
 have:=(right_facts hr).2.2.2.2.2.1;unfold Ins.jumps;rw[decide_eq_true_eq];omega
theorem pstep_went(hs:Shaped l)(hl:ps.length=l.length)(h:AllWf ps)(at':Nat)(hw:∀j,j<at'->Went l ps j)(he:(pstep l at' ps).1=0):
  (pstep l at' ps).2.length=l.length/\AllWf (pstep l at' ps).2/\(∀j,j<at'+1->Went l (pstep l at' ps).2 j)/\(∀j,j<=at'->plAt (pstep l at' ps).2 j=plAt ps j)/\∀j k,Known ps j k->Known (pstep l at' ps).2 j k:=by
 unfold pstep at he ⊢;cases hi:l[at']? with
 | none =>
   refine⟨hl,h,fun j hj=>?_,fun _ _=>rfl,fun _ _ h=>h⟩;rcases Nat.lt_or_ge j at' with h1|h1
   ·exact hw j h1
   ·have e:j=at':=by omega
    subst e;intro i h2;rw[hi]at h2;cases h2
 | some i =>
   rw[hi]at he;simp only at he ⊢;by_cases hlv:(ps.getD at' Pl.dead).live=true
   ·rw[if_pos hlv]at he ⊢
    obtain⟨ah,af,hc⟩:∃ah af,cstep i (ps.getD at' Pl.dead)=(0,ah,af):=by
     split at he
     ·rename_i h1;exact absurd he h1
     ·rename_i h1
      simp only[ne_eq,Decidable.not_not]at h1;exact⟨_,_,Prod.ext h1 rfl⟩
    rw[hc];simp only[ne_eq,not_true_eq_false,if_false];have hwf:=cstep_wf (h at' hlv) i hc;have hrg:=cstep_range hc;have hir:i.right=true:=hs.right i (List.mem_of_getElem? hi);have h1:=told_wf h (at'+1) ah hwf.1;have h2:=told_wf h1 (at'+1+i.off.toNat) af hwf.2
    have kept:∀j k,Known ps j k->Known (told (told ps (at'+1) ah) (at'+1+i.off.toNat) af) j k:=fun j k hk =>
     told_known h1 _ _ hwf.2 (told_known h _ _ hwf.1 hk)
    have same:∀j,j<=at'->plAt (told (told ps (at'+1) ah) (at'+1+i.off.toNat) af) j=plAt ps j:=fun j hj=>by
     rw[told_before _ _ _ (by omega),told_before _ _ _ (by omega)]
    refine⟨by rw[told_length,told_length,hl],h2,fun j hj=>?_,same,kept⟩;rcases Nat.lt_or_ge j at' with h3|h3
    ·intro i2 hi2 hl2
     rw[same j (by omega)]at hl2 ⊢;obtain⟨a2,f2,c2,k1,k2⟩:=hw j h3 i2 hi2 hl2;exact⟨a2,f2,c2,kept _ _ k1,kept _ _ k2⟩
    ·have e:j=at':=by omega
     subst e;intro i2 hi2 _;rw[hi]at hi2;cases hi2
     rw[same j (Nat.le_refl _)];refine⟨ah,af,hc,told_known h1 _ _ hwf.2 (told_new h _ _ hwf.1 fun hne=>?_),told_new h1 _ _ hwf.2 fun hne=>?_⟩
     ·rw[hl]
      exact hs.last j i hi (hrg.1 hne).1 (hrg.1 hne).2
     ·rw[told_length,hl]
      exact(hs.fwd j i hi (jumps_of hir (hrg.2 hne))).2
   ·rw[if_neg hlv]at he ⊢
    refine⟨hl,h,fun j hj=>?_,fun _ _=>rfl,fun _ _ h=>h⟩;rcases Nat.lt_or_ge j at' with h3|h3
    ·exact hw j h3
    ·have e:j=at':=by omega
     subst e;intro i2 _ hl2;exact absurd hl2 hlv
theorem psteps_went(hs:Shaped l):∀(n at':Nat) (ps:List Pl),ps.length=l.length->AllWf ps->(∀j,j<at'->Went l ps j)->(psteps l n at' ps).1.1=0 ->
  (psteps l n at' ps).2.length=l.length/\AllWf (psteps l n at' ps).2/\(∀j,j<at'+n->Went l (psteps l n at' ps).2 j)/\∀j k,Known ps j k->Known (psteps l n at' ps).2 j k
 | 0,at',ps,hl,h,hw,_=>⟨hl,h,hw,fun _ _ h=>h⟩
 | n+1,at',ps,hl,h,hw,he=>by
   unfold psteps at he ⊢;by_cases h0:(pstep l at' ps).1≠0
   ·rw[if_pos h0]at he
    exact absurd he h0
   ·rw[if_neg h0]at he ⊢
    simp only[ne_eq,Decidable.not_not]at h0;obtain⟨a1,a2,a3,_,a5⟩:=pstep_went hs hl h at' hw h0;obtain⟨b1,b2,b3,b4⟩:=psteps_went hs n (at'+1) _ a1 a2 a3 he;exact⟨b1,b2,fun j hj=>b3 j (by omega),fun j k hk=>b4 j k (a5 j k hk)⟩
end
def places0(l:List Ins):List Pl:=(List.replicate l.length Pl.dead).set 0 Pl.start
def placesOf(l:List Ins):(Int×Nat)×List Pl:=psteps l l.length 0 (places0 l)
structure Typed(l:List Ins)(ps:List Pl):Prop where
 len:ps.length=l.length
 wf:AllWf ps
 went:∀j,j<l.length->Went l ps j
 first:Known ps 0 (some Pl.start)
theorem typed_of{l:List Ins}(hs:Shaped l)(he:(placesOf l).1.1=0):Typed l (placesOf l).2:=by
 have hd:∀j,plAt (List.replicate l.length Pl.dead) j=Pl.dead:=fun j=>by
  unfold plAt;rw[List.getD_eq_getElem?_getD,List.getElem?_replicate];split<;>rfl
 have hn:0<l.length:=List.length_pos_iff.2 hs.ne
 have h0:∀j,plAt (places0 l) j=if j=0 then Pl.start else Pl.dead:=fun j=>by
  unfold places0;rw[plAt_set,hd,List.length_replicate];by_cases hj:j=0
  ·subst hj;rw[if_pos ⟨rfl,hn⟩,if_pos rfl]
  ·rw[if_neg (fun e=>hj e.1.symm),if_neg hj]
 obtain⟨a1,a2,a3,a4⟩:=psteps_went hs l.length 0 (places0 l) (by simp[places0]) (fun j hj=>by
  rw[h0]at hj ⊢;split
  ·exact Pl.start_wf
  ·rename_i hne
   rw[if_neg hne]at hj
   cases hj) (fun j hj=>absurd hj (Nat.not_lt_zero _)) he
 refine⟨a1,a2,fun j hj=>a3 j (by omega),a4 0 _ fun q hq=>?_⟩;cases hq
 rw[h0,if_pos rfl];exact⟨rfl,Pl.In.refl Pl.start_wf⟩
def Runs(l:List Ins)(pk:List B):Nat->Mc->U->Prop
 | 0,_,_=>False
 | k+1,m,v=>∃i m',l[m.at']?=some i/\estep pk i { m with at':=m.at'+1 }=(0,m')/\((k=0/\m'.verdict=some v)\/(m'.verdict=none/\Runs l pk k m' v))
theorem start_holds(len:Nat)(hl:len<=65535):PlH Pl.start (Mc.start len) len:=by
 refine⟨rfl,rfl,List.length_replicate,rfl,List.length_replicate,List.length_replicate,fun r hr=>?_,fun j hj hb=>?_,by decide,Int.natCast_nonneg _⟩
 ·have hn:Kn.none.holds 0 0 len:=Kn.none_holds _ _ _
  have h1:(⟨2,Sp.zero⟩:Kn).holds 2 0 len:=⟨by decide,.inr (.inr ⟨.inr (.inl rfl),rfl,by decide⟩)⟩
  have h2:(⟨4,Sp.zero⟩:Kn).holds 1 (BitVec.ofNat 64 len) len:=⟨by decide,.inr (.inl ⟨rfl,rfl,by rw[BitVec.toNat_ofNat];omega⟩)⟩
  have h3:(⟨3,Sp.zero⟩:Kn).holds 3 0 len:=⟨by decide,.inr (.inr ⟨.inr (.inr rfl),rfl,by decide⟩)⟩
  have hc:r=0\/r=1\/r=2\/r=3\/r=4\/r=5\/r=6\/r=7\/r=8\/r=9\/r=10:=by omega
  rcases hc with rfl|rfl|rfl|rfl|rfl|rfl|rfl|rfl|rfl|rfl|rfl
  ·exact hn
  ·exact h1
  ·exact h2
  ·exact hn
  ·exact hn
  ·exact hn
  ·exact hn
  ·exact hn
  ·exact hn
  ·exact hn
  ·exact h3
 ·have e:(Pl.start.bytes).getD j false=false:=by
   show(List.replicate 512 false).getD j false=false
   rw[List.getD_eq_getElem?_getD,List.getElem?_replicate];split<;>rfl
  rw[e]at hb;cases hb
structure At(l:List Ins)(ps:List Pl)(len:Nat)(m:Mc):Prop where
 verdict:m.verdict=none
 lt:m.at'<l.length
 live:(plAt ps m.at').live=true
 holds:PlH (plAt ps m.at') m len
theorem step_at{l:List Ins}{ps:List Pl}{pk:List B}{m:Mc}(hs:Shaped l)(ht:Typed l ps)(hl:pk.length<=65535)(h:At l ps pk.length m):
  ∃i m',l[m.at']?=some i/\estep pk i { m with at':=m.at'+1 }=(0,m')/\((∃v,m'.verdict=some v)\/(At l ps pk.length m'/\m.at'<m'.at')):=by
 have hlt0:=h.lt;have hi:l[m.at']?=some l[m.at']:=List.getElem?_eq_getElem h.lt;obtain⟨ah,af,hc,k1,k2⟩:=ht.went m.at' h.lt _ hi h.live;have hr:l[m.at'].right=true:=hs.right _ (List.getElem_mem h.lt);obtain⟨m',he,ha⟩:=step_sound l[m.at'] hr pk rfl hl (h.holds.at'' (m.at'+1)) hc;refine⟨_,m',hi,he,?_⟩;have hrg:=cstep_range hc;rcases ha with⟨_,hv,_⟩|⟨_,hv,⟨e1,q,e2,e3⟩|⟨e1,ej,q,e2,e3⟩⟩
 ·exact .inl ⟨_,hv⟩
 ·right
  simp only at e1 hv;obtain⟨g1,g2⟩:=k1 q e2;have hlt:=hs.last m.at' _ hi (hrg.1 (by rw[e2];simp)).1 (hrg.1 (by rw[e2];simp)).2;refine⟨⟨hv.trans h.verdict,by rw[e1];exact hlt,by rw[e1];exact g1,by rw[e1];exact g2.holds (ht.wf _ g1) hl e3⟩,by omega⟩
 ·right
  simp only at e1 hv;obtain⟨g1,g2⟩:=k2 q e2;have hlt:=hs.fwd m.at' _ hi ej;refine⟨⟨hv.trans h.verdict,by rw[e1];exact hlt.2,by rw[e1];exact g1,by rw[e1];exact g2.holds (ht.wf _ g1) hl e3⟩,by omega⟩
theorem runs_at{l:List Ins}{ps:List Pl}{pk:List B}(hs:Shaped l)(ht:Typed l ps)(hl:pk.length<=65535):∀(n:Nat) (m:Mc),l.length-m.at'<=n->At l ps pk.length m->∃k v,k<=n/\Runs l pk k m v
 | 0,m,hn,h=>absurd h.lt (by omega)
 | n+1,m,hn,h=>by
   obtain⟨i,m',h1,h2,h3⟩:=step_at hs ht hl h;rcases h3 with⟨v,hv⟩|⟨ha,hlt⟩
   ·exact⟨1,v,by omega,i,m',h1,h2,.inl ⟨rfl,hv⟩⟩
   ·obtain⟨k,v,hk,hr⟩:=runs_at hs ht hl n m' (by omega) ha
    exact⟨k+1,v,by omega,i,m',h1,h2,.inr ⟨ha.verdict,hr⟩⟩
theorem runs_of{l:List Ins}{ps:List Pl}(hs:Shaped l)(ht:Typed l ps)(pk:List B)(hl:pk.length<=65535):∃k v,k<=l.length/\Runs l pk k (Mc.start pk.length) v:=by
 obtain⟨h1,h2⟩:=ht.first _ rfl;obtain⟨k,v,hk,hr⟩:=runs_at hs ht hl l.length (Mc.start pk.length) (Nat.sub_le _ _) ⟨rfl,List.length_pos_iff.2 hs.ne,h1,h2.holds (ht.wf 0 h1) hl (start_holds _ hl)⟩;exact⟨k,v,hk,hr⟩
structure Fl where
 do':Int
 what:Int
 narrow:Bool
 d:Int
 a:Int
 b:Int
 n:U
 size:Int
 to:Int
deriving DecidableEq
def Fl.zero:Fl:=⟨0,0,false,0,0,0,0,0,0⟩
def lsec(i:Ins):List Fl:=if i.useImm then[{ Fl.zero with do':=1,d:=15,n:=wide i.imm }]else[]
def lreg(i:Ins):Int:=if i.useImm then 15 else i.src
def lgoes(at':Nat)(to:Int):List Fl:=if(at':Int)+1<to then[{ Fl.zero with do':=7,to:=to }]else[]
def lreckon(i:Ins):List Fl :=
 if i.op=13 then[{ Fl.zero with do':=3,what:=i.op,narrow:=i.narrow,d:=i.dst,a:=i.dst }]
 else if i.op=12/\i.narrow=false/\i.useImm=true then[{ Fl.zero with do':=1,d:=i.dst,n:=wide i.imm }]
 else if i.op=12/\i.narrow=false then[{ Fl.zero with do':=2,d:=i.dst,a:=i.src }]
 else lsec i ++ [{ Fl.zero with do':=3,what:=i.op,narrow:=i.narrow,d:=i.dst,a:=i.dst,b:=lreg i }]
def lbranch(ps:List Pl)(at':Nat)(i:Ins):List Fl :=
 if i.off=0\/(plAt ps (at'+1+i.off.toNat)).live=false then[]
 else if(plAt ps (at'+1)).live=false then lgoes at' ((at':Int)+1+i.off)
 else lsec i ++ [{ Fl.zero with do':=8,what:=i.op,narrow:=i.narrow,a:=i.dst,b:=lreg i,to:=(at':Int)+1+i.off }]
def lone(ps:List Pl)(at':Nat)(i:Ins):List Fl :=
 if i.op=14 then[{ Fl.zero with do':=if((plAt ps at').reg i.src).k=3 then 5 else 4,d:=i.dst,a:=i.src,n:=wide i.off,size:=i.size }]
 else if i.op=15 then lsec i ++ [{ Fl.zero with do':=6,a:=i.dst,b:=lreg i,n:=wide i.off,size:=i.size }]
 else if i.op=16 then lgoes at' ((at':Int)+1+i.off)
 else if i.op=28 then[{ Fl.zero with do':=9 }]
 else if i.jumps then lbranch ps at' i
 else lreckon i
def lat(l:List Ins)(ps:List Pl)(n:Nat):List Fl:=match l[n]? with
 | none=>[]
 | some i=>if(plAt ps n).live then lone ps n i else[]
def lout(l:List Ins)(ps:List Pl):Nat->List Fl
 | 0=>[]
 | n+1=>lout l ps n++lat l ps n
def lbegin(l:List Ins)(ps:List Pl)(n:Nat):Nat:=(lout l ps n).length
def lpatch(l:List Ins)(ps:List Pl)(f:Fl):Fl:=if f.do'=7\/f.do'=8 then { f with to:=(lbegin l ps f.to.toNat:Int) }else f
def lmake(l:List Ins)(ps:List Pl):List Fl:=(lout l ps l.length).map (lpatch l ps)
structure Fm where
 regs:List U
 stk:List B
 at':Nat
def Fm.reg(m:Fm)(r:Int):U:=m.regs.getD r.toNat 0
def Fm.put(m:Fm)(r:Int)(v:U):Fm:={ m with regs:=m.regs.set r.toNat v }
def Fm.start(len:Nat):Fm:=⟨(List.replicate 16 0).set 2 (BitVec.ofNat 64 len),List.replicate 512 0,0⟩
def cellErr(at' size:Int):Bool:=decide (at' < -512 \/ -size<at')
def fstep(pk:List B)(f:Fl)(m:Fm):Option Fm :=
 if f.do'=1 then some (m.put f.d f.n)
 else if f.do'=2 then some (m.put f.d (m.reg f.a))
 else if f.do'=3 then(if aerr f.what f.narrow (m.reg f.b)=0 then some (m.put f.d (ado f.what f.narrow (m.reg f.a) (m.reg f.b)))else none)
 else if f.do'=4 then(if getErr pk.length (m.reg f.a+f.n).toInt f.size=0 then some (m.put f.d (gets pk (m.reg f.a+f.n).toInt.toNat f.size.toNat))else none)
 else if f.do'=5 then(if cellErr (m.reg f.a+f.n).toInt f.size then none else some (m.put f.d (gets m.stk ((m.reg f.a+f.n).toInt+512).toNat f.size.toNat)))
 else if f.do'=6 then(if cellErr (m.reg f.a+f.n).toInt f.size then none else some { m with stk:=puts m.stk ((m.reg f.a+f.n).toInt+512).toNat f.size.toNat (m.reg f.b) })
 else if f.do'=7 then some { m with at':=f.to.toNat }
 else if f.do'=8 then some (if ais f.what f.narrow (m.reg f.a) (m.reg f.b)then { m with at':=f.to.toNat }else m)
 else none
def FRuns(c:List Fl)(pk:List B):Nat->Fm->U->Prop
 | 0,_,_=>False
 | k+1,m,v=>∃f,c[m.at']?=some f/\((k=0/\f.do'=9/\v=m.reg f.a)\/∃m',fstep pk f { m with at':=m.at'+1 }=some m'/\FRuns c pk k m' v)
inductive FSteps (c:List Fl) (pk:List B):Nat->Fm->Fm->Prop
 | nil (m:Fm):FSteps c pk 0 m m
 | cons {k:Nat} {m m1 m2:Fm} {f:Fl}:c[m.at']?=some f->fstep pk f { m with at':=m.at'+1 }=some m1->FSteps c pk k m1 m2->FSteps c pk (k+1) m m2
theorem FSteps.runs{c:List Fl}{pk:List B}{k n:Nat}{m m':Fm}{v:U}(h:FSteps c pk k m m')(hr:FRuns c pk n m' v):FRuns c pk (k+n) m v:=by
 induction h with
 | nil m=>rw[Nat.zero_add];exact hr
 | cons h1 h2 _ ih =>
   rw[show ∀k,k+1+n=(k+n)+1 from fun k=>by omega];exact⟨_,h1,.inr ⟨_,h2,ih hr⟩⟩
structure Rel(m:Mc)(f:Fm):Prop where
 ml:m.regs.length=11
 fl:f.regs.length=16
 regs:∀r,r<11->f.regs.getD r 0=(m.regs.getD r (0,0)).2
 stk:f.stk=m.stk
section
variable{m:Mc}{f:Fm}
theorem Rel.reg(h:Rel m f)(r:Int)(h1:r<=10):f.reg r=(m.reg r).2:=h.regs r.toNat (by omega)
theorem Rel.put(h:Rel m f)(r:Int)(h0:0<=r)(h1:r<=10)(v:Int×U)(k k':Nat):Rel { (m.put r v)with at':=k } { (f.put r v.2)with at':=k' }:=by
 refine⟨by simp[Mc.put,h.ml],by simp[Fm.put,h.fl],fun j hj=>?_,h.stk⟩;simp only[Mc.put,Fm.put,getD_set,h.ml,h.fl];by_cases e:r.toNat=j
 ·rw[if_pos ⟨e,by omega⟩,if_pos ⟨e,by omega⟩]
 ·rw[if_neg (fun x=>e x.1),if_neg (fun x=>e x.1)];exact h.regs j hj
theorem Rel.spare(h:Rel m f)(v:U):Rel m (f.put 15 v):=by
 refine⟨h.ml,by simp[Fm.put,h.fl],fun j hj=>?_,h.stk⟩;simp only[Fm.put,getD_set];rw[if_neg (by show ¬((15:Int).toNat=j/\_);intro e;have:=e.1;simp at this;omega)];exact h.regs j hj
theorem Rel.ats(h:Rel m f)(k k':Nat):Rel { m with at':=k } { f with at':=k' }:=⟨h.ml,h.fl,h.regs,h.stk⟩
theorem start_rel(len:Nat):Rel (Mc.start len) (Fm.start len):=by
 refine⟨rfl,by show((List.replicate 16 (0:U)).set 2 _).length=16;rw[List.length_set,List.length_replicate],fun r hr=>?_,rfl⟩;have hc:r=0\/r=1\/r=2\/r=3\/r=4\/r=5\/r=6\/r=7\/r=8\/r=9\/r=10:=by omega
 rcases hc with rfl|rfl|rfl|rfl|rfl|rfl|rfl|rfl|rfl|rfl|rfl<;>rfl
theorem lsec_steps{c:List Fl}{pk:List B}(h:Rel m f)(i:Ins)(hs:i.src<=10)(hc:∀t g,(lsec i)[t]?=some g->c[f.at'+t]?=some g):
  ∃k f',FSteps c pk k f f'/\Rel m f'/\f'.at'=f.at'+(lsec i).length/\f'.reg (lreg i)=(esecond i m).2:=by
 unfold lsec lreg esecond at *;cases hu:i.useImm with
 | false =>
   simp only[Bool.false_eq_true,if_false];exact⟨0,f,.nil f,h,rfl,h.reg i.src hs⟩
 | true =>
   rw[hu]at hc;simp only[if_true]at hc ⊢;have h1:=hc 0 _ rfl;refine⟨1,{ (f.put 15 (wide i.imm))with at':=f.at'+1 },.cons h1 (by rw[fstep,if_pos rfl];rfl) (.nil _),?_,rfl,?_⟩
   ·exact(h.spare _).ats m.at' _
   ·show((f.regs.set 15 (wide i.imm)).getD 15 0)=wide i.imm
    rw[getD_set,if_pos ⟨rfl,by rw[h.fl];decide⟩]
end
section
variable{l:List Ins}{ps:List Pl}
theorem lout_get(n j t:Nat)(hj:j<n)(g:Fl)(h:(lat l ps j)[t]?=some g):(lout l ps n)[lbegin l ps j+t]?=some g:=by
 induction n with
 | zero=>omega
 | succ n ih =>
   show(lout l ps n++lat l ps n)[lbegin l ps j+t]?=some g
   rcases Nat.lt_or_ge j n with h1|h1
   ·have h2:=ih h1
    rw[List.getElem?_append_left (List.getElem?_eq_some_iff.1 h2).1];exact h2
   ·have e:j=n:=by omega
    subst e;rw[List.getElem?_append_right (by unfold lbegin;omega)];rw[show lbegin l ps j+t-(lout l ps j).length=t by unfold lbegin;omega];exact h
theorem lbegin_succ(j:Nat):lbegin l ps (j+1)=lbegin l ps j+(lat l ps j).length:=by
 unfold lbegin;show(lout l ps j++lat l ps j).length=_
 rw[List.length_append]
theorem lmake_get(j t:Nat)(hj:j<l.length)(g:Fl)(h:(lat l ps j)[t]?=some g):(lmake l ps)[lbegin l ps j+t]?=some (lpatch l ps g):=by
 unfold lmake;rw[List.getElem?_map,lout_get l.length j t hj g h];rfl
theorem lat_of{j:Nat}{i:Ins}(hi:l[j]?=some i)(hl:(plAt ps j).live=true):lat l ps j=lone ps j i:=by
 unfold lat;rw[hi];simp only[hl,if_true]
theorem lpatch_other(g:Fl)(h:g.do'≠7/\g.do'≠8):lpatch l ps g=g:=by
 unfold lpatch;rw[if_neg (by omega)]
end
end Go.Proofs.YtfeipbgnjainlaaGreatDoor.T
