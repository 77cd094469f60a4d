/- TAluIs, TSpA -/
import Derived.Test.YtfeipbgnjainlaaGreatDoorTp2
import Derived.Test.YtfeipbgnjainlaaGreatDoorTp5
import Derived.Test.YtfeipbgnjainlaaGreatDoorTp6
import Derived.Lib.QuietBelow
import Derived.WalkLawsBesides
import Derived.Deep.RegionHeld3
import Derived.Deep.RegionLaw
set_option linter.unusedVariables false
set_option linter.unusedSimpArgs false
set_option maxHeartbeats 1000000
namespace Go.Proofs.YtfeipbgnjainlaaGreatDoor.K
open Go Go.RowKit Go.Maps
theorem aluis32_any(w:World)(op:Int)(a b:BitVec 32)(h:17<=op/\op<=27):Calls Tryz.prog 156 #[.int .u8 op,W32 a,W32 b] w fun e w'=>e=.returned (.tuple #[.bool (T.aisN 32 op a b),.int .i64 0])/\w=w':=by
 have hc:op=17\/op=18\/op=19\/op=20\/op=21\/op=22\/op=23\/op=24\/op=25\/op=26\/op=27:=by omega
 rcases hc with rfl|rfl|rfl|rfl|rfl|rfl|rfl|rfl|rfl|rfl|rfl
 all_goals
  go_enter Tryz.func156,Tryz.ntmps156;go_wp2
  go_ret2
  exact⟨rfl,rfl⟩
theorem aluis64_any(w:World)(op:Int)(a b:BitVec 64)(h:17<=op/\op<=27):Calls Tryz.prog 157 #[.int .u8 op,W64 a,W64 b] w fun e w'=>e=.returned (.tuple #[.bool (T.aisN 64 op a b),.int .i64 0])/\w=w':=by
 have hc:op=17\/op=18\/op=19\/op=20\/op=21\/op=22\/op=23\/op=24\/op=25\/op=26\/op=27:=by omega
 rcases hc with rfl|rfl|rfl|rfl|rfl|rfl|rfl|rfl|rfl|rfl|rfl
 all_goals
  go_enter Tryz.func157,Tryz.ntmps157;go_wp2
  go_ret2
  exact⟨rfl,rfl⟩
theorem aluIs_any(w:World)(op:Int)(narrow:Bool)(a b:BitVec 64)(h:17<=op/\op<=27):
  Calls Tryz.prog 102 #[.int .u8 op,.bool narrow,W64 a,W64 b] w fun e w'=>e=.returned (.tuple #[.bool (T.ais op narrow a b),.int .i64 0])/\w=w':=by
 cases narrow with
 | true =>
   have HC:=Hd (aluis32_any w op (BitVec.setWidth 32 a) (BitVec.setWidth 32 b) h);clear h;go_enter Tryz.func102,Tryz.ntmps102;go_wp2_with fail;refine HC.o.mono ?_;rintro e w2 ⟨rfl,rfl⟩;clear HC;go_wp2
   go_ret2
   exact⟨rfl,rfl⟩
 | false =>
   have HC:=Hd (aluis64_any w op a b h);clear h;go_enter Tryz.func102,Tryz.ntmps102;go_wp2_with fail;refine HC.o.mono ?_;rintro e w2 ⟨rfl,rfl⟩;clear HC;go_wp2
   go_ret2
   exact⟨rfl,rfl⟩
def aluV(op:Int)(narrow:Bool)(a b:BitVec 64):BitVec 64:=if narrow then(T.aluR 32 op (T.low a) (T.low b)).setWidth 64 else T.aluR 64 op a b
theorem aluDo_any(w:World)(op:Int)(narrow:Bool)(a b:BitVec 64)(h:1<=op/\op<=13):
  Calls Tryz.prog 97 #[.int .u8 op,.bool narrow,W64 a,W64 b] w fun e w'=>e=.returned (.tuple #[W64 (aluV op narrow a b),.int .i64 (T.aerr op narrow b)])/\Since w w':=by
 cases narrow with
 | true =>
   have HC:=Hd (aludo32_any w op (BitVec.setWidth 32 a) (BitVec.setWidth 32 b) h);clear h;go_enter Tryz.func97,Tryz.ntmps97;go_wp2_with fail;refine HC.o.mono ?_;rintro e w2 ⟨rfl,hs⟩;have HS:=Hd hs;clear HC hs;go_wp2
   go_ret2
   exact⟨rfl,HS.o⟩
 | false =>
   have HC:=Hd (aludo64_any w op a b h);clear h;go_enter Tryz.func97,Tryz.ntmps97;go_wp2_with fail;refine HC.o.mono ?_;rintro e w2 ⟨rfl,hs⟩;have HS:=Hd hs;clear HC hs;go_wp2
   go_ret2
   exact⟨rfl,HS.o⟩
theorem wide_wrap(n:Int):IntKind.u64.wrap n=((T.wide n).toNat:Int):=by
 unfold T.wide;rw[wrap_u64',BitVec.toNat_ofInt];omega
theorem aluWide_any(w:World)(n:Int):Calls Tryz.prog 99 #[.int .i64 n] w fun e w'=>e=.returned (W64 (T.wide n))/\w=w':=by
 have hw:=wide_wrap n;go_enter Tryz.func99,Tryz.ntmps99;go_wp2;go_ret;refine⟨?_,rfl⟩;unfold W64;rw[<-hw];rfl
end Go.Proofs.YtfeipbgnjainlaaGreatDoor.K
set_option maxHeartbeats 1000000
namespace Go.Proofs.YtfeipbgnjainlaaGreatDoor.K
open Go Go.RowKit Go.Maps Go.Sort
def spv(s:T.Sp):Value:=.agg #[W64 s.lo,W64 s.hi]
def Ret(w:World)(v:Value)(e:Ending)(w':World):Prop:=e=.returned v/\Since w w'
theorem Ret.from{w w1 w':World}{v:Value}{e:Ending}(hs:Since w w1)(h:Ret w1 v e w'):Ret w v e w':=⟨h.1,hs.add h.2⟩
theorem Since.keep{w w':World}(h:Since w w'){p:Addr}{v:Value}(c:w.cell? p=some v):w'.cell? p=some v:=(h.cell (block_lt_of_cell c)).trans c
theorem Ret.regrown{P:Program}{f:FuncId}{args:Array Value}{w:World}{d:Nat}{os:Array Obj}{v:Value}(h:Calls P f args (grow (redrawn w d) os) (Ret (grow (redrawn w d) os) v)):
  Calls P f args (grow (redrawn w d) os) fun e w''=>e=.returned v/\∃p:Regrown,w''=grow (redrawn w p.d) p.os:=Calls.regrown_of h
theorem spHas_any(s:T.Sp)(n:BitVec 64)(w:World):Calls Tryz.prog 228 #[spv s,W64 n] w (Ret w (.bool (s.has n))):=by
 obtain⟨lo,hi⟩:=s;unfold spv;have S1:=Hd (Since.alloc (Below.refl w.heap.size w) (.cells #[W64 lo,W64 hi] 122));go_enter Tryz.func228,Tryz.ntmps228;go_wp2
 all_goals
  go_ret;refine⟨?_,S1.o⟩
  simp_all [T.Sp.has]
theorem spWithin_any(s t:T.Sp)(w:World):Calls Tryz.prog 127 #[spv s,spv t] w (Ret w (.bool (s.within t))):=by
 obtain⟨lo,hi⟩:=s;obtain⟨lo2,hi2⟩:=t;unfold spv;have S1:=Hd ((Since.alloc (Below.refl w.heap.size w) (.cells #[W64 lo,W64 hi] 122)).alloc (.cells #[W64 lo2,W64 hi2] 122));go_enter Tryz.func127,Tryz.ntmps127;go_wp2
 all_goals
  go_ret;refine⟨?_,S1.o⟩
  simp_all [T.Sp.within]
theorem spRight_any(s:T.Sp)(w:World):Calls Tryz.prog 132 #[spv s] w (Ret w (.bool s.right)):=by
 obtain⟨lo,hi⟩:=s;unfold spv;have S1:=Hd (Since.alloc (Below.refl w.heap.size w) (.cells #[W64 lo,W64 hi] 122));go_enter Tryz.func132,Tryz.ntmps132;go_wp2
 all_goals
  go_ret;refine⟨?_,S1.o⟩
  simp_all [T.Sp.right]
theorem spOf_any(n:BitVec 64)(w:World):Calls Tryz.prog 133 #[W64 n] w (Ret w (spv (T.Sp.of n))):=by
 have S1:=Hd (Since.alloc (Below.refl w.heap.size w) (.cells #[W64 n,W64 n] 122));go_enter Tryz.func133,Tryz.ntmps133;go_wp2;refine bodyPost_ret (v:=spv (T.Sp.of n)) ?_ rfl ⟨rfl,S1.o⟩;simp[results,Tryz.results133,go_sem,spv,T.Sp.of]
theorem spOf_agg(n:BitVec 64)(w:World):Calls Tryz.prog 133 #[W64 n] w (Ret w (.agg #[W64 n,W64 n])):=spOf_any n w
theorem spJoin_any(s t:T.Sp)(w:World):Calls Tryz.prog 245 #[spv s,spv t] w (Ret w (spv (s.join t))):=by
 obtain⟨lo,hi⟩:=s;obtain⟨lo2,hi2⟩:=t;unfold spv;have S1:=Hd (((Since.alloc (Below.refl w.heap.size w) (.cells #[W64 lo,W64 hi] 122)).alloc (.cells #[W64 lo2,W64 hi2] 122)).alloc (.cells #[W64 (T.umin lo lo2),W64 (T.umax hi hi2)] 122));go_enter Tryz.func245,Tryz.ntmps245;go_wp2;refine bodyPost_ret (v:=spv (T.Sp.join ⟨lo,hi⟩ ⟨lo2,hi2⟩)) ?_ rfl ⟨rfl,S1.o⟩;simp[results,Tryz.results245,go_sem,spv,T.Sp.join]
theorem spAll_any(b:Bool)(w:World):Calls Tryz.prog 229 #[.bool b] w (Ret w (spv (T.Sp.all b))):=by
 cases b with
 | true =>
   have S1:=Hd (Since.alloc (Below.refl w.heap.size w) (.cells #[W64 0#64,W64 4294967295#64] 122));go_enter Tryz.func229,Tryz.ntmps229;go_wp2;refine bodyPost_ret (v:=spv (T.Sp.all true)) ?_ rfl ⟨rfl,S1.o⟩;simp[results,Tryz.results229,go_sem,spv,T.Sp.all,T.half]
 | false =>
   have S1:=Hd (Since.alloc (Below.refl w.heap.size w) (.cells #[W64 0#64,W64 18446744073709551615#64] 122));go_enter Tryz.func229,Tryz.ntmps229;go_wp2;refine bodyPost_ret (v:=spv (T.Sp.all false)) ?_ rfl ⟨rfl,S1.o⟩;simp[results,Tryz.results229,go_sem,spv,T.Sp.all,T.ones]
theorem eqIn64n(n:Nat)(w:World)(a b:BitVec 64):(Op.equalIn (n+1) 39 (W64 a) (W64 b)).run Tryz.prog w=.ok (a==b) w:=by
 have h:((a.toNat:Int)==(b.toNat:Int))=(a==b):=by
  rw[Bool.eq_iff_iff,beq_iff_eq,beq_iff_eq];exact⟨fun e=>BitVec.eq_of_toNat_eq (by omega),fun e=>by rw[e]⟩
 simp[Op.equalIn,W64,run_underlying Tryz.underlying39,h]
theorem eqIn64(w:World)(a b:BitVec 64):(Op.equalIn 9999 39 (W64 a) (W64 b)).run Tryz.prog w=.ok (a==b) w:=eqIn64n 9998 w a b
theorem ite_okB{w:World}(x y:Bool):(if x=false then Result.ok false w else Result.ok y w)=Result.ok (x&&y) w:=by cases x<;>rfl
attribute [go_sem] eqIn64 ite_okB
theorem one_eq(lo hi:BitVec 64):(⟨lo,hi⟩:T.Sp).one=(hi==lo):=by
 rw[Bool.eq_iff_iff,T.Sp.one,T.Sp.of,beq_iff_eq,beq_iff_eq,T.Sp.mk.injEq];exact⟨fun e=>e.2,fun e=>⟨rfl,e⟩⟩
theorem spone_any(s:T.Sp)(w:World):Calls Tryz.prog 271 #[spv s] w (Ret w (.bool s.one)):=by
 obtain⟨lo,hi⟩:=s;unfold spv;have S1:=Hd (Since.alloc (Below.refl w.heap.size w) (.cells #[W64 lo,W64 hi] 122));go_enter Tryz.func271,Tryz.ntmps271;go_wp2_with fail;have c0:(w.alloc (.cells #[W64 lo,W64 hi] 122)).cell? ⟨w.heap.size,0,none⟩=some (W64 lo):=by rw[World.cell?_alloc_new];rfl
 have c1:(w.alloc (.cells #[W64 lo,W64 hi] 122)).cell? ⟨w.heap.size,1,none⟩=some (W64 hi):=by rw[World.cell?_alloc_new];rfl
 generalize w.alloc (.cells #[W64 lo,W64 hi] 122)=w1 at *;have r0:=cell_regrown c0;have r1:=cell_regrown c1;clear c0 c1;refine wp_region_quiet_below (by kernel_rfl) (by kernel_rfl) ?_
 repeat (refine @wpQuiet_step _ _ _ _ _ _ _ ?_; intro K hK; go_simp; first | (refine hK _ ?_; clear hK K) | (apply Exists.intro; refine ⟨fun _ => ?_, hK _ ?_⟩; (first | (with_reducible exact Ret.regrown (spOf_agg _ _)) | fail "no arm"); clear hK K))
 refine wpQuiet_nil ?_;intro _ hw';obtain⟨⟨dq,osq⟩,hw''⟩:=hw';subst hw'';go_wp2;go_ret;exact⟨by rw[one_eq];rfl,S1.o.add (below_regrown w1 dq osq)⟩
def wkv(x:T.Wk):Value:=.agg #[W64 x.a.lo,W64 x.a.hi,W64 x.b.lo,W64 x.b.hi,.bool x.narrow,W64 x.most,W64 x.size]
theorem wbelow_any(x:T.Wk)(n:BitVec 64)(w:World):Calls Tryz.prog 263 #[wkv x,W64 n] w (Ret w (.bool (x.below n))):=by
 unfold wkv;have S1:=Hd (Since.alloc (Below.refl w.heap.size w) (.cells #[W64 x.a.lo,W64 x.a.hi,W64 x.b.lo,W64 x.b.hi,.bool x.narrow,W64 x.most,W64 x.size] 229));go_enter Tryz.func263,Tryz.ntmps263;go_wp2
 all_goals
  go_ret;refine⟨?_,S1.o⟩
  simp_all [T.Wk.below]
theorem wends_any(x:T.Wk)(lo hi:BitVec 64)(w:World):Calls Tryz.prog 268 #[wkv x,W64 lo,W64 hi] w (Ret w (spv (x.ends lo hi))):=by
 unfold wkv;have S1:=Hd ((Since.alloc (Below.refl w.heap.size w) (.cells #[W64 x.a.lo,W64 x.a.hi,W64 x.b.lo,W64 x.b.hi,.bool x.narrow,W64 x.most,W64 x.size] 229)).alloc (.cells #[W64 (lo &&& x.most),W64 (hi &&& x.most)] 122));go_enter Tryz.func268,Tryz.ntmps268;go_wp2;refine bodyPost_ret (v:=spv (x.ends lo hi)) ?_ rfl ⟨rfl,S1.o⟩;simp[results,Tryz.results268,go_sem,spv,T.Wk.ends]
theorem wboth_any(x:T.Wk)(w:World):Calls Tryz.prog 261 #[wkv x] w (Ret w (.bool x.both)):=by
 unfold wkv;have S1:=Hd (Since.alloc (Below.refl w.heap.size w) (.cells #[W64 x.a.lo,W64 x.a.hi,W64 x.b.lo,W64 x.b.hi,.bool x.narrow,W64 x.most,W64 x.size] 229));have c0:(w.alloc (.cells #[W64 x.a.lo,W64 x.a.hi,W64 x.b.lo,W64 x.b.hi,.bool x.narrow,W64 x.most,W64 x.size] 229)).cell? ⟨w.heap.size,0,none⟩=some (W64 x.a.lo):=by rw[World.cell?_alloc_new];rfl
 have c1:(w.alloc (.cells #[W64 x.a.lo,W64 x.a.hi,W64 x.b.lo,W64 x.b.hi,.bool x.narrow,W64 x.most,W64 x.size] 229)).cell? ⟨w.heap.size,1,none⟩=some (W64 x.a.hi):=by rw[World.cell?_alloc_new];rfl
 have c2:(w.alloc (.cells #[W64 x.a.lo,W64 x.a.hi,W64 x.b.lo,W64 x.b.hi,.bool x.narrow,W64 x.most,W64 x.size] 229)).cell? ⟨w.heap.size,2,none⟩=some (W64 x.b.lo):=by rw[World.cell?_alloc_new];rfl
 have c3:(w.alloc (.cells #[W64 x.a.lo,W64 x.a.hi,W64 x.b.lo,W64 x.b.hi,.bool x.narrow,W64 x.most,W64 x.size] 229)).cell? ⟨w.heap.size,3,none⟩=some (W64 x.b.hi):=by rw[World.cell?_alloc_new];rfl
 have c4:(w.alloc (.cells #[W64 x.a.lo,W64 x.a.hi,W64 x.b.lo,W64 x.b.hi,.bool x.narrow,W64 x.most,W64 x.size] 229)).cell? ⟨w.heap.size,4,none⟩=some (.bool x.narrow):=by rw[World.cell?_alloc_new];rfl
 have c5:(w.alloc (.cells #[W64 x.a.lo,W64 x.a.hi,W64 x.b.lo,W64 x.b.hi,.bool x.narrow,W64 x.most,W64 x.size] 229)).cell? ⟨w.heap.size,5,none⟩=some (W64 x.most):=by rw[World.cell?_alloc_new];rfl
 have c6:(w.alloc (.cells #[W64 x.a.lo,W64 x.a.hi,W64 x.b.lo,W64 x.b.hi,.bool x.narrow,W64 x.most,W64 x.size] 229)).cell? ⟨w.heap.size,6,none⟩=some (W64 x.size):=by rw[World.cell?_alloc_new];rfl
 go_enter Tryz.func261,Tryz.ntmps261;go_wp2_with fail;generalize w.alloc (.cells #[W64 x.a.lo,W64 x.a.hi,W64 x.b.lo,W64 x.b.hi,.bool x.narrow,W64 x.most,W64 x.size] 229)=w1 at *;refine(spone_any x.a w1).mono ?_;rintro e w2 ⟨rfl,hs⟩;have d2:=hs.keep c2;have d3:=hs.keep c3;have S2:=Hd (S1.o.add hs);clear hs c0 c1 c2 c3 c4 c5 c6;cases hb:x.a.one with
 | false =>
   go_wp2;go_ret;exact⟨by rw[T.Wk.both,hb];rfl,S2.o⟩
 | true =>
   go_wp2_with fail;refine(spone_any x.b w2).mono ?_;rintro e w3 ⟨rfl,hs⟩;have S3:=Hd (S2.o.add hs);clear hs;go_wp2;go_ret;exact⟨by rw[T.Wk.both,hb];rfl,S3.o⟩
theorem wmixed_any(x:T.Wk)(s:T.Sp)(w:World):Calls Tryz.prog 262 #[wkv x,spv s] w (Ret w (.bool (x.mixed s))):=by
 have HW:=Hd (fun q n=>wbelow_any x n q);unfold wkv at HW ⊢;unfold spv;have S1:=Hd ((Since.alloc (Below.refl w.heap.size w) (.cells #[W64 x.a.lo,W64 x.a.hi,W64 x.b.lo,W64 x.b.hi,.bool x.narrow,W64 x.most,W64 x.size] 229)).alloc (.cells #[W64 s.lo,W64 s.hi] 122));have c0:(w.alloc (.cells #[W64 x.a.lo,W64 x.a.hi,W64 x.b.lo,W64 x.b.hi,.bool x.narrow,W64 x.most,W64 x.size] 229)).cell? ⟨w.heap.size,0,none⟩=some (W64 x.a.lo):=by rw[World.cell?_alloc_new];rfl
 have c1:(w.alloc (.cells #[W64 x.a.lo,W64 x.a.hi,W64 x.b.lo,W64 x.b.hi,.bool x.narrow,W64 x.most,W64 x.size] 229)).cell? ⟨w.heap.size,1,none⟩=some (W64 x.a.hi):=by rw[World.cell?_alloc_new];rfl
 have c2:(w.alloc (.cells #[W64 x.a.lo,W64 x.a.hi,W64 x.b.lo,W64 x.b.hi,.bool x.narrow,W64 x.most,W64 x.size] 229)).cell? ⟨w.heap.size,2,none⟩=some (W64 x.b.lo):=by rw[World.cell?_alloc_new];rfl
 have c3:(w.alloc (.cells #[W64 x.a.lo,W64 x.a.hi,W64 x.b.lo,W64 x.b.hi,.bool x.narrow,W64 x.most,W64 x.size] 229)).cell? ⟨w.heap.size,3,none⟩=some (W64 x.b.hi):=by rw[World.cell?_alloc_new];rfl
 have c4:(w.alloc (.cells #[W64 x.a.lo,W64 x.a.hi,W64 x.b.lo,W64 x.b.hi,.bool x.narrow,W64 x.most,W64 x.size] 229)).cell? ⟨w.heap.size,4,none⟩=some (.bool x.narrow):=by rw[World.cell?_alloc_new];rfl
 have c5:(w.alloc (.cells #[W64 x.a.lo,W64 x.a.hi,W64 x.b.lo,W64 x.b.hi,.bool x.narrow,W64 x.most,W64 x.size] 229)).cell? ⟨w.heap.size,5,none⟩=some (W64 x.most):=by rw[World.cell?_alloc_new];rfl
 have c6:(w.alloc (.cells #[W64 x.a.lo,W64 x.a.hi,W64 x.b.lo,W64 x.b.hi,.bool x.narrow,W64 x.most,W64 x.size] 229)).cell? ⟨w.heap.size,6,none⟩=some (W64 x.size):=by rw[World.cell?_alloc_new];rfl
 have c7:((w.alloc (.cells #[W64 x.a.lo,W64 x.a.hi,W64 x.b.lo,W64 x.b.hi,.bool x.narrow,W64 x.most,W64 x.size] 229)).alloc (.cells #[W64 s.lo,W64 s.hi] 122)).cell? ⟨(w.heap.size+1),0,none⟩=some (W64 s.lo):=by rw[show w.heap.size+1=(w.alloc (.cells #[W64 x.a.lo,W64 x.a.hi,W64 x.b.lo,W64 x.b.hi,.bool x.narrow,W64 x.most,W64 x.size] 229)).heap.size by simp,World.cell?_alloc_new];rfl
 have c8:((w.alloc (.cells #[W64 x.a.lo,W64 x.a.hi,W64 x.b.lo,W64 x.b.hi,.bool x.narrow,W64 x.most,W64 x.size] 229)).alloc (.cells #[W64 s.lo,W64 s.hi] 122)).cell? ⟨(w.heap.size+1),1,none⟩=some (W64 s.hi):=by rw[show w.heap.size+1=(w.alloc (.cells #[W64 x.a.lo,W64 x.a.hi,W64 x.b.lo,W64 x.b.hi,.bool x.narrow,W64 x.most,W64 x.size] 229)).heap.size by simp,World.cell?_alloc_new];rfl
 have d0:=cell_old (.cells #[W64 s.lo,W64 s.hi] 122) c0;have d1:=cell_old (.cells #[W64 s.lo,W64 s.hi] 122) c1;have d2:=cell_old (.cells #[W64 s.lo,W64 s.hi] 122) c2;have d3:=cell_old (.cells #[W64 s.lo,W64 s.hi] 122) c3;have d4:=cell_old (.cells #[W64 s.lo,W64 s.hi] 122) c4;have d5:=cell_old (.cells #[W64 s.lo,W64 s.hi] 122) c5;have d6:=cell_old (.cells #[W64 s.lo,W64 s.hi] 122) c6;go_enter Tryz.func262,Tryz.ntmps262;go_wp2_with fail;generalize(w.alloc (.cells #[W64 x.a.lo,W64 x.a.hi,W64 x.b.lo,W64 x.b.hi,.bool x.narrow,W64 x.most,W64 x.size] 229)).alloc (.cells #[W64 s.lo,W64 s.hi] 122)=w1 at *;have r0:=cell_regrown d0;have r1:=cell_regrown d1;have r2:=cell_regrown d2;have r3:=cell_regrown d3;have r4:=cell_regrown d4;have r5:=cell_regrown d5;have r6:=cell_regrown d6;have r7:=cell_regrown c7;have r8:=cell_regrown c8;clear c0 c1 c2 c3 c4 c5 c6 c7 c8 d0 d1 d2 d3 d4 d5 d6;refine wp_region_quiet_below (by kernel_rfl) (by kernel_rfl) ?_
 repeat (refine @wpQuiet_step _ _ _ _ _ _ _ ?_; intro K hK; go_simp; first | (refine hK _ ?_; clear hK K) | (apply Exists.intro; refine ⟨fun _ => ?_, hK _ ?_⟩; (first | (with_reducible exact Ret.regrown (HW.o _ _)) | fail "no arm"); clear hK K))
 refine wpQuiet_nil ?_;intro _ hw';obtain⟨⟨dq,osq⟩,hw''⟩:=hw';subst hw'';go_wp2;go_ret;exact⟨rfl,S1.o.add (below_regrown w1 dq osq)⟩
def nothingP:List PanicEntry:=[{ v:=.iface 226 (.agg #[]),recovered:=false }]
def MustPost(w:World)(ok:Bool)(e:Ending)(w':World):Prop:=(ok=true/\e=.returned (.tuple #[])/\Since w w')\/(ok=false/\e=.panicked nothingP/\Since w w')
theorem MustPost.from{w w1 w':World}{ok:Bool}{e:Ending}(hs:Since w w1)(h:MustPost w1 ok e w'):MustPost w ok e w' :=
 h.imp (fun⟨a,b,c⟩=>⟨a,b,hs.add c⟩) fun⟨a,b,c⟩=>⟨a,b,hs.add c⟩
theorem must_any(b:Bool)(w:World):Calls Tryz.prog 260 #[.bool b] w (MustPost w b):=by
 have S0:=Hd (show Since w w from Below.refl _ _);cases b with
 | true =>
   go_enter Tryz.func260,Tryz.ntmps260;go_wp2;go_end0;exact Or.inl ⟨rfl,rfl,S0.o⟩
 | false =>
   go_enter Tryz.func260,Tryz.ntmps260;go_wp2;exact⟨rfl,Or.inr ⟨rfl,rfl,S0.o⟩⟩
theorem spcut_any(s:T.Sp)(b:Bool)(w:World):Calls Tryz.prog 232 #[spv s,.bool b] w (Ret w (spv (s.cut b))):=by
 obtain⟨lo,hi⟩:=s;unfold spv;have S1:=Hd ((Since.alloc (Below.refl w.heap.size w) (.cells #[W64 lo,W64 hi] 122)).alloc (.cells #[W64 lo,W64 hi] 122));have S2:=Hd ((Since.alloc (Below.refl w.heap.size w) (.cells #[W64 lo,W64 hi] 122)).alloc (.cells #[W64 (lo &&& 4294967295#64),W64 (hi &&& 4294967295#64)] 122));have S0:=Hd ((Since.alloc (Below.refl w.heap.size w) (.cells #[W64 lo,W64 hi] 122)).alloc (.cells #[W64 0#64,W64 0#64] 122));cases b with
 | false =>
   go_enter Tryz.func232,Tryz.ntmps232;go_wp2;refine bodyPost_ret (v:=spv (T.Sp.cut ⟨lo,hi⟩ false)) ?_ rfl ⟨rfl,S1.o⟩;simp[results,Tryz.results232,go_sem,spv,T.Sp.cut]
 | true =>
   cases hne:(lo >>> 32 != hi >>> 32)with
   | false =>
     go_enter Tryz.func232,Tryz.ntmps232;go_wp2;refine bodyPost_ret (v:=spv ⟨lo &&& 4294967295#64,hi &&& 4294967295#64⟩) ?_ rfl ⟨by rw[T.Sp.cut,if_pos rfl,hne];rfl,S2.o⟩;simp[results,Tryz.results232,go_sem,spv]
   | true =>
     go_enter Tryz.func232,Tryz.ntmps232;go_wp2_with fail;obtain⟨g,hg⟩:∃g,g=w.heap.size+1:=⟨_,rfl⟩
     have hgs:w.heap.size<=g:=by omega
     have h1:((w.alloc (.cells #[W64 lo,W64 hi] 122)).alloc (.cells #[W64 0#64,W64 0#64] 122)).heap[g]?=some (.cells #[W64 0#64,W64 0#64] 122 (0,0)):=by
      rw[show g=(w.alloc (.cells #[W64 lo,W64 hi] 122)).heap.size by simp[hg]];exact heap_alloc_new _ _
     rw[<-hg];generalize(w.alloc (.cells #[W64 lo,W64 hi] 122)).alloc (.cells #[W64 0#64,W64 0#64] 122)=w1 at *;clear hg;refine(spAll_any true w1).mono ?_;rintro e w2 ⟨rfl,hs⟩;have h2:=hs.at h1;have d0:w2.cell? ⟨g,0,none⟩=some (W64 0#64):=block_cell (xs:=[W64 0#64,W64 0#64]) h2 rfl;have d1:w2.cell? ⟨g,1,none⟩=some (W64 0#64):=block_cell (xs:=[W64 0#64,W64 0#64]) h2 rfl;have f0:w2.frozen? ⟨g,0,none⟩=false:=frozen_of_row w2 g 0 _ _ h2;have f1:w2.frozen? ⟨g,1,none⟩=false:=frozen_of_row w2 g 1 _ _ h2;have S3:=Hd (S0.o.add hs);clear hs h1 h2 S1 S2;unfold spv;go_wp2;refine bodyPost_ret (v:=spv (T.Sp.all true)) ?_ rfl ⟨by rw[T.Sp.cut,if_pos rfl,hne];rfl,(S3.o.set hgs 0 _).set hgs 1 _⟩;simp[results,Tryz.results232,go_sem,spv,d0,d1]
end Go.Proofs.YtfeipbgnjainlaaGreatDoor.K
