/- TCkY -/
import Derived.Test.YtfeipbgnjainlaaGreatDoorTp2
import Derived.Test.YtfeipbgnjainlaaGreatDoorTp4
import Derived.Test.YtfeipbgnjainlaaGreatDoorTp45
import Derived.Test.YtfeipbgnjainlaaGreatDoorTp24
import Derived.Deep.RegionHeld3
set_option linter.unusedVariables false
set_option linter.unusedSimpArgs false
set_option maxRecDepth 100000
set_option maxHeartbeats 2000000
namespace Go.Proofs.YtfeipbgnjainlaaGreatDoor.K
open Go Go.RowKit Go.Maps Go.Sort
def StepF(F:FuncId)(i:T.Ins):Prop:=∀(b o n cl:Nat) (l:List T.Ins) (Wk P c k:Nat) (x:PV) (xs:List PV) (w0 w:World) (R:List Acc),CkS b o n cl l Wk P c k x xs i w0 w R->Calls Tryz.prog F #[.pointer (some ⟨Wk,0,none⟩),insV i] w (StepP w0 (.slice (some ⟨b,o,none⟩) n cl) Wk P n c k (xs.map PV.p) R (T.cstep i x.p) i.off)
theorem does_step(i:T.Ins)(hr:i.right=true):∃F:FuncId,(∀w,Calls Tryz.prog 28 #[.int .u8 i.op] w (Ret w (.func (.func F) #[] #[])))/\(∀(a b:Value) (w:World),(callFunc F #[a,b]).run Tryz.prog w=.ok (.enter F #[a,b]) w)/\StepF F i:=by
 obtain⟨_,_,_,_,_,ho,_⟩:=T.right_facts hr;have hd:=fun w=>ckDoes_any i.op ho w
 by_cases h14:i.op=14
 ·refine⟨76,fun w=>?_,fun a b w=>by kernel_rfl,fun _ _ _ _ _ _ _ _ _ _ _ _ _ _ h=>load_any h h14⟩
  have:=hd w
  rwa [if_pos h14]at this
 by_cases h15:i.op=15
 ·refine⟨77,fun w=>?_,fun a b w=>by kernel_rfl,fun _ _ _ _ _ _ _ _ _ _ _ _ _ _ h=>put_any h h15⟩
  have:=hd w
  rwa [if_neg h14,if_pos h15]at this
 by_cases h16:i.op=16
 ·refine⟨78,fun w=>?_,fun a b w=>by kernel_rfl,fun _ _ _ _ _ _ _ _ _ _ _ _ _ _ h=>jump_any h h16⟩
  have:=hd w
  rwa [if_neg h14,if_neg h15,if_pos h16]at this
 by_cases h28:i.op=28
 ·refine⟨79,fun w=>?_,fun a b w=>by kernel_rfl,fun _ _ _ _ _ _ _ _ _ _ _ _ _ _ h=>exit_any h h28⟩
  have:=hd w
  rwa [if_neg h14,if_neg h15,if_neg h16,if_pos h28]at this
 by_cases h13:i.op<=13
 ·refine⟨80,fun w=>?_,fun a b w=>by kernel_rfl,fun _ _ _ _ _ _ _ _ _ _ _ _ _ _ h=>reckon_any h h13⟩
  have:=hd w
  rwa [if_neg h14,if_neg h15,if_neg h16,if_neg h28,if_pos h13]at this
 ·refine⟨81,fun w=>?_,fun a b w=>by kernel_rfl,fun _ _ _ _ _ _ _ _ _ _ _ _ _ _ h=>branch_any h (by omega)⟩
  have:=hd w
  rwa [if_neg h14,if_neg h15,if_neg h16,if_neg h28,if_neg h13]at this
theorem tmps14P(a b c x:Value):(#[a,b,c]++((Array.replicate 11 undef).setIfInBounds 1 x).setIfInBounds 0 x) = #[a,b,c,x,x,undef,undef,undef,undef,undef,undef,undef,undef,undef]:=by
 apply Array.toList_inj.1;simp[List.replicate]
theorem catchPl_idle(T5 R2 R3:Nat)(w:World):CallsD Tryz.prog 25 #[.pointer (some ⟨T5,0,none⟩),.pointer (some ⟨R2,0,none⟩),.pointer (some ⟨R3,0,none⟩)] .returning w fun e u' w'=>e=.returned (.tuple #[])/\u'=.returning/\w'=w:=by
 refine callsD_of_wpS Tryz.func25 rfl fun c₀ cs hu=>?_
 apply wpS_seq;apply wpS_region;simp[wpOpsS,go_sem,recoverD,hu,Tryz.ntmps25,Exit.thenS];refine wpS_of_wp ?_;rw[tmps14P];go_wp2;cases c₀
 simp_all [bodyPostS,results,Tryz.results25]
theorem catchPl_panicking(T5 R2 R3 Wk:Nat)(n k:Int)(vs:List Value)(f0 f1 p0:Value){w0 w:World}{L:List Acc}(hB:Bank w0 w (boxAcc R3 27 [f0,f1]::boxAcc R2 44 [p0]::boxAcc T5 83 [.pointer (some ⟨Wk,0,none⟩)]::boxAcc Wk 89 vs::L))(hk:vs[2]?=some (.int .i64 k)):
  CallsD Tryz.prog 25 #[.pointer (some ⟨T5,0,none⟩),.pointer (some ⟨R2,0,none⟩),.pointer (some ⟨R3,0,none⟩)] (.panicking (eP n)) w fun e u' w'=>e=.returned (.tuple #[])/\u'=.panicking [{ v:=.iface 25 (.int .i64 n),recovered:=true }]/\Bank w0 w' (boxAcc R3 27 [.int .i64 n,.int .i64 k]::boxAcc R2 44 [.slice none 0 0]::boxAcc T5 83 [.pointer (some ⟨Wk,0,none⟩)]::boxAcc Wk 89 vs::L):=by
 have hta:∀w,(Instr.typeAssert (.iface 25 (.int .i64 n)) 20 25 false).run Tryz.prog w=.ok (.int .i64 n) w:=fun _=>by kernel_rfl
 have t5:=hB.cl 2 0;have w2:=hB.cell 3 rfl 2 hk;have BK:=Hd hB.drew;clear hB hk;refine callsD_of_wpS Tryz.func25 rfl fun c₀ cs hu=>?_
 unfold eP at hu;apply wpS_seq;apply wpS_region;simp[wpOpsS,go_sem,recoverD,hu,Tryz.ntmps25,Exit.thenS];refine wpS_of_wp ?_;rw[tmps14P];go_upto_region 2 with fail;refine wp_region_noPanic ?_;refine WL.begin 7 (fun w'=>w'.cell? ⟨T5,0,none⟩=some (.pointer (some ⟨Wk,0,none⟩))/\w'.cell? ⟨Wk,2,none⟩=some (.int .i64 k)) (fun _=>True) (by kernel_rfl) ⟨t5,w2⟩ trivial (fun hs=>?_);generalize w.drew=wz at *;refine WL.tk [(0,[]),(1,[]),(2,[2]),(3,[]),(4,[]),(5,[5]),(6,[])] hs ?_;clear hs
 iterate 7
  (first|refine WLp ?_ ?_ ?_|refine WLl ?_ ?_ ?_);rotate_left
  ·intro w hc;go_simp<;>rfl
  simp only[Act.put,sA,sZ,sS]
 refine TKs.mk ?_;intro hs;refine WLo 7 hs ?_;clear hs;intro K hK;obtain⟨e0,g0⟩:=BK.o.r1 1 rfl;go_simp;have BK:=Hd (BK.o.bs 1 0 (.slice none 0 0));clear e0 g0;refine hK.o _ _ SaF ?_;generalize(wz.setCell ⟨R2,0,none⟩ (.slice none 0 0))=wz at *;clear hK K;intro hs;try simp only[Act.put]
 refine WLo 8 hs ?_;clear hs;intro K hK;obtain⟨e0,e1,g0,g1⟩:=BK.o.r2 0 rfl;go_simp;have BK:=Hd ((BK.o.bs 0 0 (.int .i64 n)).bs 0 1 (.int .i64 k));clear e0 e1 g0 g1;refine hK.o _ _ SaF ?_;generalize((wz.setCell ⟨R3,0,none⟩ (.int .i64 n)).setCell ⟨R3,1,none⟩ (.int .i64 k))=wz at *;clear hK K;intro hs;try simp only[Act.put]
 clear hs;refine WLd ?_ _;try simp only[Exit.then]
 refine NoPanic.normal ?_;clear t5 w2 hta;go_wp2;have hb:=BK.o;cases c₀
 simp_all [bodyPostS,results,Tryz.results25]
end Go.Proofs.YtfeipbgnjainlaaGreatDoor.K
