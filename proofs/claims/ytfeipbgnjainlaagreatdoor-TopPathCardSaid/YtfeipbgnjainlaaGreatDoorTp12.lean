/- TStE -/
import Derived.Test.YtfeipbgnjainlaaGreatDoorTp10
import Derived.Test.YtfeipbgnjainlaaGreatDoorTp4
import Derived.Test.YtfeipbgnjainlaaGreatDoorTp2
set_option linter.unusedVariables false
set_option linter.unusedSimpArgs false
set_option maxRecDepth 100000
set_option maxHeartbeats 4000000
namespace Go.Proofs.YtfeipbgnjainlaaGreatDoor.K
open Go Go.RowKit Go.Maps Go.Sort
def OwnBo(w w':World)(v:Value)(bs:List Bool):Prop:=∃g t,v=.slice (some ⟨g,0,none⟩) 512 512/\Bank w w' [boxAcc g t (bs.map Value.bool)]
def TriedRow(w:World)(bs:List Bool)(n:Int)(e:Ending)(w':World):Prop:=(n=0/\∃v,e=.returned (.tuple #[v,.int .i64 0])/\OwnBo w w' v bs)\/(n≠0/\e=.returned (.tuple #[.slice none 0 0,.int .i64 n])/\Since w w')
theorem catchR_idle(p:Addr)(w:World):
  CallsD Tryz.prog 227 #[.pointer (some p)] .returning w fun e u' w'=>e=.returned (.tuple #[])/\u'=.returning/\w'=w:=by
 refine callsD_of_wpS Tryz.func227 rfl fun c₀ cs hu=>?_
 apply wpS_seq;apply wpS_region;simp[wpOpsS,go_sem,recoverD,hu,Tryz.ntmps227,Exit.thenS];refine wpS_of_wp ?_;rw[tmps14];go_wp2;cases c₀
 simp_all [bodyPostS,results,Tryz.results227]
theorem catchR_panicking(E:Nat)(n y:Int)(w:World)(he:w.cell? ⟨E,0,none⟩=some (.int .i64 y))(hef:w.frozen? ⟨E,0,none⟩=false):
  CallsD Tryz.prog 227 #[.pointer (some ⟨E,0,none⟩)] (.panicking (eP n)) w fun e u' w' =>
   e=.returned (.tuple #[])/\u'=.panicking [{ v:=.iface 25 (.int .i64 n),recovered:=true }]/\w'=w.setCell ⟨E,0,none⟩ (.int .i64 n):=by
 have hta:∀w,(Instr.typeAssert (.iface 25 (.int .i64 n)) 20 25 true).run Tryz.prog w=.ok (.tuple #[.int .i64 n,.bool true]) w:=fun _=>by kernel_rfl
 refine callsD_of_wpS Tryz.func227 rfl fun c₀ cs hu=>?_
 unfold eP at hu;apply wpS_seq;apply wpS_region;simp[wpOpsS,go_sem,recoverD,hu,Tryz.ntmps227,Exit.thenS];refine wpS_of_wp ?_;rw[tmps14];go_wp2;cases c₀
 simp_all [bodyPostS,results,Tryz.results227]
theorem bank_join{w0 w w':World}{L M:List Acc}(h:Bank w0 w L)(h2:Bank w w' M):Bank w0 w' (M++L):=by
 have h1:=h.call h2.since;refine⟨h1.since,fun x hx=>?_,?_⟩
 ·rcases List.mem_append.1 hx with hx|hx
  ·have:=h2.own x hx
   exact row_base this h.since.size
  ·exact h1.own x hx
 ·rw[List.pairwise_append]
  refine⟨h2.sep,h1.sep,fun x hx y hy=>?_⟩;intro b hb hb2;have a1:=(h2.lt hx hb).1;have a2:=(h.lt hy hb2).2;omega
theorem triedSet_any(A B C:Nat)(bs:List Bool)(n:Int)(w:World)(hc:Calls Tryz.prog 166 #[.pointer (some ⟨A,0,none⟩),.pointer (some ⟨B,0,none⟩),.pointer (some ⟨C,0,none⟩)] (w.alloc (.cells #[.int .i64 0] 25)) (CloRow (w.alloc (.cells #[.int .i64 0] 25)) bs n)):
  Calls Tryz.prog 165 #[.func (.func 166) #[] #[.pointer (some ⟨A,0,none⟩),.pointer (some ⟨B,0,none⟩),.pointer (some ⟨C,0,none⟩)]] w (TriedRow w bs n):=by
 have hmf:=hmfT;have BK0:=Hd ((Bank.nil (Below.refl w.heap.size w)).bx [.int .i64 0] 25);have HC:=Hd hc;clear hc
 go_enter_defers Tryz.func165,Tryz.ntmps165
 go_wp2_with fail;generalize hw1:w.alloc (.cells #[.int .i64 0] 25)=w1 at *;clear hw1;refine HC.o.mono ?_;rintro e w2 (⟨rfl,⟨g,rfl,hb⟩⟩|⟨hn,rfl,hs⟩)
 ·have BK2:=Hd (bank_join BK0.o hb)
  obtain⟨c0,f0⟩:=BK2.o.r1 1 rfl;have BK3:=Hd (BK2.o.bs 1 0 (.int .i64 0));clear hb BK0 BK2;go_wp2;refine leaves_cons (f:=227) (args:=#[.pointer (some ⟨w.heap.size,0,none⟩)]) (by simp) (by simp[go_sem]) ?_;refine(catchR_idle _ _).mono ?_;rintro e u' w'' ⟨rfl,rfl,rfl⟩;have r0:=BK3.o.cl 1 0;exact⟨.tuple #[.slice (some ⟨g,0,none⟩) 512 512,.int .i64 0],by simp[results,Tryz.results165,go_sem,r0],.inl ⟨rfl,_,rfl,g,_,rfl,BK3.o.sub (.cons_cons _ (.cons _ .slnil))⟩⟩
 ·have HN:=Hd hn
  have BK2:=Hd (BK0.o.call hs);obtain⟨c0,f0⟩:=BK2.o.r1 0 rfl;have BK3:=Hd (BK2.o.bs 0 0 (.int .i64 n));have HC0:=Hd c0;have HF0:=Hd f0;clear hs BK0 BK2 c0 f0 hn;go_wp2;refine leaves_cons (f:=227) (args:=#[.pointer (some ⟨w.heap.size,0,none⟩)]) (by simp) (by simp[go_sem]) ?_;refine(catchR_panicking w.heap.size _ _ _ HC0.o HF0.o).mono ?_;rintro e u' w'' ⟨rfl,rfl,rfl⟩;have r0:=BK3.o.cl 0 0;exact⟨.tuple #[.slice none 0 0,.int .i64 n],by simp[results,Tryz.results165,go_sem,r0],.inr ⟨HN.o,rfl,BK3.o.since⟩⟩
theorem stkSet_any(b o c:Nat)(at' size:Int)(bs:List Bool)(w:World)(h1 : -9223372036854775808<=at')(h2:at'<9223372036854775808)(hl:bs.length=512)(hc:512<=c)(hr:BoRd w b o bs):
  Calls Tryz.prog 121 #[.slice (some ⟨b,o,none⟩) 512 c,.int .i64 at',.int .i64 size] w (TriedRow w (T.setAll bs (512+at').toNat size.toNat) (T.partErr at' size)):=by
 have hmf:=hmfT;have HR:=Hd hr;have HL:=Hd hl;clear hr hl;have BK0:=bk3 w [.slice (some ⟨b,o,none⟩) 512 c] 85 [.int .i64 at'] 2 [.int .i64 size] 3;go_enter Tryz.func121,Tryz.ntmps121;go_upto_region 1 with fail;generalize w.heap.size=X at *;refine wp_hid BK0 (fun w1 BK0=>?_);have a0:=BK0.o.cl 2 0;have b0:=BK0.o.cl 1 0;have c0:=BK0.o.cl 0 0;have BKE:=Hd (BK0.o.bx [.int .i64 0] 25);have a9:=BKE.o.cl 3 0;have b9:=BKE.o.cl 2 0;have c9:=BKE.o.cl 1 0;have HCL:=Hd (stkSet1_any X (X+1) (X+1+1) b o c at' size bs _ h1 h2 HL.o hc (HR.o.since BKE.o.since) a9 b9 c9);clear a9 b9 c9 BKE;go_wp2_with fail;refine(triedSet_any X (X+1) (X+1+1) _ _ _ HCL.o).mono ?_;rintro e w2 (⟨hz,⟨v,rfl,g,t,rfl,hb⟩⟩|⟨hz,rfl,hs⟩)
 all_goals
  have HZ:=Hd hz;clear hz HCL
 case inl =>
  have BK2:=Hd (bank_join BK0.o hb);clear hb;go_wp2;refine bodyPost_ret (v:=.tuple #[.slice (some ⟨g,0,none⟩) 512 512,.int .i64 0]) ?_ rfl (.inl ⟨HZ.o,_,rfl,g,t,rfl,BK2.o.sub (.cons_cons _ (List.nil_sublist _))⟩);simp[results,Tryz.results121,go_sem]
 case inr =>
  have S2:=Hd (BK0.o.call hs).since;clear hs;go_wp2;refine bodyPost_ret (v:=.tuple #[.slice none 0 0,.int .i64 (T.partErr at' size)]) ?_ rfl (.inr ⟨HZ.o,rfl,S2.o⟩);simp[results,Tryz.results121,go_sem]
theorem run_make512(w:World):(Instr.makeSlice 85 (.int .i64 512) (.int .i64 512)).run Tryz.prog w=.ok (.slice (some ⟨w.heap.size,0,none⟩) 512 512) (w.alloc (.cells ((List.replicate 512 false).map Value.bool).toArray 4)):=by kernel_rfl
theorem stkNew_any(w:World):Calls Tryz.prog 73 #[] w fun e w'=>∃v,e=.returned v/\OwnBo w w' v (List.replicate 512 false):=by
 have hmk:=run_make512 w;have BK:=Hd ((Bank.nil (Below.refl w.heap.size w)).boxL ((List.replicate 512 false).map Value.bool) 4 (by rw[List.length_map,List.length_replicate];decide));obtain⟨l,hl⟩:∃l,(List.replicate 512 false).map Value.bool=l:=⟨_,rfl⟩
 rw[hl]at hmk BK;have HL:=Hd hl;clear hl;go_enter Tryz.func73,Tryz.ntmps73;go_wp2;go_ret;exact⟨_,rfl,_,_,rfl,by rw[HL.o];exact BK.o⟩
end Go.Proofs.YtfeipbgnjainlaaGreatDoor.K
