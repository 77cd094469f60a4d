/- TInB -/
import Derived.Test.YtfeipbgnjainlaaGreatDoorTp10
import Derived.Test.YtfeipbgnjainlaaGreatDoorTp4
import Derived.Test.YtfeipbgnjainlaaGreatDoorTp2
import Derived.Test.YtfeipbgnjainlaaGreatDoorTp9
set_option linter.unusedVariables false
set_option linter.unusedSimpArgs false
set_option maxRecDepth 100000
set_option maxHeartbeats 4000000
namespace Go.Proofs.YtfeipbgnjainlaaGreatDoor.K
open Go Go.RowKit Go.Maps Go.Sort
theorem wp_gen{P:Program}{c:Code}{Q:Exit->Act->World->Prop}{a:Act}{w w0:World}(L:List Acc)(hB:Bank w0 w L)(h:∀w',Bank w0 w' L->c.wp P Q a w'):c.wp P Q a w:=h w hB
theorem right_of(i:T.Ins)(fv:Nat)(b0 b1 b2 b3 b4 b5 b6:Bool)(hf:T.fields i.op=fv)(h0:fv.testBit 0=b0)(h1:fv.testBit 1=b1)(h2:fv.testBit 2=b2)(h3:fv.testBit 3=b3)(h4:fv.testBit 4=b4)(h5:fv.testBit 5=b5)(h6:fv.testBit 6=b6):
  i.right=(decide (fv≠0)&&decide (i.narrow=(b6&&i.narrow)/\i.dst=(if b0||b1 then i.dst else 0)/\i.src=(if b2||b3 && !i.useImm then i.src else 0)/\i.useImm=(b3&&i.useImm)/\i.off=(if b4 then i.off else 0)/\i.imm=(if b3&&i.useImm then i.imm else 0)/\i.size=(if b5 then i.size else 0)) &&
   T.wi i.dst 0 (if b0 then 9 else 10)&&T.wi i.src 0 10&&T.wi i.off (-32768) 32767&&T.wi i.imm (-2147483648) 2147483647&&(!b5||T.sized i.size)):=by
 subst h0 h1 h2 h3 h4 h5 h6
 have e:(i=i.bare)=(i.narrow=(fv.testBit 6&&i.narrow)/\i.dst=(if fv.testBit 0||fv.testBit 1 then i.dst else 0)/\i.src=(if fv.testBit 2||fv.testBit 3 && !i.useImm then i.src else 0)/\i.useImm=(fv.testBit 3&&i.useImm)/\i.off=(if fv.testBit 4 then i.off else 0)/\i.imm=(if fv.testBit 3&&i.useImm then i.imm else 0)/\i.size=(if fv.testBit 5 then i.size else 0)):=by
  obtain⟨op,nr,d,s,u,f,m,z⟩:=i;unfold T.Ins.bare T.fl;simp only at hf;rw[hf,T.Ins.mk.injEq];simp only[true_and]
 unfold T.Ins.right T.fl;rw[hf];simp only[e]
theorem contains4(x:Int)(w:World):Calls Tryz.prog 91 #[.slice (some ⟨w.heap.size,0,none⟩) 4 4,.int .i64 x] (w.alloc (.cells #[.int .i64 1,.int .i64 2,.int .i64 4,.int .i64 8] 3)) fun e w'=>e=.returned (.bool (T.sized x))/\w'=w.alloc (.cells #[.int .i64 1,.int .i64 2,.int .i64 4,.int .i64 8] 3):=by
 refine(Tryz.slices_Contains_int w.heap.size 0 4 4 [1,2,4,8] x _ (by decide) (by decide) (fun j hj=>?_)).mono ?_
 ·rw[Nat.zero_add,World.cell?_alloc_new]
  have hj4:j<4:=hj;have:j=0\/j=1\/j=2\/j=3:=by omega
  rcases this with rfl|rfl|rfl|rfl<;>rfl
 ·rintro e w' ⟨rfl,rfl⟩
  refine⟨?_,rfl⟩;unfold T.sized;simp[Bool.decide_or]
theorem right_f2:(∀(i:T.Ins) (hf:T.fields i.op=201) (hu:i.useImm=false) (w:World),Calls Tryz.prog 50 #[insV i] w (Ret w (.bool i.right))) /\
  (∀(i:T.Ins) (hf:T.fields i.op=218) (hu:i.useImm=false) (w:World),Calls Tryz.prog 50 #[insV i] w (Ret w (.bool i.right))) /\
  (∀(i:T.Ins) (hf:T.fields i.op=186) (hu:i.useImm=false) (w:World),Calls Tryz.prog 50 #[insV i] w (Ret w (.bool i.right))):=by
 refine⟨tg 0 fun k K=>?_,tg 1 fun k K=>?_,tg 2 fun k K=>?_⟩
 all_goals
  intro i hf hu w;have HF:=Hd hf;clear hf;unfold insV insL;rw[hu];have HU:=Hd hu;clear hu;have BK0:=bk1 w [.int .u8 i.op,.bool i.narrow,.int .i64 i.dst,.int .i64 i.src,.bool false,.int .i64 i.off,.int .i64 i.imm,.int .i64 i.size] 55;go_enter Tryz.func50,Tryz.ntmps50;go_upto_region 1 with fail;generalize w.heap.size=X at *;refine wp_hid BK0 (fun w1 BK0=>?_);obtain⟨a0,a1,a2,a3,a4,a5,a6,a7⟩:=BK0.o.q8 0 rfl;go_wp2_with fail;refine(fields_any _ _).mono ?_;rintro e wq ⟨rfl,rfl⟩;rw[HF.o];go_upto_region 3 with fail;refine wp_hid (Hd (BK0.o.bx [.int .u8 i.op,.bool false,.int .i64 0,.int .i64 0,.bool false,.int .i64 0,.int .i64 0,.int .i64 0] 55)) (fun w2 BK1=>?_);generalize wq.heap.size=D at *;clear BK0;clear a0 a1 a2 a3 a4 a5 a6 a7;obtain⟨a0,a1,a2,a3,a4,a5,a6,a7⟩:=BK1.o.q8 1 rfl;obtain⟨b0,b1,b2,b3,b4,b5,b6,b7,fb0,fb1,fb2,fb3,fb4,fb5,fb6,fb7⟩:=BK1.o.r8 0 rfl
  first
   | refine at_ (p:=k=2) K ?_;go_upto_region 18 with fail
   | go_upto_region 19 with fail
  first
   | refine at_ (p:=k=0) K ?_;refine wp_gen _ (by first|exact(((BK1.o.bs 0 2 (.int .i64 i.dst)).bs 0 3 (.int .i64 i.src)).bs 0 1 (.bool i.narrow))|exact(((BK1.o.bs 0 2 (.int .i64 i.dst)).bs 0 3 (.int .i64 i.src)).bs 0 1 (.bool i.narrow)).drew) (fun w3 hz=>?_)
   | refine at_ (p:=k=1) K ?_;refine wp_gen _ (by first|exact((((BK1.o.bs 0 2 (.int .i64 i.dst)).bs 0 3 (.int .i64 i.src)).bs 0 5 (.int .i64 i.off)).bs 0 1 (.bool i.narrow))|exact((((BK1.o.bs 0 2 (.int .i64 i.dst)).bs 0 3 (.int .i64 i.src)).bs 0 5 (.int .i64 i.off)).bs 0 1 (.bool i.narrow)).drew) (fun w3 hz=>?_)
   | refine at_ (p:=k=2) K ?_;refine wp_gen _ (by first|exact((((BK1.o.bs 0 2 (.int .i64 i.dst)).bs 0 3 (.int .i64 i.src)).bs 0 5 (.int .i64 i.off)).bs 0 7 (.int .i64 i.size))|exact((((BK1.o.bs 0 2 (.int .i64 i.dst)).bs 0 3 (.int .i64 i.src)).bs 0 5 (.int .i64 i.off)).bs 0 7 (.int .i64 i.size)).drew) (fun w3 hz=>?_)
  have BK2:=Hd hz;clear a0 a1 a2 a3 a4 a5 a6 a7 b0 b1 b2 b3 b4 b5 b6 b7 fb0 fb1 fb2 fb3 fb4 fb5 fb6 fb7;clear hz;obtain⟨a0,a1,a2,a3,a4,a5,a6,a7⟩:=BK2.o.q8 1 rfl;obtain⟨b0,b1,b2,b3,b4,b5,b6,b7,fb0,fb1,fb2,fb3,fb4,fb5,fb6,fb7⟩:=BK2.o.r8 0 rfl
  first
   | refine at_ (p:=k=2) K ?_;have z7:=cell_old (.cells #[.int .i64 1,.int .i64 2,.int .i64 4,.int .i64 8] 3) a7
   | go_wp2_with (go_at_call 92;refine(within_any _ _ _ _).mono ?_;rintro e wq ⟨rfl,rfl⟩)
  first
   | refine at_ (p:=k=2) K ?_;go_wp2_with (first|(go_at_call 91;refine(contains4 _ _).mono ?_;rintro e wq ⟨rfl,rfl⟩;have hc4:=BK2.o.bx [.int .i64 1,.int .i64 2,.int .i64 4,.int .i64 8] 3;have a0:=hc4.cl 2 0;have b0:=hc4.cl 1 0;have a1:=hc4.cl 2 1;have b1:=hc4.cl 1 1;have a2:=hc4.cl 2 2;have b2:=hc4.cl 1 2;have a3:=hc4.cl 2 3;have b3:=hc4.cl 1 3;have a4:=hc4.cl 2 4;have b4:=hc4.cl 1 4;have a5:=hc4.cl 2 5;have b5:=hc4.cl 1 5;have a6:=hc4.cl 2 6;have b6:=hc4.cl 1 6;have a7:=hc4.cl 2 7;have b7:=hc4.cl 1 7)|(go_at_call 92;refine(within_any _ _ _ _).mono ?_;rintro e wq ⟨rfl,rfl⟩))
   | skip
  all_goals
   go_ret;refine⟨?_,by first|exact BK2.o.since|exact BK2.o.since.alloc _⟩
   first
    | refine at_ (p:=k=0) K ?_;rw[right_of i 201 true false false true false false true HF.o (by decide) (by decide) (by decide) (by decide) (by decide) (by decide) (by decide)]
    | refine at_ (p:=k=1) K ?_;rw[right_of i 218 false true false true true false true HF.o (by decide) (by decide) (by decide) (by decide) (by decide) (by decide) (by decide)]
    | refine at_ (p:=k=2) K ?_;rw[right_of i 186 false true false true true true false HF.o (by decide) (by decide) (by decide) (by decide) (by decide) (by decide) (by decide)]
   have hu:=HU.o
   simp_all
theorem right_alu0(i:T.Ins)(hf:T.fields i.op=201)(hu:i.useImm=false)(w:World):Calls Tryz.prog 50 #[insV i] w (Ret w (.bool i.right)):=right_f2.1 i hf hu w
theorem right_ask0(i:T.Ins)(hf:T.fields i.op=218)(hu:i.useImm=false)(w:World):Calls Tryz.prog 50 #[insV i] w (Ret w (.bool i.right)):=right_f2.2.1 i hf hu w
theorem right_put0(i:T.Ins)(hf:T.fields i.op=186)(hu:i.useImm=false)(w:World):Calls Tryz.prog 50 #[insV i] w (Ret w (.bool i.right)):=right_f2.2.2 i hf hu w
theorem right_f3:(∀(i:T.Ins) (hf:T.fields i.op=201) (hu:i.useImm=true) (w:World),Calls Tryz.prog 50 #[insV i] w (Ret w (.bool i.right))) /\
  (∀(i:T.Ins) (hf:T.fields i.op=218) (hu:i.useImm=true) (w:World),Calls Tryz.prog 50 #[insV i] w (Ret w (.bool i.right))) /\
  (∀(i:T.Ins) (hf:T.fields i.op=186) (hu:i.useImm=true) (w:World),Calls Tryz.prog 50 #[insV i] w (Ret w (.bool i.right))):=by
 refine⟨tg 0 fun k K=>?_,tg 1 fun k K=>?_,tg 2 fun k K=>?_⟩
 all_goals
  intro i hf hu w;have HF:=Hd hf;clear hf;unfold insV insL;rw[hu];have HU:=Hd hu;clear hu;have BK0:=bk1 w [.int .u8 i.op,.bool i.narrow,.int .i64 i.dst,.int .i64 i.src,.bool true,.int .i64 i.off,.int .i64 i.imm,.int .i64 i.size] 55;go_enter Tryz.func50,Tryz.ntmps50;go_upto_region 1 with fail;generalize w.heap.size=X at *;refine wp_hid BK0 (fun w1 BK0=>?_);obtain⟨a0,a1,a2,a3,a4,a5,a6,a7⟩:=BK0.o.q8 0 rfl;go_wp2_with fail;refine(fields_any _ _).mono ?_;rintro e wq ⟨rfl,rfl⟩;rw[HF.o];go_upto_region 3 with fail;refine wp_hid (Hd (BK0.o.bx [.int .u8 i.op,.bool false,.int .i64 0,.int .i64 0,.bool false,.int .i64 0,.int .i64 0,.int .i64 0] 55)) (fun w2 BK1=>?_);generalize wq.heap.size=D at *;clear BK0;clear a0 a1 a2 a3 a4 a5 a6 a7;obtain⟨a0,a1,a2,a3,a4,a5,a6,a7⟩:=BK1.o.q8 1 rfl;obtain⟨b0,b1,b2,b3,b4,b5,b6,b7,fb0,fb1,fb2,fb3,fb4,fb5,fb6,fb7⟩:=BK1.o.r8 0 rfl;go_upto_region 8 with fail;refine wp_gen _ (by first|exact(BK1.o.bs 0 2 (.int .i64 i.dst))|exact(BK1.o.bs 0 2 (.int .i64 i.dst)).drew) (fun w3 hz=>?_);have BK2:=Hd hz;clear a0 a1 a2 a3 a4 a5 a6 a7 b0 b1 b2 b3 b4 b5 b6 b7 fb0 fb1 fb2 fb3 fb4 fb5 fb6 fb7;clear hz;obtain⟨a0,a1,a2,a3,a4,a5,a6,a7⟩:=BK2.o.q8 1 rfl;obtain⟨b0,b1,b2,b3,b4,b5,b6,b7,fb0,fb1,fb2,fb3,fb4,fb5,fb6,fb7⟩:=BK2.o.r8 0 rfl;have k4:=(BK2.o.drew.bs 0 4 (.bool true)).cl 1 6;have k6:=(BK2.o.drew.bs 0 6 (.int .i64 i.imm)).cl 1 6;have k46:=((BK2.o.drew.bs 0 4 (.bool true)).bs 0 6 (.int .i64 i.imm)).cl 1 6;have k64:=((BK2.o.drew.bs 0 6 (.int .i64 i.imm)).bs 0 4 (.bool true)).cl 1 6;refine wp_region_held_drew (S:=fun w'=>w'.cell? ⟨X,6,none⟩=some (.int .i64 i.imm)) (by kernel_rfl) (cell_drew a6) (fun hHeld=>?_);refine wpAnyH_take (i:=0) (v:=.pointer (some ⟨X,6,none⟩)) rfl (by kernel_rfl) (by kernel_rfl) (by kernel_rfl) (fun _ _ _ h=>h) (Or.inl ⟨by rfl,?_⟩) (by assumption) ?_
  ·intro w hSw
   obtain s1:=hSw;go_simp
  (try simp only[Act.put,sA,sZ,sS])
  refine wpAnyH_take (i:=1) (v:=.int .i64 i.imm) rfl (by kernel_rfl) (by kernel_rfl) (by kernel_rfl) (fun _ _ _ h=>h) (Or.inl ⟨by rfl,?_⟩) (by assumption) ?_
  ·intro w hSw
   obtain s1:=hSw;go_simp
  (try simp only[Act.put,sA,sZ,sS])
  refine wpAnyH_take (i:=2) (v:=.pointer (some ⟨D,4,none⟩)) rfl (by kernel_rfl) (by kernel_rfl) (by kernel_rfl) (fun _ _ _ h=>h) (Or.inl ⟨by rfl,?_⟩) (by assumption) ?_
  ·intro w hSw
   obtain s1:=hSw;go_simp
  (try simp only[Act.put,sA,sZ,sS])
  refine wpAnyH_ready (rs:=[3]) (by kernel_rfl) (by simp) ?_;refine AllReadyH.cons rfl (fun K hK=>?_) AllReadyH.nil;go_simp;refine hK.o _ _ (by first|exact k4|exact k6|exact k46|exact k64) (fun hHeld=>?_);clear hK K
  (try simp only[Act.put,sA,sZ,sS])
  refine wpAnyH_take (i:=4) (v:=.pointer (some ⟨D,6,none⟩)) rfl (by kernel_rfl) (by kernel_rfl) (by kernel_rfl) (fun _ _ _ h=>h) (Or.inl ⟨by rfl,?_⟩) (by assumption) ?_
  ·intro w hSw
   obtain s1:=hSw;go_simp
  (try simp only[Act.put,sA,sZ,sS])
  refine wpAnyH_ready (rs:=[5]) (by kernel_rfl) (by simp) ?_;refine AllReadyH.cons rfl (fun K hK=>?_) AllReadyH.nil;go_simp;refine hK.o _ _ (by first|exact k4|exact k6|exact k46|exact k64) (fun hHeld=>?_);clear hK K
  (try simp only[Act.put,sA,sZ,sS])
  refine wpAnyH_done (by kernel_rfl) ?_ _;clear k4 k6 k46 k64 hHeld;go_upto_region 9 with fail;refine wp_gen _ (by first|exact((BK2.o.bs 0 4 (.bool true)).bs 0 6 (.int .i64 i.imm))|exact((BK2.o.bs 0 6 (.int .i64 i.imm)).bs 0 4 (.bool true))|exact((BK2.o.bs 0 4 (.bool true)).bs 0 6 (.int .i64 i.imm)).drew|exact((BK2.o.bs 0 6 (.int .i64 i.imm)).bs 0 4 (.bool true)).drew) (fun w4 hz=>?_);have BK3:=Hd hz;clear a0 a1 a2 a3 a4 a5 a6 a7 b0 b1 b2 b3 b4 b5 b6 b7 fb0 fb1 fb2 fb3 fb4 fb5 fb6 fb7;clear hz;obtain⟨a0,a1,a2,a3,a4,a5,a6,a7⟩:=BK3.o.q8 1 rfl;obtain⟨b0,b1,b2,b3,b4,b5,b6,b7,fb0,fb1,fb2,fb3,fb4,fb5,fb6,fb7⟩:=BK3.o.r8 0 rfl
  first
   | refine at_ (p:=k=2) K ?_;go_upto_region 18 with fail
   | go_upto_region 19 with fail
  first
   | refine at_ (p:=k=0) K ?_;refine wp_gen _ (by first|exact(BK3.o.bs 0 1 (.bool i.narrow))|exact(BK3.o.bs 0 1 (.bool i.narrow)).drew) (fun w5 hz=>?_)
   | refine at_ (p:=k=1) K ?_;refine wp_gen _ (by first|exact((BK3.o.bs 0 5 (.int .i64 i.off)).bs 0 1 (.bool i.narrow))|exact((BK3.o.bs 0 5 (.int .i64 i.off)).bs 0 1 (.bool i.narrow)).drew) (fun w5 hz=>?_)
   | refine at_ (p:=k=2) K ?_;refine wp_gen _ (by first|exact((BK3.o.bs 0 5 (.int .i64 i.off)).bs 0 7 (.int .i64 i.size))|exact((BK3.o.bs 0 5 (.int .i64 i.off)).bs 0 7 (.int .i64 i.size)).drew) (fun w5 hz=>?_)
  have BK4:=Hd hz;clear a0 a1 a2 a3 a4 a5 a6 a7 b0 b1 b2 b3 b4 b5 b6 b7 fb0 fb1 fb2 fb3 fb4 fb5 fb6 fb7;clear hz;obtain⟨a0,a1,a2,a3,a4,a5,a6,a7⟩:=BK4.o.q8 1 rfl;obtain⟨b0,b1,b2,b3,b4,b5,b6,b7,fb0,fb1,fb2,fb3,fb4,fb5,fb6,fb7⟩:=BK4.o.r8 0 rfl
  first
   | refine at_ (p:=k=2) K ?_;have z7:=cell_old (.cells #[.int .i64 1,.int .i64 2,.int .i64 4,.int .i64 8] 3) a7
   | go_wp2_with (go_at_call 92;refine(within_any _ _ _ _).mono ?_;rintro e wq ⟨rfl,rfl⟩)
  first
   | refine at_ (p:=k=2) K ?_;go_wp2_with (first|(go_at_call 91;refine(contains4 _ _).mono ?_;rintro e wq ⟨rfl,rfl⟩;have hc4:=BK4.o.bx [.int .i64 1,.int .i64 2,.int .i64 4,.int .i64 8] 3;have a0:=hc4.cl 2 0;have b0:=hc4.cl 1 0;have a1:=hc4.cl 2 1;have b1:=hc4.cl 1 1;have a2:=hc4.cl 2 2;have b2:=hc4.cl 1 2;have a3:=hc4.cl 2 3;have b3:=hc4.cl 1 3;have a4:=hc4.cl 2 4;have b4:=hc4.cl 1 4;have a5:=hc4.cl 2 5;have b5:=hc4.cl 1 5;have a6:=hc4.cl 2 6;have b6:=hc4.cl 1 6;have a7:=hc4.cl 2 7;have b7:=hc4.cl 1 7)|(go_at_call 92;refine(within_any _ _ _ _).mono ?_;rintro e wq ⟨rfl,rfl⟩))
   | skip
  all_goals
   go_ret;refine⟨?_,by first|exact BK4.o.since|exact BK4.o.since.alloc _⟩
   first
    | refine at_ (p:=k=0) K ?_;rw[right_of i 201 true false false true false false true HF.o (by decide) (by decide) (by decide) (by decide) (by decide) (by decide) (by decide)]
    | refine at_ (p:=k=1) K ?_;rw[right_of i 218 false true false true true false true HF.o (by decide) (by decide) (by decide) (by decide) (by decide) (by decide) (by decide)]
    | refine at_ (p:=k=2) K ?_;rw[right_of i 186 false true false true true true false HF.o (by decide) (by decide) (by decide) (by decide) (by decide) (by decide) (by decide)]
   have hu:=HU.o
   simp_all
theorem right_alu1(i:T.Ins)(hf:T.fields i.op=201)(hu:i.useImm=true)(w:World):Calls Tryz.prog 50 #[insV i] w (Ret w (.bool i.right)):=right_f3.1 i hf hu w
theorem right_ask1(i:T.Ins)(hf:T.fields i.op=218)(hu:i.useImm=true)(w:World):Calls Tryz.prog 50 #[insV i] w (Ret w (.bool i.right)):=right_f3.2.1 i hf hu w
theorem right_put1(i:T.Ins)(hf:T.fields i.op=186)(hu:i.useImm=true)(w:World):Calls Tryz.prog 50 #[insV i] w (Ret w (.bool i.right)):=right_f3.2.2 i hf hu w
theorem right_f1:(∀(i:T.Ins) (hf:T.fields i.op=193) (w:World),Calls Tryz.prog 50 #[insV i] w (Ret w (.bool i.right))) /\
  (∀(i:T.Ins) (hf:T.fields i.op=144) (w:World),Calls Tryz.prog 50 #[insV i] w (Ret w (.bool i.right))) /\
  (∀(i:T.Ins) (hf:T.fields i.op=128) (w:World),Calls Tryz.prog 50 #[insV i] w (Ret w (.bool i.right))) /\
  (∀(i:T.Ins) (hf:T.fields i.op=181) (w:World),Calls Tryz.prog 50 #[insV i] w (Ret w (.bool i.right))) /\
  (∀(i:T.Ins) (hf:T.fields i.op=0) (w:World),Calls Tryz.prog 50 #[insV i] w (Ret w (.bool i.right))):=by
 refine⟨tg 0 fun k K=>?_,tg 1 fun k K=>?_,tg 2 fun k K=>?_,tg 3 fun k K=>?_,tg 4 fun k K=>?_⟩
 all_goals
  intro i hf w;have HF:=Hd hf;clear hf;unfold insV insL;have BK0:=bk1 w [.int .u8 i.op,.bool i.narrow,.int .i64 i.dst,.int .i64 i.src,.bool i.useImm,.int .i64 i.off,.int .i64 i.imm,.int .i64 i.size] 55;go_enter Tryz.func50,Tryz.ntmps50;go_upto_region 1 with fail;generalize w.heap.size=X at *;refine wp_hid BK0 (fun w1 BK0=>?_);obtain⟨a0,a1,a2,a3,a4,a5,a6,a7⟩:=BK0.o.q8 0 rfl;go_wp2_with fail;refine(fields_any _ _).mono ?_;rintro e wq ⟨rfl,rfl⟩;rw[HF.o];go_upto_region 3 with fail;refine wp_hid (Hd (BK0.o.bx [.int .u8 i.op,.bool false,.int .i64 0,.int .i64 0,.bool false,.int .i64 0,.int .i64 0,.int .i64 0] 55)) (fun w2 BK1=>?_);generalize wq.heap.size=D at *;clear BK0;clear a0 a1 a2 a3 a4 a5 a6 a7;obtain⟨a0,a1,a2,a3,a4,a5,a6,a7⟩:=BK1.o.q8 1 rfl;obtain⟨b0,b1,b2,b3,b4,b5,b6,b7,fb0,fb1,fb2,fb3,fb4,fb5,fb6,fb7⟩:=BK1.o.r8 0 rfl
  first
   | refine at_ (p:=k=3) K ?_;go_upto_region 18 with fail
   | refine at_ (p:=k=0) K ?_;go_upto_region 19 with fail
   | refine at_ (p:=k=1) K ?_;go_upto_region 19 with fail
   | skip
  first
   | refine at_ (p:=k=0) K ?_;refine wp_gen _ (by first|exact((BK1.o.bs 0 2 (.int .i64 i.dst)).bs 0 1 (.bool i.narrow))|exact((BK1.o.bs 0 2 (.int .i64 i.dst)).bs 0 1 (.bool i.narrow)).drew) (fun w3 hz=>?_)
   | refine at_ (p:=k=1) K ?_;refine wp_gen _ (by first|exact(BK1.o.bs 0 5 (.int .i64 i.off))|exact(BK1.o.bs 0 5 (.int .i64 i.off)).drew) (fun w3 hz=>?_)
   | refine at_ (p:=k=3) K ?_;refine wp_gen _ (by first|exact((((BK1.o.bs 0 2 (.int .i64 i.dst)).bs 0 3 (.int .i64 i.src)).bs 0 5 (.int .i64 i.off)).bs 0 7 (.int .i64 i.size))|exact((((BK1.o.bs 0 2 (.int .i64 i.dst)).bs 0 3 (.int .i64 i.src)).bs 0 5 (.int .i64 i.off)).bs 0 7 (.int .i64 i.size)).drew) (fun w3 hz=>?_)
   | skip
  first
   | refine at_ (p:=k=2) K ?_;skip
   | refine at_ (p:=k=4) K ?_;skip
   | have BK2:=Hd hz
  first
   | refine at_ (p:=k=2) K ?_;skip
   | refine at_ (p:=k=4) K ?_;skip
   | clear a0 a1 a2 a3 a4 a5 a6 a7 b0 b1 b2 b3 b4 b5 b6 b7 fb0 fb1 fb2 fb3 fb4 fb5 fb6 fb7
  first
   | refine at_ (p:=k=2) K ?_;skip
   | refine at_ (p:=k=4) K ?_;skip
   | clear hz
  first
   | refine at_ (p:=k=2) K ?_;skip
   | refine at_ (p:=k=4) K ?_;skip
   | obtain⟨a0,a1,a2,a3,a4,a5,a6,a7⟩:=BK2.o.q8 1 rfl
  first
   | refine at_ (p:=k=2) K ?_;skip
   | refine at_ (p:=k=4) K ?_;skip
   | obtain⟨b0,b1,b2,b3,b4,b5,b6,b7,fb0,fb1,fb2,fb3,fb4,fb5,fb6,fb7⟩:=BK2.o.r8 0 rfl
  first
   | refine at_ (p:=k=3) K ?_;have z7:=cell_old (.cells #[.int .i64 1,.int .i64 2,.int .i64 4,.int .i64 8] 3) a7
   | go_wp2_with (go_at_call 92;refine(within_any _ _ _ _).mono ?_;rintro e wq ⟨rfl,rfl⟩)
  first
   | refine at_ (p:=k=3) K ?_;go_wp2_with (first|(go_at_call 91;refine(contains4 _ _).mono ?_;rintro e wq ⟨rfl,rfl⟩;have hc4:=BK2.o.bx [.int .i64 1,.int .i64 2,.int .i64 4,.int .i64 8] 3;have a0:=hc4.cl 2 0;have b0:=hc4.cl 1 0;have a1:=hc4.cl 2 1;have b1:=hc4.cl 1 1;have a2:=hc4.cl 2 2;have b2:=hc4.cl 1 2;have a3:=hc4.cl 2 3;have b3:=hc4.cl 1 3;have a4:=hc4.cl 2 4;have b4:=hc4.cl 1 4;have a5:=hc4.cl 2 5;have b5:=hc4.cl 1 5;have a6:=hc4.cl 2 6;have b6:=hc4.cl 1 6;have a7:=hc4.cl 2 7;have b7:=hc4.cl 1 7)|(go_at_call 92;refine(within_any _ _ _ _).mono ?_;rintro e wq ⟨rfl,rfl⟩))
   | skip
  all_goals
   go_ret
   first
    | refine at_ (p:=k=2) K ?_;refine⟨?_,by first|exact BK1.o.since|exact BK1.o.since.alloc _⟩
    | refine at_ (p:=k=4) K ?_;refine⟨?_,by first|exact BK1.o.since|exact BK1.o.since.alloc _⟩
    | refine⟨?_,by first|exact BK2.o.since|exact BK2.o.since.alloc _⟩
   first
    | refine at_ (p:=k=0) K ?_;rw[right_of i 193 true false false false false false true HF.o (by decide) (by decide) (by decide) (by decide) (by decide) (by decide) (by decide)]
    | refine at_ (p:=k=1) K ?_;rw[right_of i 144 false false false false true false false HF.o (by decide) (by decide) (by decide) (by decide) (by decide) (by decide) (by decide)]
    | refine at_ (p:=k=2) K ?_;rw[right_of i 128 false false false false false false false HF.o (by decide) (by decide) (by decide) (by decide) (by decide) (by decide) (by decide)]
    | refine at_ (p:=k=3) K ?_;rw[right_of i 181 true false true false true true false HF.o (by decide) (by decide) (by decide) (by decide) (by decide) (by decide) (by decide)]
    | refine at_ (p:=k=4) K ?_;rw[right_of i 0 false false false false false false false HF.o (by decide) (by decide) (by decide) (by decide) (by decide) (by decide) (by decide)]
   simp_all
theorem right_neg(i:T.Ins)(hf:T.fields i.op=193)(w:World):Calls Tryz.prog 50 #[insV i] w (Ret w (.bool i.right)):=right_f1.1 i hf w
theorem right_jump(i:T.Ins)(hf:T.fields i.op=144)(w:World):Calls Tryz.prog 50 #[insV i] w (Ret w (.bool i.right)):=right_f1.2.1 i hf w
theorem right_exit(i:T.Ins)(hf:T.fields i.op=128)(w:World):Calls Tryz.prog 50 #[insV i] w (Ret w (.bool i.right)):=right_f1.2.2.1 i hf w
theorem right_load(i:T.Ins)(hf:T.fields i.op=181)(w:World):Calls Tryz.prog 50 #[insV i] w (Ret w (.bool i.right)):=right_f1.2.2.2.1 i hf w
theorem right_none(i:T.Ins)(hf:T.fields i.op=0)(w:World):Calls Tryz.prog 50 #[insV i] w (Ret w (.bool i.right)):=right_f1.2.2.2.2 i hf w
theorem insRight_any(i:T.Ins)(w:World):Calls Tryz.prog 50 #[insV i] w (Ret w (.bool i.right)):=by
 have h:T.fields i.op=201\/T.fields i.op=193\/T.fields i.op=181\/T.fields i.op=186\/T.fields i.op=144\/T.fields i.op=218\/T.fields i.op=128\/T.fields i.op=0:=by
  unfold T.fields
  (repeat' split)<;>simp
 rcases h with h|h|h|h|h|h|h|h
 ·cases hu:i.useImm
  ·exact right_alu0 i h hu w
  ·exact right_alu1 i h hu w
 ·exact right_neg i h w
 ·exact right_load i h w
 ·cases hu:i.useImm
  ·exact right_put0 i h hu w
  ·exact right_put1 i h hu w
 ·exact right_jump i h w
 ·cases hu:i.useImm
  ·exact right_ask0 i h hu w
  ·exact right_ask1 i h hu w
 ·exact right_exit i h w
 ·exact right_none i h w
end Go.Proofs.YtfeipbgnjainlaaGreatDoor.K
