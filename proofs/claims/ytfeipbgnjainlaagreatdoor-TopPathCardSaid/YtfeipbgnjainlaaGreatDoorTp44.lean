/- TIrA -/
import Derived.Test.YtfeipbgnjainlaaGreatDoorTp10
import Derived.Test.YtfeipbgnjainlaaGreatDoorTp2
import Derived.Test.YtfeipbgnjainlaaGreatDoorTp4
import Derived.Test.YtfeipbgnjainlaaGreatDoorTp43
set_option linter.unusedVariables false
set_option linter.unusedSimpArgs false
set_option maxRecDepth 100000
set_option maxHeartbeats 4000000
namespace Go.Proofs.YtfeipbgnjainlaaGreatDoor.K
open Go Go.RowKit Go.Maps Go.Sort
def FlRd(w:World)(b o:Nat)(l:List T.Fl):Prop:=∀(j:Nat) (f:T.Fl),l[j]?=some f->∀(k:Nat) (v:Value),(flL f)[k]?=some v->w.cell? ⟨b,o+j*9+k,none⟩=some v
theorem FlRd.since{w w':World}{b o:Nat}{l:List T.Fl}(h:FlRd w b o l)(hs:Since w w'):FlRd w' b o l:=fun j i hi k v hv=>hs.keep (h j i hi k v hv)
theorem fl_eql(f:T.Fl)(w:World):(binOp .eql 58 (.agg #[.int .u8 f.do',.int .u8 f.what,.bool f.narrow,.int .i64 f.d,.int .i64 f.a,.int .i64 f.b,W64 f.n,.int .i64 f.size,.int .i64 f.to]) (.agg #[.int .u8 f.do',.int .u8 f.what,.bool f.narrow,.int .i64 f.d,.int .i64 f.a,.int .i64 f.b,W64 f.n,.int .i64 f.size,.int .i64 f.to])).run Tryz.prog w=.ok (.bool true) w:=by
 simp only[W64];simp[go_sem]
theorem irRegs_ok(A:Option Addr)(n c:Nat)(rs:List Int)(w:World)(hl:rs.length=n)(hn:n<=100)
  (hA:∀(j:Nat) (r:Int),rs[j]?=some r->∃b o,A=some ⟨b,o,none⟩/\w.cell? ⟨b,o+j,none⟩=some (.int .i64 r)) (hr:∀r∈rs,T.reg16 r) :
  Calls Tryz.prog 159 #[.slice A n c] w fun e w'=>e=.returned (.bool true)/\w'=w:=by
 have HL:=Hd hl;have HA:=Hd hA;have HR:=Hd hr;clear hl hA hr;go_enter Tryz.func159,Tryz.ntmps159;go_wp2;go_loopw [4,7] (fun v i wr=>∃j:Nat,j<=n/\i=.int .i64 (j:Int)/\wr=w) (fun _ i _=>n-(intOf i).toNat)
 case atStart=>exact⟨0,Nat.zero_le _,rfl,rfl⟩
 case round =>
  obtain⟨j,hj,rfl,rfl⟩:=hrel;have j0:(0:Int)<=(j:Int):=by omega
  by_cases hlt:j<n
  ·have i1:(j:Int)<(n:Int):=by omega
   obtain⟨r,hr⟩:∃r,rs[j]?=some r:=⟨_,List.getElem?_eq_getElem (by have:=HL.o;omega)⟩
   obtain⟨b,o,rfl,hc⟩:=HA.o j r hr;obtain⟨r1,r2⟩:=HR.o r (List.mem_of_getElem? hr);have k1:¬r<0:=by omega
   have k2:¬(15:Int)<r:=by omega
   clear hr;go_wp2;go_round
   case rel=>exact⟨j+1,by omega,by go_num,by first|rfl|trivial⟩
   case measure=>simp[intOf];omega
  ·have i1:¬(j:Int)<(n:Int):=by omega
   go_wp2;go_ret;exact⟨rfl,by first|rfl|trivial⟩
theorem irBare_ok(k wh d a b size tt at_ many:Int)(nr:Bool)(n:T.U)(w:World):Calls Tryz.prog 158 #[.agg #[.int .u8 k,.int .u8 wh,.bool nr,.int .i64 d,.int .i64 a,.int .i64 b,W64 n,.int .i64 size,.int .i64 tt,.int .i64 at_,.int .i64 many]] w (Ret w (.agg #[.int .u8 k,.int .u8 0,.bool false,.int .i64 0,.int .i64 0,.int .i64 0,W64 0#64,.int .i64 0,.int .i64 0])):=by
 have BK0:=bk2 w [.int .u8 k,.int .u8 wh,.bool nr,.int .i64 d,.int .i64 a,.int .i64 b,W64 n,.int .i64 size,.int .i64 tt,.int .i64 at_,.int .i64 many] 118 [.int .u8 0,.int .u8 0,.bool false,.int .i64 0,.int .i64 0,.int .i64 0,W64 0#64,.int .i64 0,.int .i64 0] 58;go_enter Tryz.func158,Tryz.ntmps158;go_upto_region 1 with fail;generalize w.heap.size=X at *;refine wp_hid BK0 (fun w1 BK0=>?_);have x0:=BK0.o.cl 1 0;obtain⟨y0,fy0⟩:=BK0.o.r1 0 rfl;have y1:=BK0.o.cl 0 1;have fy1:=BK0.o.free 0 rfl 1;have y2:=BK0.o.cl 0 2;have fy2:=BK0.o.free 0 rfl 2;have y3:=BK0.o.cl 0 3;have fy3:=BK0.o.free 0 rfl 3;have y4:=BK0.o.cl 0 4;have fy4:=BK0.o.free 0 rfl 4;have y5:=BK0.o.cl 0 5;have fy5:=BK0.o.free 0 rfl 5;have y6:=BK0.o.cl 0 6;have fy6:=BK0.o.free 0 rfl 6;have y7:=BK0.o.cl 0 7;have fy7:=BK0.o.free 0 rfl 7;have y8:=BK0.o.cl 0 8;have fy8:=BK0.o.free 0 rfl 8;have BK1:=Hd ((((((((((BK0.o.bs 0 0 (.int .u8 k)).bs 0 1 (.int .u8 0)).bs 0 2 (.bool false)).bs 0 3 (.int .i64 0)).bs 0 4 (.int .i64 0)).bs 0 5 (.int .i64 0)).bs 0 6 (W64 0#64)).bs 0 7 (.int .i64 0)).bs 0 8 (.int .i64 0)));go_wp2;clear y0 y1 y2 y3 y4 y5 y6 y7 y8;obtain⟨y0,y1,y2,y3,y4,y5,y6,y7,y8⟩:=BK1.o.q9 0 rfl;refine bodyPost_ret (v:=.agg #[.int .u8 k,.int .u8 0,.bool false,.int .i64 0,.int .i64 0,.int .i64 0,W64 0#64,.int .i64 0,.int .i64 0]) ?_ rfl ⟨rfl,BK1.o.since⟩;simp[results,Tryz.results158,go_sem,y0,y1,y2,y3,y4,y5,y6,y7,y8]
theorem irSized_ok(k wh d a b size tt at_ many:Int)(nr:Bool)(n:T.U)(w:World)(hs:T.sized size=true):Calls Tryz.prog 160 #[.agg #[.int .u8 k,.int .u8 wh,.bool nr,.int .i64 d,.int .i64 a,.int .i64 b,W64 n,.int .i64 size,.int .i64 tt,.int .i64 at_,.int .i64 many]] w (Ret w (.bool true)):=by
 have hc:=T.sized_cases hs;clear hs;have BK0:=bk1 w [.int .u8 k,.int .u8 wh,.bool nr,.int .i64 d,.int .i64 a,.int .i64 b,W64 n,.int .i64 size,.int .i64 tt,.int .i64 at_,.int .i64 many] 118;go_enter Tryz.func160,Tryz.ntmps160;go_upto_region 1 with fail;generalize w.heap.size=X at *;refine wp_hid BK0 (fun w1 BK0=>?_);have x7:=BK0.o.cl 0 7;rcases hc with rfl|rfl|rfl|rfl
 all_goals
  go_wp2;go_ret;exact⟨rfl,BK0.o.since⟩
theorem irFar_ok(k wh d a b size tt at_ many:Int)(nr:Bool)(n:T.U)(w:World)(h1:at_<tt)(h2:tt<many):Calls Tryz.prog 161 #[.agg #[.int .u8 k,.int .u8 wh,.bool nr,.int .i64 d,.int .i64 a,.int .i64 b,W64 n,.int .i64 size,.int .i64 tt,.int .i64 at_,.int .i64 many]] w (Ret w (.bool true)):=by
 have BK0:=bk1 w [.int .u8 k,.int .u8 wh,.bool nr,.int .i64 d,.int .i64 a,.int .i64 b,W64 n,.int .i64 size,.int .i64 tt,.int .i64 at_,.int .i64 many] 118;go_enter Tryz.func161,Tryz.ntmps161;go_upto_region 1 with fail;generalize w.heap.size=X at *;refine wp_hid BK0 (fun w1 BK0=>?_);have x8:=BK0.o.cl 0 8;have x9:=BK0.o.cl 0 9;have x10:=BK0.o.cl 0 10;go_wp2;go_ret;exact⟨rfl,BK0.o.since⟩
theorem irSet_ok(k:Int)(d:Int)(n:T.U)(at_ many:Int)(w:World)(hd:T.reg16 d): Calls Tryz.prog 103 #[.agg #[.int .u8 k,.int .u8 0,.bool false,.int .i64 d,.int .i64 0,.int .i64 0,W64 n,.int .i64 0,.int .i64 0,.int .i64 at_,.int .i64 many]] w (Ret w (.bool true)):=by
 have heq:=fun w=>fl_eql ⟨k,0,false,d,0,0,n,0,0⟩ w
 simp only at heq;have BK0:=bk1 w [.int .u8 k,.int .u8 0,.bool false,.int .i64 d,.int .i64 0,.int .i64 0,W64 n,.int .i64 0,.int .i64 0,.int .i64 at_,.int .i64 many] 118;go_enter Tryz.func103,Tryz.ntmps103;go_upto_region 1 with fail;generalize w.heap.size=X at *;refine wp_hid BK0 (fun w1 BK0=>?_);obtain⟨x0,x1,x2,x3,x4,x5,x6,x7,x8,x9,x10⟩:=BK0.o.q11 0 rfl;go_wp2_with fail;refine(irBare_ok _ _ _ _ _ _ _ _ _ _ _ _).mono ?_;rintro e w2 ⟨rfl,hs⟩;have BK1:=Hd (BK0.o.call hs);clear hs BK0;clear x0 x1 x2 x3 x4 x5 x6 x7 x8 x9 x10;go_upto_region 2 with fail;have BK2:=Hd (BK1.o.bx [.int .u8 k,.int .u8 0,.bool false,.int .i64 0,.int .i64 0,.int .i64 0,W64 0#64,.int .i64 0,.int .i64 0] 58);generalize w2.heap.size=Y at *;refine wp_hid BK2 (fun w3 BK2=>?_);clear BK1;have BKa:=Hd BK2.o.drew;refine WL.begin 99 (fun _=>True) (fun w'=>w'.cell? ⟨X,3,none⟩=some (.int .i64 d)/\w'.cell? ⟨X,6,none⟩=some (W64 n)) (by kernel_rfl) trivial ⟨BKa.o.cl 1 3,BKa.o.cl 1 6⟩ (fun hs=>?_);generalize w3.drew=w4 at *;refine WL.tk [(0,[]),(1,[]),(2,[]),(3,[]),(4,[]),(5,[]),(6,[])] hs ?_;clear hs
 iterate 7
  (first|refine WLp ?_ ?_ ?_|refine WLl ?_ ?_ ?_);rotate_left
  ·intro w hc;go_simp<;>rfl
  simp only[Act.put,sA,sZ,sS]
 refine TKs.mk ?_;intro hs;refine WLo 7 hs ?_;clear hs;intro K hK;have c0:=BKa.o.cl 0 3;have f0:=BKa.o.free 0 rfl 3;go_simp;have BKs0:=Hd (BKa.o.bs 0 3 (.int .i64 d));clear c0 f0;refine hK.o _ (w4.setCell ⟨Y,3,none⟩ (.int .i64 d)) (SaT ⟨BKs0.o.cl 1 3,BKs0.o.cl 1 6⟩) ?_;generalize(w4.setCell ⟨Y,3,none⟩ (.int .i64 d))=ws0 at *;clear hK K;intro hs;try simp only[Act.put]
 refine WL.tk [(8,[])] hs ?_;clear hs
 iterate 1
  (first|refine WLp ?_ ?_ ?_|refine WLl ?_ ?_ ?_);rotate_left
  ·intro w hc;go_simp<;>rfl
  simp only[Act.put,sA,sZ,sS]
 refine TKs.mk ?_;intro hs;refine WLo 9 hs ?_;clear hs;intro K hK;have c0:=BKs0.o.cl 0 6;have f0:=BKs0.o.free 0 rfl 6;simp only[W64];go_simp;have BKs1:=Hd (BKs0.o.bs 0 6 (W64 n));clear c0 f0;refine hK.o _ (ws0.setCell ⟨Y,6,none⟩ (W64 n)) (SaT ⟨BKs1.o.cl 1 3,BKs1.o.cl 1 6⟩) ?_;generalize(ws0.setCell ⟨Y,6,none⟩ (W64 n))=ws1 at *;clear hK K;intro hs;try simp only[Act.put]
 clear hs;refine WLd ?_ _;try simp only[Exit.then]
 obtain⟨x0,x1,x2,x3,x4,x5,x6,x7,x8,x9,x10⟩:=BKs1.o.q11 1 rfl;obtain⟨y0,y1,y2,y3,y4,y5,y6,y7,y8⟩:=BKs1.o.q9 0 rfl;go_wp2_with fail;have BKr:=Hd (BKs1.o.bx [.int .i64 d] 3);generalize ws1.heap.size=V at *;generalize ws1.alloc (.cells #[.int .i64 d] 3)=wv at *;have z0:=BKr.o.cl 0 0;refine(irRegs_ok (some ⟨V,0,none⟩) 1 1 [d] _ rfl (by decide) (fun j r hr=>?_) (fun r hr=>?_)).mono ?_
 ·refine⟨V,0,rfl,?_⟩
  rcases j with _|j
  ·cases hr;exact z0
  cases hr
 ·simp only[List.mem_cons,List.mem_nil_iff,or_false]at hr
  rcases hr with rfl<;>assumption
 rintro e w6 ⟨rfl,rfl⟩;clear x0 x1 x2 x3 x4 x5 x6 x7 x8 x9 x10 y0 y1 y2 y3 y4 y5 y6 y7 y8;obtain⟨x0,x1,x2,x3,x4,x5,x6,x7,x8,x9,x10⟩:=BKr.o.q11 2 rfl;go_wp2;go_ret;exact⟨rfl,BKr.o.since⟩
theorem irMove_ok(k:Int)(d:Int)(a:Int)(at_ many:Int)(w:World)(hd:T.reg16 d)(ha:T.reg16 a): Calls Tryz.prog 104 #[.agg #[.int .u8 k,.int .u8 0,.bool false,.int .i64 d,.int .i64 a,.int .i64 0,W64 0#64,.int .i64 0,.int .i64 0,.int .i64 at_,.int .i64 many]] w (Ret w (.bool true)):=by
 have heq:=fun w=>fl_eql ⟨k,0,false,d,a,0,0#64,0,0⟩ w
 simp only at heq;have BK0:=bk1 w [.int .u8 k,.int .u8 0,.bool false,.int .i64 d,.int .i64 a,.int .i64 0,W64 0#64,.int .i64 0,.int .i64 0,.int .i64 at_,.int .i64 many] 118;go_enter Tryz.func104,Tryz.ntmps104;go_upto_region 1 with fail;generalize w.heap.size=X at *;refine wp_hid BK0 (fun w1 BK0=>?_);obtain⟨x0,x1,x2,x3,x4,x5,x6,x7,x8,x9,x10⟩:=BK0.o.q11 0 rfl;go_wp2_with fail;refine(irBare_ok _ _ _ _ _ _ _ _ _ _ _ _).mono ?_;rintro e w2 ⟨rfl,hs⟩;have BK1:=Hd (BK0.o.call hs);clear hs BK0;clear x0 x1 x2 x3 x4 x5 x6 x7 x8 x9 x10;go_upto_region 2 with fail;have BK2:=Hd (BK1.o.bx [.int .u8 k,.int .u8 0,.bool false,.int .i64 0,.int .i64 0,.int .i64 0,W64 0#64,.int .i64 0,.int .i64 0] 58);generalize w2.heap.size=Y at *;refine wp_hid BK2 (fun w3 BK2=>?_);clear BK1;have BKa:=Hd BK2.o.drew;refine WL.begin 99 (fun _=>True) (fun w'=>w'.cell? ⟨X,3,none⟩=some (.int .i64 d)/\w'.cell? ⟨X,4,none⟩=some (.int .i64 a)) (by kernel_rfl) trivial ⟨BKa.o.cl 1 3,BKa.o.cl 1 4⟩ (fun hs=>?_);generalize w3.drew=w4 at *;refine WL.tk [(0,[]),(1,[]),(2,[]),(3,[]),(4,[]),(5,[]),(6,[])] hs ?_;clear hs
 iterate 7
  (first|refine WLp ?_ ?_ ?_|refine WLl ?_ ?_ ?_);rotate_left
  ·intro w hc;go_simp<;>rfl
  simp only[Act.put,sA,sZ,sS]
 refine TKs.mk ?_;intro hs;refine WLo 7 hs ?_;clear hs;intro K hK;have c0:=BKa.o.cl 0 3;have f0:=BKa.o.free 0 rfl 3;go_simp;have BKs0:=Hd (BKa.o.bs 0 3 (.int .i64 d));clear c0 f0;refine hK.o _ (w4.setCell ⟨Y,3,none⟩ (.int .i64 d)) (SaT ⟨BKs0.o.cl 1 3,BKs0.o.cl 1 4⟩) ?_;generalize(w4.setCell ⟨Y,3,none⟩ (.int .i64 d))=ws0 at *;clear hK K;intro hs;try simp only[Act.put]
 refine WL.tk [(8,[])] hs ?_;clear hs
 iterate 1
  (first|refine WLp ?_ ?_ ?_|refine WLl ?_ ?_ ?_);rotate_left
  ·intro w hc;go_simp<;>rfl
  simp only[Act.put,sA,sZ,sS]
 refine TKs.mk ?_;intro hs;refine WLo 9 hs ?_;clear hs;intro K hK;have c0:=BKs0.o.cl 0 4;have f0:=BKs0.o.free 0 rfl 4;go_simp;have BKs1:=Hd (BKs0.o.bs 0 4 (.int .i64 a));clear c0 f0;refine hK.o _ (ws0.setCell ⟨Y,4,none⟩ (.int .i64 a)) (SaT ⟨BKs1.o.cl 1 3,BKs1.o.cl 1 4⟩) ?_;generalize(ws0.setCell ⟨Y,4,none⟩ (.int .i64 a))=ws1 at *;clear hK K;intro hs;try simp only[Act.put]
 clear hs;refine WLd ?_ _;try simp only[Exit.then]
 obtain⟨x0,x1,x2,x3,x4,x5,x6,x7,x8,x9,x10⟩:=BKs1.o.q11 1 rfl;obtain⟨y0,y1,y2,y3,y4,y5,y6,y7,y8⟩:=BKs1.o.q9 0 rfl;go_wp2_with fail;have BKr:=Hd (BKs1.o.bx [.int .i64 d,.int .i64 a] 3);generalize ws1.heap.size=V at *;generalize ws1.alloc (.cells #[.int .i64 d,.int .i64 a] 3)=wv at *;obtain⟨z0,z1⟩:=BKr.o.q2 0 rfl;refine(irRegs_ok (some ⟨V,0,none⟩) 2 2 [d,a] _ rfl (by decide) (fun j r hr=>?_) (fun r hr=>?_)).mono ?_
 ·refine⟨V,0,rfl,?_⟩
  rcases j with _|j
  ·cases hr;exact z0
  rcases j with _|j
  ·cases hr;exact z1
  cases hr
 ·simp only[List.mem_cons,List.mem_nil_iff,or_false]at hr
  rcases hr with rfl|rfl<;>assumption
 rintro e w6 ⟨rfl,rfl⟩;clear x0 x1 x2 x3 x4 x5 x6 x7 x8 x9 x10 y0 y1 y2 y3 y4 y5 y6 y7 y8;obtain⟨x0,x1,x2,x3,x4,x5,x6,x7,x8,x9,x10⟩:=BKr.o.q11 2 rfl;go_wp2;go_ret;exact⟨rfl,BKr.o.since⟩
theorem irLoad_ok(k:Int)(d:Int)(a:Int)(n:T.U)(size:Int)(at_ many:Int)(w:World)(hd:T.reg16 d)(ha:T.reg16 a)(hs:T.sized size=true):Calls Tryz.prog 106 #[.agg #[.int .u8 k,.int .u8 0,.bool false,.int .i64 d,.int .i64 a,.int .i64 0,W64 n,.int .i64 size,.int .i64 0,.int .i64 at_,.int .i64 many]] w (Ret w (.bool true)):=by
 have heq:=fun w=>fl_eql ⟨k,0,false,d,a,0,n,size,0⟩ w
 simp only at heq;have BK0:=bk1 w [.int .u8 k,.int .u8 0,.bool false,.int .i64 d,.int .i64 a,.int .i64 0,W64 n,.int .i64 size,.int .i64 0,.int .i64 at_,.int .i64 many] 118;go_enter Tryz.func106,Tryz.ntmps106;go_upto_region 1 with fail;generalize w.heap.size=X at *;refine wp_hid BK0 (fun w1 BK0=>?_);obtain⟨x0,x1,x2,x3,x4,x5,x6,x7,x8,x9,x10⟩:=BK0.o.q11 0 rfl;go_wp2_with fail;refine(irBare_ok _ _ _ _ _ _ _ _ _ _ _ _).mono ?_;rintro e w2 ⟨rfl,hs⟩;have BK1:=Hd (BK0.o.call hs);clear hs BK0;clear x0 x1 x2 x3 x4 x5 x6 x7 x8 x9 x10;go_upto_region 2 with fail;have BK2:=Hd (BK1.o.bx [.int .u8 k,.int .u8 0,.bool false,.int .i64 0,.int .i64 0,.int .i64 0,W64 0#64,.int .i64 0,.int .i64 0] 58);generalize w2.heap.size=Y at *;refine wp_hid BK2 (fun w3 BK2=>?_);clear BK1;have BKa:=Hd BK2.o.drew;refine WL.begin 99 (fun _=>True) (fun w'=>w'.cell? ⟨X,3,none⟩=some (.int .i64 d)/\w'.cell? ⟨X,4,none⟩=some (.int .i64 a)/\w'.cell? ⟨X,6,none⟩=some (W64 n)/\w'.cell? ⟨X,7,none⟩=some (.int .i64 size)) (by kernel_rfl) trivial ⟨BKa.o.cl 1 3,BKa.o.cl 1 4,BKa.o.cl 1 6,BKa.o.cl 1 7⟩ (fun hs=>?_);generalize w3.drew=w4 at *;refine WL.tk [(0,[]),(1,[]),(2,[]),(3,[]),(4,[]),(5,[]),(6,[]),(7,[]),(8,[]),(9,[]),(10,[]),(11,[]),(12,[])] hs ?_;clear hs
 iterate 13
  (first|refine WLp ?_ ?_ ?_|refine WLl ?_ ?_ ?_);rotate_left
  ·intro w hc;go_simp<;>rfl
  simp only[Act.put,sA,sZ,sS]
 refine TKs.mk ?_;intro hs;refine WLo 13 hs ?_;clear hs;intro K hK;have c0:=BKa.o.cl 0 3;have f0:=BKa.o.free 0 rfl 3;go_simp;have BKs0:=Hd (BKa.o.bs 0 3 (.int .i64 d));clear c0 f0;refine hK.o _ (w4.setCell ⟨Y,3,none⟩ (.int .i64 d)) (SaT ⟨BKs0.o.cl 1 3,BKs0.o.cl 1 4,BKs0.o.cl 1 6,BKs0.o.cl 1 7⟩) ?_;generalize(w4.setCell ⟨Y,3,none⟩ (.int .i64 d))=ws0 at *;clear hK K;intro hs;try simp only[Act.put]
 refine WL.tk [(14,[])] hs ?_;clear hs
 iterate 1
  (first|refine WLp ?_ ?_ ?_|refine WLl ?_ ?_ ?_);rotate_left
  ·intro w hc;go_simp<;>rfl
  simp only[Act.put,sA,sZ,sS]
 refine TKs.mk ?_;intro hs;refine WLo 15 hs ?_;clear hs;intro K hK;have c0:=BKs0.o.cl 0 4;have f0:=BKs0.o.free 0 rfl 4;go_simp;have BKs1:=Hd (BKs0.o.bs 0 4 (.int .i64 a));clear c0 f0;refine hK.o _ (ws0.setCell ⟨Y,4,none⟩ (.int .i64 a)) (SaT ⟨BKs1.o.cl 1 3,BKs1.o.cl 1 4,BKs1.o.cl 1 6,BKs1.o.cl 1 7⟩) ?_;generalize(ws0.setCell ⟨Y,4,none⟩ (.int .i64 a))=ws1 at *;clear hK K;intro hs;try simp only[Act.put]
 refine WL.tk [(16,[])] hs ?_;clear hs
 iterate 1
  (first|refine WLp ?_ ?_ ?_|refine WLl ?_ ?_ ?_);rotate_left
  ·intro w hc;go_simp<;>rfl
  simp only[Act.put,sA,sZ,sS]
 refine TKs.mk ?_;intro hs;refine WLo 17 hs ?_;clear hs;intro K hK;have c0:=BKs1.o.cl 0 6;have f0:=BKs1.o.free 0 rfl 6;simp only[W64];go_simp;have BKs2:=Hd (BKs1.o.bs 0 6 (W64 n));clear c0 f0;refine hK.o _ (ws1.setCell ⟨Y,6,none⟩ (W64 n)) (SaT ⟨BKs2.o.cl 1 3,BKs2.o.cl 1 4,BKs2.o.cl 1 6,BKs2.o.cl 1 7⟩) ?_;generalize(ws1.setCell ⟨Y,6,none⟩ (W64 n))=ws2 at *;clear hK K;intro hs;try simp only[Act.put]
 refine WL.tk [(18,[])] hs ?_;clear hs
 iterate 1
  (first|refine WLp ?_ ?_ ?_|refine WLl ?_ ?_ ?_);rotate_left
  ·intro w hc;go_simp<;>rfl
  simp only[Act.put,sA,sZ,sS]
 refine TKs.mk ?_;intro hs;refine WLo 19 hs ?_;clear hs;intro K hK;have c0:=BKs2.o.cl 0 7;have f0:=BKs2.o.free 0 rfl 7;go_simp;have BKs3:=Hd (BKs2.o.bs 0 7 (.int .i64 size));clear c0 f0;refine hK.o _ (ws2.setCell ⟨Y,7,none⟩ (.int .i64 size)) (SaT ⟨BKs3.o.cl 1 3,BKs3.o.cl 1 4,BKs3.o.cl 1 6,BKs3.o.cl 1 7⟩) ?_;generalize(ws2.setCell ⟨Y,7,none⟩ (.int .i64 size))=ws3 at *;clear hK K;intro hs;try simp only[Act.put]
 clear hs;refine WLd ?_ _;try simp only[Exit.then]
 obtain⟨x0,x1,x2,x3,x4,x5,x6,x7,x8,x9,x10⟩:=BKs3.o.q11 1 rfl;obtain⟨y0,y1,y2,y3,y4,y5,y6,y7,y8⟩:=BKs3.o.q9 0 rfl;go_wp2_with fail;have BKr:=Hd (BKs3.o.bx [.int .i64 d,.int .i64 a] 3);generalize ws3.heap.size=V at *;generalize ws3.alloc (.cells #[.int .i64 d,.int .i64 a] 3)=wv at *;obtain⟨z0,z1⟩:=BKr.o.q2 0 rfl;refine(irRegs_ok (some ⟨V,0,none⟩) 2 2 [d,a] _ rfl (by decide) (fun j r hr=>?_) (fun r hr=>?_)).mono ?_
 ·refine⟨V,0,rfl,?_⟩
  rcases j with _|j
  ·cases hr;exact z0
  rcases j with _|j
  ·cases hr;exact z1
  cases hr
 ·simp only[List.mem_cons,List.mem_nil_iff,or_false]at hr
  rcases hr with rfl|rfl<;>assumption
 rintro e w6 ⟨rfl,rfl⟩;clear x0 x1 x2 x3 x4 x5 x6 x7 x8 x9 x10 y0 y1 y2 y3 y4 y5 y6 y7 y8;obtain⟨x0,x1,x2,x3,x4,x5,x6,x7,x8,x9,x10⟩:=BKr.o.q11 2 rfl;go_wp2_with fail;refine(irSized_ok _ _ _ _ _ _ _ _ _ _ _ _ hs).mono ?_;rintro e w7 ⟨rfl,hs⟩;have BKt:=Hd (BKr.o.call hs);clear hs;clear x0 x1 x2 x3 x4 x5 x6 x7 x8 x9 x10;obtain⟨x0,x1,x2,x3,x4,x5,x6,x7,x8,x9,x10⟩:=BKt.o.q11 2 rfl;go_wp2;go_ret;exact⟨rfl,BKt.o.since⟩
theorem irWrite_ok(k:Int)(a:Int)(b:Int)(n:T.U)(size:Int)(at_ many:Int)(w:World)(ha:T.reg16 a)(hb:T.reg16 b)(hs:T.sized size=true):Calls Tryz.prog 107 #[.agg #[.int .u8 k,.int .u8 0,.bool false,.int .i64 0,.int .i64 a,.int .i64 b,W64 n,.int .i64 size,.int .i64 0,.int .i64 at_,.int .i64 many]] w (Ret w (.bool true)):=by
 have heq:=fun w=>fl_eql ⟨k,0,false,0,a,b,n,size,0⟩ w
 simp only at heq;have BK0:=bk1 w [.int .u8 k,.int .u8 0,.bool false,.int .i64 0,.int .i64 a,.int .i64 b,W64 n,.int .i64 size,.int .i64 0,.int .i64 at_,.int .i64 many] 118;go_enter Tryz.func107,Tryz.ntmps107;go_upto_region 1 with fail;generalize w.heap.size=X at *;refine wp_hid BK0 (fun w1 BK0=>?_);obtain⟨x0,x1,x2,x3,x4,x5,x6,x7,x8,x9,x10⟩:=BK0.o.q11 0 rfl;go_wp2_with fail;refine(irBare_ok _ _ _ _ _ _ _ _ _ _ _ _).mono ?_;rintro e w2 ⟨rfl,hs⟩;have BK1:=Hd (BK0.o.call hs);clear hs BK0;clear x0 x1 x2 x3 x4 x5 x6 x7 x8 x9 x10;go_upto_region 2 with fail;have BK2:=Hd (BK1.o.bx [.int .u8 k,.int .u8 0,.bool false,.int .i64 0,.int .i64 0,.int .i64 0,W64 0#64,.int .i64 0,.int .i64 0] 58);generalize w2.heap.size=Y at *;refine wp_hid BK2 (fun w3 BK2=>?_);clear BK1;have BKa:=Hd BK2.o.drew;refine WL.begin 99 (fun _=>True) (fun w'=>w'.cell? ⟨X,4,none⟩=some (.int .i64 a)/\w'.cell? ⟨X,5,none⟩=some (.int .i64 b)/\w'.cell? ⟨X,6,none⟩=some (W64 n)/\w'.cell? ⟨X,7,none⟩=some (.int .i64 size)) (by kernel_rfl) trivial ⟨BKa.o.cl 1 4,BKa.o.cl 1 5,BKa.o.cl 1 6,BKa.o.cl 1 7⟩ (fun hs=>?_);generalize w3.drew=w4 at *;refine WL.tk [(0,[]),(1,[]),(2,[]),(3,[]),(4,[]),(5,[]),(6,[]),(7,[]),(8,[]),(9,[]),(10,[]),(11,[]),(12,[])] hs ?_;clear hs
 iterate 13
  (first|refine WLp ?_ ?_ ?_|refine WLl ?_ ?_ ?_);rotate_left
  ·intro w hc;go_simp<;>rfl
  simp only[Act.put,sA,sZ,sS]
 refine TKs.mk ?_;intro hs;refine WLo 13 hs ?_;clear hs;intro K hK;have c0:=BKa.o.cl 0 4;have f0:=BKa.o.free 0 rfl 4;go_simp;have BKs0:=Hd (BKa.o.bs 0 4 (.int .i64 a));clear c0 f0;refine hK.o _ (w4.setCell ⟨Y,4,none⟩ (.int .i64 a)) (SaT ⟨BKs0.o.cl 1 4,BKs0.o.cl 1 5,BKs0.o.cl 1 6,BKs0.o.cl 1 7⟩) ?_;generalize(w4.setCell ⟨Y,4,none⟩ (.int .i64 a))=ws0 at *;clear hK K;intro hs;try simp only[Act.put]
 refine WL.tk [(14,[])] hs ?_;clear hs
 iterate 1
  (first|refine WLp ?_ ?_ ?_|refine WLl ?_ ?_ ?_);rotate_left
  ·intro w hc;go_simp<;>rfl
  simp only[Act.put,sA,sZ,sS]
 refine TKs.mk ?_;intro hs;refine WLo 15 hs ?_;clear hs;intro K hK;have c0:=BKs0.o.cl 0 5;have f0:=BKs0.o.free 0 rfl 5;go_simp;have BKs1:=Hd (BKs0.o.bs 0 5 (.int .i64 b));clear c0 f0;refine hK.o _ (ws0.setCell ⟨Y,5,none⟩ (.int .i64 b)) (SaT ⟨BKs1.o.cl 1 4,BKs1.o.cl 1 5,BKs1.o.cl 1 6,BKs1.o.cl 1 7⟩) ?_;generalize(ws0.setCell ⟨Y,5,none⟩ (.int .i64 b))=ws1 at *;clear hK K;intro hs;try simp only[Act.put]
 refine WL.tk [(16,[])] hs ?_;clear hs
 iterate 1
  (first|refine WLp ?_ ?_ ?_|refine WLl ?_ ?_ ?_);rotate_left
  ·intro w hc;go_simp<;>rfl
  simp only[Act.put,sA,sZ,sS]
 refine TKs.mk ?_;intro hs;refine WLo 17 hs ?_;clear hs;intro K hK;have c0:=BKs1.o.cl 0 6;have f0:=BKs1.o.free 0 rfl 6;simp only[W64];go_simp;have BKs2:=Hd (BKs1.o.bs 0 6 (W64 n));clear c0 f0;refine hK.o _ (ws1.setCell ⟨Y,6,none⟩ (W64 n)) (SaT ⟨BKs2.o.cl 1 4,BKs2.o.cl 1 5,BKs2.o.cl 1 6,BKs2.o.cl 1 7⟩) ?_;generalize(ws1.setCell ⟨Y,6,none⟩ (W64 n))=ws2 at *;clear hK K;intro hs;try simp only[Act.put]
 refine WL.tk [(18,[])] hs ?_;clear hs
 iterate 1
  (first|refine WLp ?_ ?_ ?_|refine WLl ?_ ?_ ?_);rotate_left
  ·intro w hc;go_simp<;>rfl
  simp only[Act.put,sA,sZ,sS]
 refine TKs.mk ?_;intro hs;refine WLo 19 hs ?_;clear hs;intro K hK;have c0:=BKs2.o.cl 0 7;have f0:=BKs2.o.free 0 rfl 7;go_simp;have BKs3:=Hd (BKs2.o.bs 0 7 (.int .i64 size));clear c0 f0;refine hK.o _ (ws2.setCell ⟨Y,7,none⟩ (.int .i64 size)) (SaT ⟨BKs3.o.cl 1 4,BKs3.o.cl 1 5,BKs3.o.cl 1 6,BKs3.o.cl 1 7⟩) ?_;generalize(ws2.setCell ⟨Y,7,none⟩ (.int .i64 size))=ws3 at *;clear hK K;intro hs;try simp only[Act.put]
 clear hs;refine WLd ?_ _;try simp only[Exit.then]
 obtain⟨x0,x1,x2,x3,x4,x5,x6,x7,x8,x9,x10⟩:=BKs3.o.q11 1 rfl;obtain⟨y0,y1,y2,y3,y4,y5,y6,y7,y8⟩:=BKs3.o.q9 0 rfl;go_wp2_with fail;have BKr:=Hd (BKs3.o.bx [.int .i64 a,.int .i64 b] 3);generalize ws3.heap.size=V at *;generalize ws3.alloc (.cells #[.int .i64 a,.int .i64 b] 3)=wv at *;obtain⟨z0,z1⟩:=BKr.o.q2 0 rfl;refine(irRegs_ok (some ⟨V,0,none⟩) 2 2 [a,b] _ rfl (by decide) (fun j r hr=>?_) (fun r hr=>?_)).mono ?_
 ·refine⟨V,0,rfl,?_⟩
  rcases j with _|j
  ·cases hr;exact z0
  rcases j with _|j
  ·cases hr;exact z1
  cases hr
 ·simp only[List.mem_cons,List.mem_nil_iff,or_false]at hr
  rcases hr with rfl|rfl<;>assumption
 rintro e w6 ⟨rfl,rfl⟩;clear x0 x1 x2 x3 x4 x5 x6 x7 x8 x9 x10 y0 y1 y2 y3 y4 y5 y6 y7 y8;obtain⟨x0,x1,x2,x3,x4,x5,x6,x7,x8,x9,x10⟩:=BKr.o.q11 2 rfl;go_wp2_with fail;refine(irSized_ok _ _ _ _ _ _ _ _ _ _ _ _ hs).mono ?_;rintro e w7 ⟨rfl,hs⟩;have BKt:=Hd (BKr.o.call hs);clear hs;clear x0 x1 x2 x3 x4 x5 x6 x7 x8 x9 x10;obtain⟨x0,x1,x2,x3,x4,x5,x6,x7,x8,x9,x10⟩:=BKt.o.q11 2 rfl;go_wp2;go_ret;exact⟨rfl,BKt.o.since⟩
theorem irJump_ok(k:Int)(tt:Int)(at_ many:Int)(w:World) (h1:at_<tt)(h2:tt<many):Calls Tryz.prog 108 #[.agg #[.int .u8 k,.int .u8 0,.bool false,.int .i64 0,.int .i64 0,.int .i64 0,W64 0#64,.int .i64 0,.int .i64 tt,.int .i64 at_,.int .i64 many]] w (Ret w (.bool true)):=by
 have heq:=fun w=>fl_eql ⟨k,0,false,0,0,0,0#64,0,tt⟩ w
 simp only at heq;have BK0:=bk1 w [.int .u8 k,.int .u8 0,.bool false,.int .i64 0,.int .i64 0,.int .i64 0,W64 0#64,.int .i64 0,.int .i64 tt,.int .i64 at_,.int .i64 many] 118;go_enter Tryz.func108,Tryz.ntmps108;go_upto_region 1 with fail;generalize w.heap.size=X at *;refine wp_hid BK0 (fun w1 BK0=>?_);obtain⟨x0,x1,x2,x3,x4,x5,x6,x7,x8,x9,x10⟩:=BK0.o.q11 0 rfl;go_wp2_with fail;refine(irBare_ok _ _ _ _ _ _ _ _ _ _ _ _).mono ?_;rintro e w2 ⟨rfl,hs⟩;have BK1:=Hd (BK0.o.call hs);clear hs BK0;clear x0 x1 x2 x3 x4 x5 x6 x7 x8 x9 x10;go_upto_region 2 with fail;have BK2:=Hd (BK1.o.bx [.int .u8 k,.int .u8 0,.bool false,.int .i64 0,.int .i64 0,.int .i64 0,W64 0#64,.int .i64 0,.int .i64 0] 58);generalize w2.heap.size=Y at *;refine wp_hid BK2 (fun w3 BK2=>?_);clear BK1;obtain⟨x0,x1,x2,x3,x4,x5,x6,x7,x8,x9,x10⟩:=BK2.o.q11 1 rfl;have y8:=BK2.o.cl 0 8;have fy8:=BK2.o.free 0 rfl 8;go_upto_region 3 with fail;have BK3:=Hd (BK2.o.bs 0 8 (.int .i64 tt));refine wp_hid BK3 (fun wz BK3=>?_);clear x0 x1 x2 x3 x4 x5 x6 x7 x8 x9 x10 y8 fy8;obtain⟨x0,x1,x2,x3,x4,x5,x6,x7,x8,x9,x10⟩:=BK3.o.q11 1 rfl;obtain⟨y0,y1,y2,y3,y4,y5,y6,y7,y8⟩:=BK3.o.q9 0 rfl;go_wp2_with fail;refine(irFar_ok _ _ _ _ _ _ _ _ _ _ _ _ h1 h2).mono ?_;rintro e w7 ⟨rfl,hs⟩;have BKt:=Hd (BK3.o.call hs);clear hs;clear x0 x1 x2 x3 x4 x5 x6 x7 x8 x9 x10;obtain⟨x0,x1,x2,x3,x4,x5,x6,x7,x8,x9,x10⟩:=BKt.o.q11 1 rfl;go_wp2;go_ret;exact⟨rfl,BKt.o.since⟩
theorem irEnd_ok(k:Int)(a:Int)(at_ many:Int)(w:World)(ha:T.reg16 a): Calls Tryz.prog 110 #[.agg #[.int .u8 k,.int .u8 0,.bool false,.int .i64 0,.int .i64 a,.int .i64 0,W64 0#64,.int .i64 0,.int .i64 0,.int .i64 at_,.int .i64 many]] w (Ret w (.bool true)):=by
 have heq:=fun w=>fl_eql ⟨k,0,false,0,a,0,0#64,0,0⟩ w
 simp only at heq;have BK0:=bk1 w [.int .u8 k,.int .u8 0,.bool false,.int .i64 0,.int .i64 a,.int .i64 0,W64 0#64,.int .i64 0,.int .i64 0,.int .i64 at_,.int .i64 many] 118;go_enter Tryz.func110,Tryz.ntmps110;go_upto_region 1 with fail;generalize w.heap.size=X at *;refine wp_hid BK0 (fun w1 BK0=>?_);obtain⟨x0,x1,x2,x3,x4,x5,x6,x7,x8,x9,x10⟩:=BK0.o.q11 0 rfl;go_wp2_with fail;refine(irBare_ok _ _ _ _ _ _ _ _ _ _ _ _).mono ?_;rintro e w2 ⟨rfl,hs⟩;have BK1:=Hd (BK0.o.call hs);clear hs BK0;clear x0 x1 x2 x3 x4 x5 x6 x7 x8 x9 x10;go_upto_region 2 with fail;have BK2:=Hd (BK1.o.bx [.int .u8 k,.int .u8 0,.bool false,.int .i64 0,.int .i64 0,.int .i64 0,W64 0#64,.int .i64 0,.int .i64 0] 58);generalize w2.heap.size=Y at *;refine wp_hid BK2 (fun w3 BK2=>?_);clear BK1;obtain⟨x0,x1,x2,x3,x4,x5,x6,x7,x8,x9,x10⟩:=BK2.o.q11 1 rfl;have y4:=BK2.o.cl 0 4;have fy4:=BK2.o.free 0 rfl 4;go_upto_region 3 with fail;have BK3:=Hd (BK2.o.bs 0 4 (.int .i64 a));refine wp_hid BK3 (fun wz BK3=>?_);clear x0 x1 x2 x3 x4 x5 x6 x7 x8 x9 x10 y4 fy4;obtain⟨x0,x1,x2,x3,x4,x5,x6,x7,x8,x9,x10⟩:=BK3.o.q11 1 rfl;obtain⟨y0,y1,y2,y3,y4,y5,y6,y7,y8⟩:=BK3.o.q9 0 rfl;go_wp2_with fail;have BKr:=Hd (BK3.o.bx [.int .i64 a] 3);generalize wz.heap.size=V at *;generalize wz.alloc (.cells #[.int .i64 a] 3)=wv at *;have z0:=BKr.o.cl 0 0;refine(irRegs_ok (some ⟨V,0,none⟩) 1 1 [a] _ rfl (by decide) (fun j r hr=>?_) (fun r hr=>?_)).mono ?_
 ·refine⟨V,0,rfl,?_⟩
  rcases j with _|j
  ·cases hr;exact z0
  cases hr
 ·simp only[List.mem_cons,List.mem_nil_iff,or_false]at hr
  rcases hr with rfl<;>assumption
 rintro e w6 ⟨rfl,rfl⟩;clear x0 x1 x2 x3 x4 x5 x6 x7 x8 x9 x10 y0 y1 y2 y3 y4 y5 y6 y7 y8;obtain⟨x0,x1,x2,x3,x4,x5,x6,x7,x8,x9,x10⟩:=BKr.o.q11 2 rfl;go_wp2;go_ret;exact⟨rfl,BKr.o.since⟩
theorem irAsk_ok(k:Int)(wh:Int)(nr:Bool)(a:Int)(b:Int)(tt:Int)(at_ many:Int)(w:World)(ha:T.reg16 a)(hb:T.reg16 b)(w1:17<=wh)(w2:wh<=27)(h1:at_<tt)(h2:tt<many):Calls Tryz.prog 109 #[.agg #[.int .u8 k,.int .u8 wh,.bool nr,.int .i64 0,.int .i64 a,.int .i64 b,W64 0#64,.int .i64 0,.int .i64 tt,.int .i64 at_,.int .i64 many]] w (Ret w (.bool true)):=by
 have heq:=fun w=>fl_eql ⟨k,wh,nr,0,a,b,0#64,0,tt⟩ w
 simp only at heq;have BK0:=bk1 w [.int .u8 k,.int .u8 wh,.bool nr,.int .i64 0,.int .i64 a,.int .i64 b,W64 0#64,.int .i64 0,.int .i64 tt,.int .i64 at_,.int .i64 many] 118;go_enter Tryz.func109,Tryz.ntmps109;go_upto_region 1 with fail;generalize w.heap.size=X at *;refine wp_hid BK0 (fun w1 BK0=>?_);obtain⟨x0,x1,x2,x3,x4,x5,x6,x7,x8,x9,x10⟩:=BK0.o.q11 0 rfl;go_wp2_with fail;refine(irBare_ok _ _ _ _ _ _ _ _ _ _ _ _).mono ?_;rintro e w2 ⟨rfl,hs⟩;have BK1:=Hd (BK0.o.call hs);clear hs BK0;clear x0 x1 x2 x3 x4 x5 x6 x7 x8 x9 x10;go_upto_region 2 with fail;have BK2:=Hd (BK1.o.bx [.int .u8 k,.int .u8 0,.bool false,.int .i64 0,.int .i64 0,.int .i64 0,W64 0#64,.int .i64 0,.int .i64 0] 58);generalize w2.heap.size=Y at *;refine wp_hid BK2 (fun w3 BK2=>?_);clear BK1;have BKa:=Hd BK2.o.drew;refine WL.begin 99 (fun _=>True) (fun w'=>w'.cell? ⟨X,1,none⟩=some (.int .u8 wh)/\w'.cell? ⟨X,2,none⟩=some (.bool nr)/\w'.cell? ⟨X,4,none⟩=some (.int .i64 a)/\w'.cell? ⟨X,5,none⟩=some (.int .i64 b)/\w'.cell? ⟨X,8,none⟩=some (.int .i64 tt)) (by kernel_rfl) trivial ⟨BKa.o.cl 1 1,BKa.o.cl 1 2,BKa.o.cl 1 4,BKa.o.cl 1 5,BKa.o.cl 1 8⟩ (fun hs=>?_);generalize w3.drew=w4 at *;refine WL.tk [(0,[]),(1,[]),(2,[]),(3,[]),(4,[]),(5,[]),(6,[]),(7,[]),(8,[]),(9,[]),(10,[]),(11,[]),(12,[]),(13,[]),(14,[]),(15,[])] hs ?_;clear hs
 iterate 16
  (first|refine WLp ?_ ?_ ?_|refine WLl ?_ ?_ ?_);rotate_left
  ·intro w hc;go_simp<;>rfl
  simp only[Act.put,sA,sZ,sS]
 refine TKs.mk ?_;intro hs;refine WLo 16 hs ?_;clear hs;intro K hK;have c0:=BKa.o.cl 0 1;have f0:=BKa.o.free 0 rfl 1;go_simp;have BKs0:=Hd (BKa.o.bs 0 1 (.int .u8 wh));clear c0 f0;refine hK.o _ (w4.setCell ⟨Y,1,none⟩ (.int .u8 wh)) (SaT ⟨BKs0.o.cl 1 1,BKs0.o.cl 1 2,BKs0.o.cl 1 4,BKs0.o.cl 1 5,BKs0.o.cl 1 8⟩) ?_;generalize(w4.setCell ⟨Y,1,none⟩ (.int .u8 wh))=ws0 at *;clear hK K;intro hs;try simp only[Act.put]
 refine WL.tk [(17,[])] hs ?_;clear hs
 iterate 1
  (first|refine WLp ?_ ?_ ?_|refine WLl ?_ ?_ ?_);rotate_left
  ·intro w hc;go_simp<;>rfl
  simp only[Act.put,sA,sZ,sS]
 refine TKs.mk ?_;intro hs;refine WLo 18 hs ?_;clear hs;intro K hK;have c0:=BKs0.o.cl 0 2;have f0:=BKs0.o.free 0 rfl 2;go_simp;have BKs1:=Hd (BKs0.o.bs 0 2 (.bool nr));clear c0 f0;refine hK.o _ (ws0.setCell ⟨Y,2,none⟩ (.bool nr)) (SaT ⟨BKs1.o.cl 1 1,BKs1.o.cl 1 2,BKs1.o.cl 1 4,BKs1.o.cl 1 5,BKs1.o.cl 1 8⟩) ?_;generalize(ws0.setCell ⟨Y,2,none⟩ (.bool nr))=ws1 at *;clear hK K;intro hs;try simp only[Act.put]
 refine WL.tk [(19,[])] hs ?_;clear hs
 iterate 1
  (first|refine WLp ?_ ?_ ?_|refine WLl ?_ ?_ ?_);rotate_left
  ·intro w hc;go_simp<;>rfl
  simp only[Act.put,sA,sZ,sS]
 refine TKs.mk ?_;intro hs;refine WLo 20 hs ?_;clear hs;intro K hK;have c0:=BKs1.o.cl 0 4;have f0:=BKs1.o.free 0 rfl 4;go_simp;have BKs2:=Hd (BKs1.o.bs 0 4 (.int .i64 a));clear c0 f0;refine hK.o _ (ws1.setCell ⟨Y,4,none⟩ (.int .i64 a)) (SaT ⟨BKs2.o.cl 1 1,BKs2.o.cl 1 2,BKs2.o.cl 1 4,BKs2.o.cl 1 5,BKs2.o.cl 1 8⟩) ?_;generalize(ws1.setCell ⟨Y,4,none⟩ (.int .i64 a))=ws2 at *;clear hK K;intro hs;try simp only[Act.put]
 refine WL.tk [(21,[])] hs ?_;clear hs
 iterate 1
  (first|refine WLp ?_ ?_ ?_|refine WLl ?_ ?_ ?_);rotate_left
  ·intro w hc;go_simp<;>rfl
  simp only[Act.put,sA,sZ,sS]
 refine TKs.mk ?_;intro hs;refine WLo 22 hs ?_;clear hs;intro K hK;have c0:=BKs2.o.cl 0 5;have f0:=BKs2.o.free 0 rfl 5;go_simp;have BKs3:=Hd (BKs2.o.bs 0 5 (.int .i64 b));clear c0 f0;refine hK.o _ (ws2.setCell ⟨Y,5,none⟩ (.int .i64 b)) (SaT ⟨BKs3.o.cl 1 1,BKs3.o.cl 1 2,BKs3.o.cl 1 4,BKs3.o.cl 1 5,BKs3.o.cl 1 8⟩) ?_;generalize(ws2.setCell ⟨Y,5,none⟩ (.int .i64 b))=ws3 at *;clear hK K;intro hs;try simp only[Act.put]
 refine WL.tk [(23,[])] hs ?_;clear hs
 iterate 1
  (first|refine WLp ?_ ?_ ?_|refine WLl ?_ ?_ ?_);rotate_left
  ·intro w hc;go_simp<;>rfl
  simp only[Act.put,sA,sZ,sS]
 refine TKs.mk ?_;intro hs;refine WLo 24 hs ?_;clear hs;intro K hK;have c0:=BKs3.o.cl 0 8;have f0:=BKs3.o.free 0 rfl 8;go_simp;have BKs4:=Hd (BKs3.o.bs 0 8 (.int .i64 tt));clear c0 f0;refine hK.o _ (ws3.setCell ⟨Y,8,none⟩ (.int .i64 tt)) (SaT ⟨BKs4.o.cl 1 1,BKs4.o.cl 1 2,BKs4.o.cl 1 4,BKs4.o.cl 1 5,BKs4.o.cl 1 8⟩) ?_;generalize(ws3.setCell ⟨Y,8,none⟩ (.int .i64 tt))=ws4 at *;clear hK K;intro hs;try simp only[Act.put]
 clear hs;refine WLd ?_ _;try simp only[Exit.then]
 obtain⟨x0,x1,x2,x3,x4,x5,x6,x7,x8,x9,x10⟩:=BKs4.o.q11 1 rfl;obtain⟨y0,y1,y2,y3,y4,y5,y6,y7,y8⟩:=BKs4.o.q9 0 rfl;go_wp2_with fail;have BKr:=Hd (BKs4.o.bx [.int .i64 a,.int .i64 b] 3);generalize ws4.heap.size=V at *;generalize ws4.alloc (.cells #[.int .i64 a,.int .i64 b] 3)=wv at *;obtain⟨z0,z1⟩:=BKr.o.q2 0 rfl;refine(irRegs_ok (some ⟨V,0,none⟩) 2 2 [a,b] _ rfl (by decide) (fun j r hr=>?_) (fun r hr=>?_)).mono ?_
 ·refine⟨V,0,rfl,?_⟩
  rcases j with _|j
  ·cases hr;exact z0
  rcases j with _|j
  ·cases hr;exact z1
  cases hr
 ·simp only[List.mem_cons,List.mem_nil_iff,or_false]at hr
  rcases hr with rfl|rfl<;>assumption
 rintro e w6 ⟨rfl,rfl⟩;clear x0 x1 x2 x3 x4 x5 x6 x7 x8 x9 x10 y0 y1 y2 y3 y4 y5 y6 y7 y8;obtain⟨x0,x1,x2,x3,x4,x5,x6,x7,x8,x9,x10⟩:=BKr.o.q11 2 rfl;go_wp2_with fail;refine(irFar_ok _ _ _ _ _ _ _ _ _ _ _ _ h1 h2).mono ?_;rintro e w7 ⟨rfl,hs⟩;have BKt:=Hd (BKr.o.call hs);clear hs;clear x0 x1 x2 x3 x4 x5 x6 x7 x8 x9 x10;obtain⟨x0,x1,x2,x3,x4,x5,x6,x7,x8,x9,x10⟩:=BKt.o.q11 2 rfl;go_wp2;go_ret;exact⟨rfl,BKt.o.since⟩
theorem irAlu_ok(k:Int)(wh:Int)(nr:Bool)(d:Int)(a:Int)(b:Int)(at_ many:Int)(w:World)(hd:T.reg16 d)(ha:T.reg16 a)(hb:T.reg16 b)(w1:1<=wh)(w2:wh<=13)(hne:wh≠13):Calls Tryz.prog 105 #[.agg #[.int .u8 k,.int .u8 wh,.bool nr,.int .i64 d,.int .i64 a,.int .i64 b,W64 0#64,.int .i64 0,.int .i64 0,.int .i64 at_,.int .i64 many]] w (Ret w (.bool true)):=by
 have hn13:(wh != 13)=true:=by simpa using hne
 have heq:=fun w=>fl_eql ⟨k,wh,nr,d,a,b,0#64,0,0⟩ w
 simp only at heq;have BK0:=bk1 w [.int .u8 k,.int .u8 wh,.bool nr,.int .i64 d,.int .i64 a,.int .i64 b,W64 0#64,.int .i64 0,.int .i64 0,.int .i64 at_,.int .i64 many] 118;go_enter Tryz.func105,Tryz.ntmps105;go_upto_region 1 with fail;generalize w.heap.size=X at *;refine wp_hid BK0 (fun w1 BK0=>?_);obtain⟨x0,x1,x2,x3,x4,x5,x6,x7,x8,x9,x10⟩:=BK0.o.q11 0 rfl;go_wp2_with fail;refine(irBare_ok _ _ _ _ _ _ _ _ _ _ _ _).mono ?_;rintro e w2 ⟨rfl,hs⟩;have BK1:=Hd (BK0.o.call hs);clear hs BK0;clear x0 x1 x2 x3 x4 x5 x6 x7 x8 x9 x10;go_upto_region 2 with fail;have BK2:=Hd (BK1.o.bx [.int .u8 k,.int .u8 0,.bool false,.int .i64 0,.int .i64 0,.int .i64 0,W64 0#64,.int .i64 0,.int .i64 0] 58);generalize w2.heap.size=Y at *;refine wp_hid BK2 (fun w3 BK2=>?_);clear BK1;have BKa:=Hd BK2.o.drew;refine WL.begin 99 (fun _=>True) (fun w'=>w'.cell? ⟨X,1,none⟩=some (.int .u8 wh)/\w'.cell? ⟨X,2,none⟩=some (.bool nr)/\w'.cell? ⟨X,3,none⟩=some (.int .i64 d)/\w'.cell? ⟨X,4,none⟩=some (.int .i64 a)/\w'.cell? ⟨X,5,none⟩=some (.int .i64 b)) (by kernel_rfl) trivial ⟨BKa.o.cl 1 1,BKa.o.cl 1 2,BKa.o.cl 1 3,BKa.o.cl 1 4,BKa.o.cl 1 5⟩ (fun hs=>?_);generalize w3.drew=w4 at *;refine WL.tk [(0,[]),(1,[]),(2,[]),(3,[]),(4,[]),(5,[]),(6,[]),(7,[]),(8,[]),(9,[]),(10,[]),(11,[]),(12,[]),(13,[]),(14,[]),(15,[])] hs ?_;clear hs
 iterate 16
  (first|refine WLp ?_ ?_ ?_|refine WLl ?_ ?_ ?_);rotate_left
  ·intro w hc;go_simp<;>rfl
  simp only[Act.put,sA,sZ,sS]
 refine TKs.mk ?_;intro hs;refine WLo 16 hs ?_;clear hs;intro K hK;have c0:=BKa.o.cl 0 1;have f0:=BKa.o.free 0 rfl 1;go_simp;have BKs0:=Hd (BKa.o.bs 0 1 (.int .u8 wh));clear c0 f0;refine hK.o _ (w4.setCell ⟨Y,1,none⟩ (.int .u8 wh)) (SaT ⟨BKs0.o.cl 1 1,BKs0.o.cl 1 2,BKs0.o.cl 1 3,BKs0.o.cl 1 4,BKs0.o.cl 1 5⟩) ?_;generalize(w4.setCell ⟨Y,1,none⟩ (.int .u8 wh))=ws0 at *;clear hK K;intro hs;try simp only[Act.put]
 refine WL.tk [(17,[])] hs ?_;clear hs
 iterate 1
  (first|refine WLp ?_ ?_ ?_|refine WLl ?_ ?_ ?_);rotate_left
  ·intro w hc;go_simp<;>rfl
  simp only[Act.put,sA,sZ,sS]
 refine TKs.mk ?_;intro hs;refine WLo 18 hs ?_;clear hs;intro K hK;have c0:=BKs0.o.cl 0 2;have f0:=BKs0.o.free 0 rfl 2;go_simp;have BKs1:=Hd (BKs0.o.bs 0 2 (.bool nr));clear c0 f0;refine hK.o _ (ws0.setCell ⟨Y,2,none⟩ (.bool nr)) (SaT ⟨BKs1.o.cl 1 1,BKs1.o.cl 1 2,BKs1.o.cl 1 3,BKs1.o.cl 1 4,BKs1.o.cl 1 5⟩) ?_;generalize(ws0.setCell ⟨Y,2,none⟩ (.bool nr))=ws1 at *;clear hK K;intro hs;try simp only[Act.put]
 refine WL.tk [(19,[])] hs ?_;clear hs
 iterate 1
  (first|refine WLp ?_ ?_ ?_|refine WLl ?_ ?_ ?_);rotate_left
  ·intro w hc;go_simp<;>rfl
  simp only[Act.put,sA,sZ,sS]
 refine TKs.mk ?_;intro hs;refine WLo 20 hs ?_;clear hs;intro K hK;have c0:=BKs1.o.cl 0 3;have f0:=BKs1.o.free 0 rfl 3;go_simp;have BKs2:=Hd (BKs1.o.bs 0 3 (.int .i64 d));clear c0 f0;refine hK.o _ (ws1.setCell ⟨Y,3,none⟩ (.int .i64 d)) (SaT ⟨BKs2.o.cl 1 1,BKs2.o.cl 1 2,BKs2.o.cl 1 3,BKs2.o.cl 1 4,BKs2.o.cl 1 5⟩) ?_;generalize(ws1.setCell ⟨Y,3,none⟩ (.int .i64 d))=ws2 at *;clear hK K;intro hs;try simp only[Act.put]
 refine WL.tk [(21,[])] hs ?_;clear hs
 iterate 1
  (first|refine WLp ?_ ?_ ?_|refine WLl ?_ ?_ ?_);rotate_left
  ·intro w hc;go_simp<;>rfl
  simp only[Act.put,sA,sZ,sS]
 refine TKs.mk ?_;intro hs;refine WLo 22 hs ?_;clear hs;intro K hK;have c0:=BKs2.o.cl 0 4;have f0:=BKs2.o.free 0 rfl 4;go_simp;have BKs3:=Hd (BKs2.o.bs 0 4 (.int .i64 a));clear c0 f0;refine hK.o _ (ws2.setCell ⟨Y,4,none⟩ (.int .i64 a)) (SaT ⟨BKs3.o.cl 1 1,BKs3.o.cl 1 2,BKs3.o.cl 1 3,BKs3.o.cl 1 4,BKs3.o.cl 1 5⟩) ?_;generalize(ws2.setCell ⟨Y,4,none⟩ (.int .i64 a))=ws3 at *;clear hK K;intro hs;try simp only[Act.put]
 refine WL.tk [(23,[])] hs ?_;clear hs
 iterate 1
  (first|refine WLp ?_ ?_ ?_|refine WLl ?_ ?_ ?_);rotate_left
  ·intro w hc;go_simp<;>rfl
  simp only[Act.put,sA,sZ,sS]
 refine TKs.mk ?_;intro hs;refine WLo 24 hs ?_;clear hs;intro K hK;have c0:=BKs3.o.cl 0 5;have f0:=BKs3.o.free 0 rfl 5;go_simp;have BKs4:=Hd (BKs3.o.bs 0 5 (.int .i64 b));clear c0 f0;refine hK.o _ (ws3.setCell ⟨Y,5,none⟩ (.int .i64 b)) (SaT ⟨BKs4.o.cl 1 1,BKs4.o.cl 1 2,BKs4.o.cl 1 3,BKs4.o.cl 1 4,BKs4.o.cl 1 5⟩) ?_;generalize(ws3.setCell ⟨Y,5,none⟩ (.int .i64 b))=ws4 at *;clear hK K;intro hs;try simp only[Act.put]
 clear hs;refine WLd ?_ _;try simp only[Exit.then]
 obtain⟨x0,x1,x2,x3,x4,x5,x6,x7,x8,x9,x10⟩:=BKs4.o.q11 1 rfl;obtain⟨y0,y1,y2,y3,y4,y5,y6,y7,y8⟩:=BKs4.o.q9 0 rfl;go_wp2_with fail;have BKr:=Hd (BKs4.o.bx [.int .i64 d,.int .i64 a,.int .i64 b] 3);generalize ws4.heap.size=V at *;generalize ws4.alloc (.cells #[.int .i64 d,.int .i64 a,.int .i64 b] 3)=wv at *;obtain⟨z0,z1,z2⟩:=BKr.o.q3 0 rfl;refine(irRegs_ok (some ⟨V,0,none⟩) 3 3 [d,a,b] _ rfl (by decide) (fun j r hr=>?_) (fun r hr=>?_)).mono ?_
 ·refine⟨V,0,rfl,?_⟩
  rcases j with _|j
  ·cases hr;exact z0
  rcases j with _|j
  ·cases hr;exact z1
  rcases j with _|j
  ·cases hr;exact z2
  cases hr
 ·simp only[List.mem_cons,List.mem_nil_iff,or_false]at hr
  rcases hr with rfl|rfl|rfl<;>assumption
 rintro e w6 ⟨rfl,rfl⟩;clear x0 x1 x2 x3 x4 x5 x6 x7 x8 x9 x10 y0 y1 y2 y3 y4 y5 y6 y7 y8;obtain⟨x0,x1,x2,x3,x4,x5,x6,x7,x8,x9,x10⟩:=BKr.o.q11 2 rfl;go_wp2;go_ret;exact⟨rfl,BKr.o.since⟩
theorem irNeg_ok(k:Int)(nr:Bool)(d:Int)(a:Int)(at_ many:Int)(w:World)(hd:T.reg16 d)(ha:T.reg16 a)(h0:T.reg16 0): Calls Tryz.prog 105 #[.agg #[.int .u8 k,.int .u8 13,.bool nr,.int .i64 d,.int .i64 a,.int .i64 0,W64 0#64,.int .i64 0,.int .i64 0,.int .i64 at_,.int .i64 many]] w (Ret w (.bool true)):=by
 have heq:=fun w=>fl_eql ⟨k,13,nr,d,a,0,0#64,0,0⟩ w
 simp only at heq;have BK0:=bk1 w [.int .u8 k,.int .u8 13,.bool nr,.int .i64 d,.int .i64 a,.int .i64 0,W64 0#64,.int .i64 0,.int .i64 0,.int .i64 at_,.int .i64 many] 118;go_enter Tryz.func105,Tryz.ntmps105;go_upto_region 1 with fail;generalize w.heap.size=X at *;refine wp_hid BK0 (fun w1 BK0=>?_);obtain⟨x0,x1,x2,x3,x4,x5,x6,x7,x8,x9,x10⟩:=BK0.o.q11 0 rfl;go_wp2_with fail;refine(irBare_ok _ _ _ _ _ _ _ _ _ _ _ _).mono ?_;rintro e w2 ⟨rfl,hs⟩;have BK1:=Hd (BK0.o.call hs);clear hs BK0;clear x0 x1 x2 x3 x4 x5 x6 x7 x8 x9 x10;go_upto_region 2 with fail;have BK2:=Hd (BK1.o.bx [.int .u8 k,.int .u8 0,.bool false,.int .i64 0,.int .i64 0,.int .i64 0,W64 0#64,.int .i64 0,.int .i64 0] 58);generalize w2.heap.size=Y at *;refine wp_hid BK2 (fun w3 BK2=>?_);clear BK1;have BKa:=Hd BK2.o.drew;refine WL.begin 99 (fun _=>True) (fun w'=>w'.cell? ⟨X,1,none⟩=some (.int .u8 13)/\w'.cell? ⟨X,2,none⟩=some (.bool nr)/\w'.cell? ⟨X,3,none⟩=some (.int .i64 d)/\w'.cell? ⟨X,4,none⟩=some (.int .i64 a)/\w'.cell? ⟨X,5,none⟩=some (.int .i64 0)) (by kernel_rfl) trivial ⟨BKa.o.cl 1 1,BKa.o.cl 1 2,BKa.o.cl 1 3,BKa.o.cl 1 4,BKa.o.cl 1 5⟩ (fun hs=>?_);generalize w3.drew=w4 at *;refine WL.tk [(0,[]),(1,[]),(2,[]),(3,[]),(4,[]),(5,[]),(6,[]),(7,[]),(8,[]),(9,[]),(10,[]),(11,[]),(12,[]),(13,[]),(14,[]),(15,[])] hs ?_;clear hs
 iterate 16
  (first|refine WLp ?_ ?_ ?_|refine WLl ?_ ?_ ?_);rotate_left
  ·intro w hc;go_simp<;>rfl
  simp only[Act.put,sA,sZ,sS]
 refine TKs.mk ?_;intro hs;refine WLo 16 hs ?_;clear hs;intro K hK;have c0:=BKa.o.cl 0 1;have f0:=BKa.o.free 0 rfl 1;go_simp;have BKs0:=Hd (BKa.o.bs 0 1 (.int .u8 13));clear c0 f0;refine hK.o _ (w4.setCell ⟨Y,1,none⟩ (.int .u8 13)) (SaT ⟨BKs0.o.cl 1 1,BKs0.o.cl 1 2,BKs0.o.cl 1 3,BKs0.o.cl 1 4,BKs0.o.cl 1 5⟩) ?_;generalize(w4.setCell ⟨Y,1,none⟩ (.int .u8 13))=ws0 at *;clear hK K;intro hs;try simp only[Act.put]
 refine WL.tk [(17,[])] hs ?_;clear hs
 iterate 1
  (first|refine WLp ?_ ?_ ?_|refine WLl ?_ ?_ ?_);rotate_left
  ·intro w hc;go_simp<;>rfl
  simp only[Act.put,sA,sZ,sS]
 refine TKs.mk ?_;intro hs;refine WLo 18 hs ?_;clear hs;intro K hK;have c0:=BKs0.o.cl 0 2;have f0:=BKs0.o.free 0 rfl 2;go_simp;have BKs1:=Hd (BKs0.o.bs 0 2 (.bool nr));clear c0 f0;refine hK.o _ (ws0.setCell ⟨Y,2,none⟩ (.bool nr)) (SaT ⟨BKs1.o.cl 1 1,BKs1.o.cl 1 2,BKs1.o.cl 1 3,BKs1.o.cl 1 4,BKs1.o.cl 1 5⟩) ?_;generalize(ws0.setCell ⟨Y,2,none⟩ (.bool nr))=ws1 at *;clear hK K;intro hs;try simp only[Act.put]
 refine WL.tk [(19,[])] hs ?_;clear hs
 iterate 1
  (first|refine WLp ?_ ?_ ?_|refine WLl ?_ ?_ ?_);rotate_left
  ·intro w hc;go_simp<;>rfl
  simp only[Act.put,sA,sZ,sS]
 refine TKs.mk ?_;intro hs;refine WLo 20 hs ?_;clear hs;intro K hK;have c0:=BKs1.o.cl 0 3;have f0:=BKs1.o.free 0 rfl 3;go_simp;have BKs2:=Hd (BKs1.o.bs 0 3 (.int .i64 d));clear c0 f0;refine hK.o _ (ws1.setCell ⟨Y,3,none⟩ (.int .i64 d)) (SaT ⟨BKs2.o.cl 1 1,BKs2.o.cl 1 2,BKs2.o.cl 1 3,BKs2.o.cl 1 4,BKs2.o.cl 1 5⟩) ?_;generalize(ws1.setCell ⟨Y,3,none⟩ (.int .i64 d))=ws2 at *;clear hK K;intro hs;try simp only[Act.put]
 refine WL.tk [(21,[])] hs ?_;clear hs
 iterate 1
  (first|refine WLp ?_ ?_ ?_|refine WLl ?_ ?_ ?_);rotate_left
  ·intro w hc;go_simp<;>rfl
  simp only[Act.put,sA,sZ,sS]
 refine TKs.mk ?_;intro hs;refine WLo 22 hs ?_;clear hs;intro K hK;have c0:=BKs2.o.cl 0 4;have f0:=BKs2.o.free 0 rfl 4;go_simp;have BKs3:=Hd (BKs2.o.bs 0 4 (.int .i64 a));clear c0 f0;refine hK.o _ (ws2.setCell ⟨Y,4,none⟩ (.int .i64 a)) (SaT ⟨BKs3.o.cl 1 1,BKs3.o.cl 1 2,BKs3.o.cl 1 3,BKs3.o.cl 1 4,BKs3.o.cl 1 5⟩) ?_;generalize(ws2.setCell ⟨Y,4,none⟩ (.int .i64 a))=ws3 at *;clear hK K;intro hs;try simp only[Act.put]
 refine WL.tk [(23,[])] hs ?_;clear hs
 iterate 1
  (first|refine WLp ?_ ?_ ?_|refine WLl ?_ ?_ ?_);rotate_left
  ·intro w hc;go_simp<;>rfl
  simp only[Act.put,sA,sZ,sS]
 refine TKs.mk ?_;intro hs;refine WLo 24 hs ?_;clear hs;intro K hK;have c0:=BKs3.o.cl 0 5;have f0:=BKs3.o.free 0 rfl 5;go_simp;have BKs4:=Hd (BKs3.o.bs 0 5 (.int .i64 0));clear c0 f0;refine hK.o _ (ws3.setCell ⟨Y,5,none⟩ (.int .i64 0)) (SaT ⟨BKs4.o.cl 1 1,BKs4.o.cl 1 2,BKs4.o.cl 1 3,BKs4.o.cl 1 4,BKs4.o.cl 1 5⟩) ?_;generalize(ws3.setCell ⟨Y,5,none⟩ (.int .i64 0))=ws4 at *;clear hK K;intro hs;try simp only[Act.put]
 clear hs;refine WLd ?_ _;try simp only[Exit.then]
 obtain⟨x0,x1,x2,x3,x4,x5,x6,x7,x8,x9,x10⟩:=BKs4.o.q11 1 rfl;obtain⟨y0,y1,y2,y3,y4,y5,y6,y7,y8⟩:=BKs4.o.q9 0 rfl;go_wp2_with fail;have BKr:=Hd (BKs4.o.bx [.int .i64 d,.int .i64 a,.int .i64 0] 3);generalize ws4.heap.size=V at *;generalize ws4.alloc (.cells #[.int .i64 d,.int .i64 a,.int .i64 0] 3)=wv at *;obtain⟨z0,z1,z2⟩:=BKr.o.q3 0 rfl;refine(irRegs_ok (some ⟨V,0,none⟩) 3 3 [d,a,0] _ rfl (by decide) (fun j r hr=>?_) (fun r hr=>?_)).mono ?_
 ·refine⟨V,0,rfl,?_⟩
  rcases j with _|j
  ·cases hr;exact z0
  rcases j with _|j
  ·cases hr;exact z1
  rcases j with _|j
  ·cases hr;exact z2
  cases hr
 ·simp only[List.mem_cons,List.mem_nil_iff,or_false]at hr
  rcases hr with rfl|rfl|rfl<;>assumption
 rintro e w6 ⟨rfl,rfl⟩;clear x0 x1 x2 x3 x4 x5 x6 x7 x8 x9 x10 y0 y1 y2 y3 y4 y5 y6 y7 y8;obtain⟨x0,x1,x2,x3,x4,x5,x6,x7,x8,x9,x10⟩:=BKr.o.q11 2 rfl;go_wp2;go_ret;exact⟨rfl,BKr.o.since⟩
end Go.Proofs.YtfeipbgnjainlaaGreatDoor.K
