/- TTop, TTop2, TEmp, TTopPF -/
import Derived.Test.YtfeipbgnjainlaaGreatDoorTp10
import Derived.Test.YtfeipbgnjainlaaGreatDoorTp4
import Derived.Test.YtfeipbgnjainlaaGreatDoorTp2
import Derived.Test.YtfeipbgnjainlaaGreatDoorTp52
import Derived.Test.YtfeipbgnjainlaaGreatDoorTp51
import Derived.Test.YtfeipbgnjainlaaGreatDoorTp41
import Derived.Test.YtfeipbgnjainlaaGreatDoorTp21
import Derived.Test.YtfeipbgnjainlaaGreatDoorTp49
set_option linter.unusedVariables false
set_option linter.unusedSimpArgs false
set_option maxRecDepth 100000
set_option maxHeartbeats 4000000
namespace Go.Proofs.YtfeipbgnjainlaaGreatDoor.K
open Go Go.RowKit Go.Maps Go.Sort
theorem flRd_of{w:World}{base:Nat}{g n c:Nat}{l:List T.Fl}(h:w.ownsRow base 58 9 (.slice (some ⟨g,0,none⟩) n c) n (l.flatMap flL)):FlRd w g 0 l:=by
 intro j f hf k v hv;have hk:k<9:=(List.getElem?_eq_some_iff.1 hv).1;obtain⟨hj,rfl⟩:=List.getElem?_eq_some_iff.1 hf;have h1:=World.ownsRow.cells h (g:=g) rfl (j*9+k) v (by rw[flat_get flL 9 flL_len l j hj k hk];exact hv);rw[Addr.add_mid,Nat.zero_add]at h1;rw[Nat.zero_add];exact h1
theorem sure_ok(b o n c:Nat)(l:List T.Ins)(A:Option Addr)(pn pc:Nat)(pkl:List T.B)(w:World)(hr:InsRd w b o l)(hl:l.length=n)(hn:n<=4096)(hpf:(T.placesF l).1.1=0)(hrow:RowRd w ⟨A,pn,pc⟩ pkl)(hpn:pn<=65535):
  Calls Tryz.prog 9 #[.slice (some ⟨b,o,none⟩) n c,.slice A pn pc] w (Ret w (.bool true)):=by
 obtain⟨h1,h2,h3⟩:=T.placesF_ok hpf;have hsp:=T.shaped_of h1;have hty:=T.typed_of hsp h2;obtain⟨ps,hps⟩:∃q,(T.placesF l).2=q:=⟨_,rfl⟩
 have hps2:(T.placesOf l).2=ps:=by rw[<-hps,h3]
 rw[hps2]at hty;have hpl:pkl.length=pn:=hrow.len;obtain⟨k,v,hk,hruns⟩:=T.runs_of hsp hty pkl (by rw[hpl];exact hpn);obtain⟨m,hfr⟩:=T.sim_of hsp hty pkl (by rw[hpl];exact hpn) hruns;have hright:=T.lmake_right hsp hty (by rw[hl];exact hn);rw[hpl]at hruns hfr;have HR:=Hd hr;have HMK:=Hd (fun w (hr:InsRd w b o l)=>lwMake_any b o n c l w hr hl hn);have HEX:=Hd (fun w (hr:InsRd w b o l) (hrow:RowRd w ⟨A,pn,pc⟩ pkl)=>exRun_ok b o n c l A pn pc pkl w hr hl hn hrow hpn hsp h1 k (by omega) v hruns);have HDO:=Hd (fun w g q qc (hr:FlRd w g 0 (T.lmake l ps)) (hq:(T.lmake l ps).length=q) (hrow:RowRd w ⟨A,pn,pc⟩ pkl)=>runDo_ok g 0 q qc (T.lmake l ps) A pn pc pkl w hr hq hright hrow hpn m v hfr);have HROW:=Hd hrow;have HPS:=Hd hps;have HPF:=Hd hpf;have HNE:=Hd (List.length_pos_iff.2 hright.ne);have hkn:(k:Int)<=(n:Int):=by omega
 clear h1 h2 h3 hsp hty hps hps2 hpl hk hruns hfr hright hr hl hn hpf hrow hpn;go_enter Tryz.func9,Tryz.ntmps9;go_wp2_with fail;refine(HMK.o _ HR.o).mono ?_;rintro e w1 (⟨_,hs,OA,oc,rfl,how⟩|⟨hpf,_⟩)
 case inr=>exact absurd HPF.o hpf
 rw[HPS.o]at how ⊢;obtain⟨q,hq⟩:∃q,(T.lmake l ps).length=q:=⟨_,rfl⟩
 have hq0:=HNE.o;rw[hq]at how hq0 ⊢;obtain⟨g,rfl⟩:=own_someG how hq0;have HFL:=Hd (flRd_of how);have HQ:=Hd hq;have HS:=Hd hs;clear hs how hq hq0;go_upto_region 2 with fail;have BK1:=Hd ((Bank.nil (Below.refl w1.heap.size w1)).bx [.int .i64 0,.int .i64 0] 27);generalize w1.heap.size=F at *;refine wp_hid BK1 (fun w2 BK1=>?_);go_wp2_with fail;refine(HEX.o _ (HR.o.since (HS.o.add BK1.o.since)) ((HS.o.add BK1.o.since).row HROW.o)).mono ?_;rintro e w3 ⟨rfl,hs⟩;have BK2:=Hd (BK1.o.call hs);clear hs BK1;go_wp2_with fail;refine(HDO.o _ g q oc (HFL.o.since BK2.o.since) HQ.o ((HS.o.add BK2.o.since).row HROW.o)).mono ?_;rintro e w4 ⟨rfl,hs⟩;have BK3:=Hd (BK2.o.call hs);clear hs BK2;go_upto_region 3 with fail;have BK4:=Hd ((BK3.o.bx [.int .i64 0,.int .i64 0,W64 v,.int .i64 (k:Int)] 41).bx [.int .i64 0,.int .i64 0,W64 v,.int .i64 (m:Int)] 41);rw[World.size_alloc]at BK4;generalize w4.heap.size=X at *;generalize X+1=Y at *;refine wp_hid BK4 (fun w5 BK4=>?_);have f0:=BK4.o.cl 2 0;have a0:=BK4.o.cl 1 0;have a2:=BK4.o.cl 1 2;have a3:=BK4.o.cl 1 3;have b0:=BK4.o.cl 0 0;have b2:=BK4.o.cl 0 2;go_wp2;go_ret;exact⟨rfl,HS.o.add BK4.o.since⟩
set_option maxRecDepth 100000
set_option maxHeartbeats 4000000
def filterL:List T.Ins:=[⟨12,false,0,0,true,0,5,0⟩,⟨20,false,2,0,true,1,1,0⟩,⟨28,false,0,0,false,0,0,0⟩,⟨14,false,0,1,false,0,0,1⟩,⟨28,false,0,0,false,0,0,0⟩]
def runsB(l:List T.Ins)(pk:List T.B):Nat->T.Mc->T.U->Bool
 | 0,_,_=>false
 | k+1,m,v=>match l[m.at']? with
   | none=>false
   | some i=>decide ((T.estep pk i { m with at':=m.at'+1 }).1=0)&&(match (T.estep pk i { m with at':=m.at'+1 }).2.verdict with
     | some u=>decide (k=0)&&decide (u=v)
     | none=>runsB l pk k (T.estep pk i { m with at':=m.at'+1 }).2 v)
theorem runs_ofB{l:List T.Ins}{pk:List T.B}:∀ {k:Nat} {m:T.Mc} {v:T.U},runsB l pk k m v=true->T.Runs l pk k m v
 | 0,_,_,h=>by cases h
 | k+1,m,v,h=>by
   unfold runsB at h;split at h
   ·cases h
   ·rename_i i hi
    rw[Bool.and_eq_true,decide_eq_true_eq]at h;obtain⟨h1,h2⟩:=h;refine⟨i,_,hi,Prod.ext h1 rfl,?_⟩;split at h2
    ·rename_i u hu
     rw[Bool.and_eq_true,decide_eq_true_eq,decide_eq_true_eq]at h2;exact .inl ⟨h2.1,by rw[hu,h2.2]⟩
    ·rename_i hu
     exact .inr ⟨hu,runs_ofB h2⟩
theorem filter_places:(T.placesF filterL).1.1=0:=by decide +kernel
theorem filter_9:T.Runs filterL [9#8] 4 (T.Mc.start 1) 9#64:=runs_ofB (by decide +kernel)
theorem filter_0:T.Runs filterL [] 3 (T.Mc.start 0) 5#64:=runs_ofB (by decide +kernel)
theorem filterT_any(w:World):Calls Tryz.prog 12 #[] w fun e w'=>e=.returned (.slice (some ⟨w.heap.size,0,none⟩) 5 5)/\w'=w.alloc (.cells (filterL.flatMap insL).toArray 55):=by
 go_enter Tryz.func12,Tryz.ntmps12;go_wp2;go_ret;exact⟨rfl,rfl⟩
theorem filter_rd(w:World):InsRd (w.alloc (.cells (filterL.flatMap insL).toArray 55)) w.heap.size 0 filterL:=by
 intro j i hi k v hv;have hk:k<8:=(List.getElem?_eq_some_iff.1 hv).1;obtain⟨hj,rfl⟩:=List.getElem?_eq_some_iff.1 hi;rw[Nat.zero_add,World.cell?_alloc_new];have h:=flat_get insL 8 (fun _=>rfl) filterL j hj k hk;rw[hv]at h;simpa using h
theorem tells_ok(w:World):Calls Tryz.prog 4 #[] w (Ret w (.bool true)):=by
 obtain⟨h1,h2,h3⟩:=T.placesF_ok filter_places;have hsp:=T.shaped_of h1;have hty:=T.typed_of hsp h2;obtain⟨ps,hps⟩:∃q,(T.placesF filterL).2=q:=⟨_,rfl⟩
 have hps2:(T.placesOf filterL).2=ps:=by rw[<-hps,h3]
 rw[hps2]at hty;obtain⟨m,hfr⟩:=T.sim_of hsp hty [] (by decide) filter_0;have hright:=T.lmake_right hsp hty (by decide);have HMK:=Hd (fun w b (hr:InsRd w b 0 filterL)=>lwMake_any b 0 5 5 filterL w hr rfl (by decide));have HEX:=Hd (fun w b (hr:InsRd w b 0 filterL) g (hrow:RowRd w ⟨some ⟨g,0,none⟩,1,1⟩ [9#8])=>exRun_ok b 0 5 5 filterL (some ⟨g,0,none⟩) 1 1 [9#8] w hr rfl (by decide) hrow (by decide) hsp h1 4 (by decide) 9#64 filter_9);have HDO:=Hd (fun w g q qc (hr:FlRd w g 0 (T.lmake filterL ps)) (hq:(T.lmake filterL ps).length=q)=>runDo_ok g 0 q qc (T.lmake filterL ps) none 0 0 [] w hr hq hright ⟨Rd.of_nil _ _,rfl,fun _=>rfl⟩ (by decide) m 5#64 hfr);have HPS:=Hd hps;have HNE:=Hd (List.length_pos_iff.2 hright.ne);clear h1 h2 h3 hsp hty hps hps2 hfr hright;go_enter Tryz.func4,Tryz.ntmps4;go_wp2_with fail;refine(filterT_any _).mono ?_;rintro e wa ⟨rfl,rfl⟩;have HR:=Hd (filter_rd w);have HS0:=Hd (show Since w (w.alloc (.cells (filterL.flatMap insL).toArray 55))from(Below.refl _ _).alloc (Nat.le_refl _) _);generalize w.heap.size=b at HR ⊢;generalize w.alloc (.cells (filterL.flatMap insL).toArray 55)=wb at *;go_wp2_with fail;refine(HMK.o _ b HR.o).mono ?_;rintro e w1 (⟨_,hs,OA,oc,rfl,how⟩|⟨hpf,_⟩)
 case inr=>exact absurd filter_places hpf
 rw[HPS.o]at how ⊢;obtain⟨q,hq⟩:∃q,(T.lmake filterL ps).length=q:=⟨_,rfl⟩
 have hq0:=HNE.o;rw[hq]at how hq0 ⊢;obtain⟨g,rfl⟩:=own_someG how hq0;have HFL:=Hd (flRd_of how);have HQ:=Hd hq;have HS:=Hd hs;clear hs how hq hq0;go_upto_region 3 with fail;have BK1:=Hd ((Bank.nil (Below.refl w1.heap.size w1)).bx [.int .i64 0,.int .i64 0] 27);generalize w1.heap.size=F at *;refine wp_hid BK1 (fun w2 BK1=>?_);go_wp2_with fail;have BKp:=Hd (BK1.o.litV #[.int .u8 9] 5 (by decide));clear BK1;generalize w2.heap.size=Z at *;generalize w2.alloc (.cells #[.int .u8 9] 5)=w2b at *;refine(HEX.o _ b (HR.o.since (HS.o.add BKp.o.since)) Z (RowRd.of_row (bs:=[9#8]) (BKp.o.at 0 rfl))).mono ?_;rintro e w3 ⟨rfl,hs⟩;have BK2:=Hd (BKp.o.call hs);clear hs BKp;go_wp2_with fail;refine(HDO.o _ g q oc (HFL.o.since BK2.o.since) HQ.o).mono ?_;rintro e w4 ⟨rfl,hs⟩;have BK3:=Hd (BK2.o.call hs);clear hs BK2;go_upto_region 4 with fail;have BK4:=Hd ((BK3.o.bx [.int .i64 0,.int .i64 0,.int .u64 9,.int .i64 4] 41).bx [.int .i64 0,.int .i64 0,.int .u64 5,.int .i64 (m:Int)] 41);rw[World.size_alloc]at BK4;generalize w4.heap.size=X at *;generalize X+1=Y at *;refine wp_hid BK4 (fun w5 BK4=>?_);have f0:=BK4.o.cl 3 0;have a0:=BK4.o.cl 1 0;have a2:=BK4.o.cl 1 2;have b0:=BK4.o.cl 0 0;have b2:=BK4.o.cl 0 2;go_wp2;go_ret;exact⟨rfl,(HS0.o.add HS.o).add BK4.o.since⟩
set_option maxRecDepth 100000
set_option maxHeartbeats 8000000
theorem shapeCheck_0(A:Option Addr)(c:Nat)(w:World):Calls Tryz.prog 20 #[.slice A 0 c] w (Ret w (.agg #[.int .i64 6,.int .i64 0])):=by
 have BK0:=bk2 w [.slice A 0 c] 22 [.int .i64 0,.int .i64 0] 27;go_enter Tryz.func20,Tryz.ntmps20;go_upto_region 1 with fail;generalize w.heap.size=X at *;refine wp_hid BK0 (fun w1 BK0=>?_);have a0:=BK0.o.cl 1 0;obtain⟨r0,r1,fr0,fr1⟩:=BK0.o.r2 0 rfl;go_wp2;refine bodyPost_ret (v:=.agg #[.int .i64 6,.int .i64 0]) ?_ rfl ⟨rfl,((BK0.o.bs 0 0 (.int .i64 6)).bs 0 1 (.int .i64 0)).since⟩;simp[results,Tryz.results20,go_sem,a0,r0,r1]
theorem places_0(A:Option Addr)(c:Nat)(w:World):Calls Tryz.prog 15 #[.slice A 0 c] w fun e w'=>e=.returned (.tuple #[.slice none 0 0,.agg #[.int .i64 6,.int .i64 0]])/\Since w w':=by
 have hmf:=hmfT;have BK0:=bk2 w [.slice none 0 0] 44 [.int .i64 0,.int .i64 0] 27
 go_enter_defers Tryz.func15,Tryz.ntmps15
 go_upto_region 1 with fail;generalize w.heap.size=X at *;refine wp_hid BK0 (fun w1 BK0=>?_);obtain⟨p0,fp0⟩:=BK0.o.r1 1 rfl;obtain⟨f0,f1,ff0,ff1⟩:=BK0.o.r2 0 rfl;go_wp2_with fail;refine(shapeCheck_0 A c _).mono ?_;rintro e w2 ⟨rfl,hs⟩;have BK1:=Hd (BK0.o.call hs);clear hs BK0 p0 fp0 f0 f1 ff0 ff1;go_upto_region 3 with fail;refine wp_bank [boxAcc w2.heap.size 27 [.int .i64 6,.int .i64 0],boxAcc (X+1) 27 [.int .i64 0,.int .i64 0],boxAcc X 44 [.slice none 0 0]] (BK1.o.bx [.int .i64 6,.int .i64 0] 27) (fun w3 h3=>?_);generalize w2.heap.size=F4 at *;have BK:=Hd h3.drew;obtain⟨q0,q1⟩:=h3.q2 0 rfl;clear h3;refine wp_region_noPanic ?_;refine WL.begin 2 (fun w'=>w'.cell? ⟨F4,0,none⟩=some (.int .i64 6)/\w'.cell? ⟨F4,1,none⟩=some (.int .i64 0)) (fun _=>True) (by kernel_rfl) ⟨q0,q1⟩ trivial (fun hs=>?_);generalize w3.drew=wz at *;refine WL.tk [(0,[0])] hs ?_;clear hs
 iterate 1
  (first|refine WLp ?_ ?_ ?_|refine WLl ?_ ?_ ?_);rotate_left
  ·intro w hc;go_simp<;>rfl
  simp only[Act.put,sA,sZ,sS]
 refine TKs.mk ?_;intro hs;refine WLo 1 hs ?_;clear hs;intro K hK;obtain⟨e0,g0⟩:=BK.o.r1 2 rfl;go_simp;have BK:=Hd (BK.o.bs 2 0 (.slice none 0 0));clear e0 g0;refine hK.o _ _ (SApp.intro (fun _=>⟨BK.o.cl 0 0,BK.o.cl 0 1⟩) trivial) ?_;generalize(wz.setCell ⟨X,0,none⟩ (.slice none 0 0))=wz at *;clear hK K;intro hs;try simp only[Act.put]
 refine WLo 2 hs ?_;clear hs;intro K hK;obtain⟨e0,e1,g0,g1⟩:=BK.o.r2 1 rfl;go_simp;have BK:=Hd ((BK.o.bs 1 0 (.int .i64 6)).bs 1 1 (.int .i64 0));clear e0 e1 g0 g1;refine hK.o _ _ SaF ?_;generalize((wz.setCell ⟨X+1,0,none⟩ (.int .i64 6)).setCell ⟨X+1,1,none⟩ (.int .i64 0))=wz at *;clear hK K;intro hs;try simp only[Act.put]
 clear hs;refine WLd ?_ _;try simp only[Exit.then]
 refine NoPanic.normal ?_;clear q0 q1;have r0:=BK.o.cl 2 0;obtain⟨r1,r2⟩:=BK.o.q2 1 rfl;go_wp2;exact⟨.tuple #[.slice none 0 0,.agg #[.int .i64 6,.int .i64 0]],by simp[results,Tryz.results15,go_sem,r0,r1,r2],⟨rfl,BK.o.since⟩⟩
theorem filter_0s(A:Option Addr)(c:Nat)(w:World):Calls Tryz.prog 5 #[.slice A 0 c] w (Ret w (.agg #[.int .i64 6,.int .i64 0])):=by
 have BK0:=bk1 w [.int .i64 0,.int .i64 0] 27;go_enter Tryz.func5,Tryz.ntmps5;go_upto_region 1 with fail;generalize w.heap.size=X at *;refine wp_hid BK0 (fun w1 BK0=>?_);obtain⟨r0,r1,fr0,fr1⟩:=BK0.o.r2 0 rfl;go_wp2_with fail;refine(places_0 A c _).mono ?_;clear r0 r1 fr0 fr1;rintro e w2 ⟨rfl,hs⟩;have BK:=Hd (BK0.o.call hs);clear hs BK0;go_upto_region 2 with fail;refine wp_bank [boxAcc w2.heap.size 27 [.int .i64 6,.int .i64 0],boxAcc X 27 [.int .i64 0,.int .i64 0]] (BK.o.bx [.int .i64 6,.int .i64 0] 27) (fun w3 h3=>?_);generalize w2.heap.size=Y at *;have BK:=Hd h3;obtain⟨q0,q1⟩:=h3.q2 0 rfl;obtain⟨r0,r1,fr0,fr1⟩:=h3.r2 1 rfl;clear h3;go_wp2;refine bodyPost_ret (v:=.agg #[.int .i64 6,.int .i64 0]) ?_ rfl ⟨rfl,((BK.o.bs 1 0 (.int .i64 6)).bs 1 1 (.int .i64 0)).since⟩;simp[results,Tryz.results5,go_sem,r0,r1]
set_option maxRecDepth 100000
set_option maxHeartbeats 8000000
theorem make_0(A:Option Addr)(c:Nat)(w:World):Calls Tryz.prog 6 #[.slice A 0 c] w (fun e w'=>e=.returned (.tuple #[.slice none 0 0,.agg #[.int .i64 6,.int .i64 0]])/\Since w w'):=by
 have BK0:=bk1 w [.int .i64 0,.int .i64 0] 27;go_enter Tryz.func6,Tryz.ntmps6;go_upto_region 1 with fail;generalize w.heap.size=X at *;refine wp_hid BK0 (fun w1 BK0=>?_);go_wp2_with fail;refine(places_0 A c _).mono ?_;rintro e w2 ⟨rfl,hs⟩;have BK1:=Hd (BK0.o.call hs);clear hs BK0;go_upto_region 2 with fail;refine wp_hid (Hd (BK1.o.bx [.int .i64 6,.int .i64 0] 27)) (fun w3 BK2=>?_);generalize w2.heap.size=F at *;clear BK1;obtain⟨f0,f1⟩:=BK2.o.q2 0 rfl;go_upto_region 3 with fail;have BKa:=Hd BK2.o.drew;refine WL.begin 2 (fun w'=>w'.cell? ⟨F,0,none⟩=some (.int .i64 6)/\w'.cell? ⟨F,1,none⟩=some (.int .i64 0)) (fun _=>True) (by kernel_rfl) ⟨BKa.o.cl 0 0,BKa.o.cl 0 1⟩ trivial (fun hs=>?_);generalize w3.drew=w4 at *
 repeat' first
  | (with_reducible refine StepL.at 1 ?_
     intro K hK;go_simp;refine hK.o _ _ (SApp.intro (fun _=>⟨BKa.o.cl 0 0,BKa.o.cl 0 1⟩) trivial) ?_
     clear hK K;intro hs;try simp only[Act.put,sA,sZ,sS])
  | (with_reducible refine StepL.at 2 ?_
     intro K hK;obtain⟨r0,r1,g0,g1⟩:=BKa.o.r2 1 rfl;go_simp;have BKz:=Hd ((BKa.o.bs 1 0 (.int .i64 6)).bs 1 1 (.int .i64 0));clear r0 r1 g0 g1;refine hK.o _ _ SaF ?_
     clear hK K;intro hs;try simp only[Act.put])
  | (refine WL.tl [0] (i:=0) (v:=?_) rfl (by decide +kernel) (by kernel_rfl) (fun _ _ _ h=>h) hs (Or.inl ⟨by kernel_rfl,?_⟩) ?_;rotate_left;· intro w hc;go_simp<;>rfl
     clear hs;intro hs;simp only[Act.put,sA,sZ,sS])
  | (refine WL.s1 (i:=1) (by decide +kernel) rfl hs ?_<;>clear hs)
  | (refine WL.s1 (i:=2) (by decide +kernel) rfl hs ?_<;>clear hs)
  | (clear hs;refine WL.done (by decide +kernel) ?_ _;try simp only[Exit.then]
     go_wp2;obtain⟨r0,r1⟩:=BKz.o.q2 1 rfl;refine bodyPost_ret (v:=.tuple #[.slice none 0 0,.agg #[.int .i64 6,.int .i64 0]]) ?_ rfl ⟨rfl,BKz.o.since⟩
     simp[results,Tryz.results6,go_sem,r0,r1])
theorem typed_ok(b o n c:Nat)(l:List T.Ins)(w:World)(hr:InsRd w b o l)(hl:l.length=n)(hn:n<=4096)(hpf:(T.placesF l).1.1=0):
  Calls Tryz.prog 11 #[.slice (some ⟨b,o,none⟩) n c] w (Ret w (.bool true)):=by
 obtain⟨h1,h2,h3⟩:=T.placesF_ok hpf;have hsp:=T.shaped_of h1;have e3:(T.placesF l).2=(T.placesOf l).2:=by rw[h3]
 have HPF:=Hd hpf;have HL:=Hd hl;have HP:=Hd (places_any' b o n c l w hr hl hn)
 have HH:=Hd (show ∀(P pc:Nat) (xs:List PV) (w0 w1:World),Since w w1->xs.map PV.p=(T.placesF l).2->xs.length=n->Bank w0 w1 (plsA P n pc xs::pvA xs)->Calls Tryz.prog 19 #[.slice (some ⟨b,o,none⟩) n c,.slice (some ⟨P,0,none⟩) n pc] w1 (Ret w1 (.bool true))from fun P pc xs w0 w1 hs hx hxl hb=>by
  rw[e3]at hx;refine tyHolds_ok b o n c l P pc xs w1 (hr.since hs) hl hxl hn h1 hsp (hx▸T.typed_of hsp h2) (fun x hm=>T.rightly_of hsp h2 _ (hx▸List.mem_map_of_mem hm)) (RdC.of hb 0 rfl) (fun x hm hlv=>?_);have h3:x.accs=[x.regA,x.byA]:=PV.live_accs hlv
  exact prd_of hb (.tail _ (List.mem_flatMap.2 ⟨x,hm,by rw[h3];simp⟩)) (.tail _ (List.mem_flatMap.2 ⟨x,hm,by rw[h3];simp⟩)))
 clear h1 h2 h3 hsp e3 hr hl hn hpf;go_enter Tryz.func11,Tryz.ntmps11;go_wp2_with fail;refine HP.o.mono ?_;rintro e w1 (⟨_,P,pc,xs,rfl,hx,hxl,hb⟩|⟨hn,_⟩)
 case inr=>exact absurd HPF.o hn
 rw[HL.o]at hb hxl ⊢;have BK:=Hd hb;have HX:=Hd (⟨hx,hxl⟩:xs.map PV.p=(T.placesF l).2/\xs.length=n);clear hb hx hxl HP;go_upto_region 2 with fail;refine wp_hid (Hd (BK.o.bx [.int .i64 0,.int .i64 0] 27)) (fun w2 BK=>?_);generalize w1.heap.size=F at *;have f0:=BK.o.cl 0 0;go_wp2_with fail;refine(HH.o P pc xs w w2 BK.o.since HX.o.1 HX.o.2 BK.o.drop).mono ?_;rintro e w3 ⟨rfl,hs⟩;have S:=Hd (BK.o.since.add hs);clear hs f0;go_wp2;go_ret;exact⟨rfl,S.o⟩
theorem rowRd_take{w:World}{b n c:Nat}{bs:List (BitVec 8)}(h:RowRd w ⟨some ⟨b,0,none⟩,n,c⟩ bs)(len c':Nat)(hl:len<=n):RowRd w ⟨some ⟨b,0,none⟩,len,c'⟩ (bs.take len):=by
 have hN:bs.length=n:=h.len;refine⟨fun j hj=>?_,by show _=len;rw[List.length_take];omega,fun h=>by cases h⟩;rw[List.length_take]at hj;obtain⟨b',o',e,hc⟩:=h.rd j (by omega);refine⟨b',o',e,?_⟩;rw[hc,List.getElem_take]
theorem fault_eq(x y:Int)(w:World):(binOp .eql 27 (.agg #[.int .i64 x,.int .i64 y]) (.agg #[.int .i64 x,.int .i64 y])).run Tryz.prog w=.ok (.bool true) w:=by
 go_simp
theorem fault_ne(x y:Int)(w:World):(binOp .neq 27 (.agg #[.int .i64 x,.int .i64 y]) (.agg #[.int .i64 x,.int .i64 y])).run Tryz.prog w=.ok (.bool false) w:=by
 go_simp
theorem TopPath_any(A:Option Addr)(n c:Nat)(l:List T.Ins)(B:Option Addr)(m d:Nat)(pk:List T.B)(x:Int)(w:World)(hl:l.length=n)(hA:l=[]\/∃b o,A=some ⟨b,o,none⟩/\InsRd w b o l)(hrow:RowRd w ⟨B,m,d⟩ pk):
  Calls Tryz.prog 3 #[.slice A n c,.slice B m d,.int .i64 x] w (Ret w (.bool true)):=by
 have hfe:=fault_eq;have hfn:=fault_ne;have HROW:=Hd hrow;have HA:=Hd hA;have HL:=Hd hl;clear hrow hA hl;go_enter Tryz.func3,Tryz.ntmps3;go_wp2_with fail;refine(tells_ok _).mono ?_;rintro e w1 ⟨rfl,hs⟩;have HS:=Hd hs;clear hs;by_cases h150:(150:Int)<(n:Int)
 ·go_wp2
  go_ret;exact⟨rfl,HS.o⟩
 by_cases h3000:(3000:Int)<(m:Int)
 ·go_wp2
  go_ret;exact⟨rfl,HS.o⟩
 have hn:n<=150:=by omega
 have BK:RowKit.Hid (Bank w w1 []):=Hd ((Bank.nil (Below.refl w.heap.size w)).call HS.o);rcases HA.o with h0|⟨b,o,rfl,hr⟩
 ·have hn0:n=0:=by rw[<-HL.o,h0];rfl
  subst hn0;clear h0 hn;go_wp2_with fail;refine(filter_0s A c _).mono ?_;rintro e w2 ⟨rfl,hs⟩;have BK:=Hd (BK.o.call hs);clear hs;go_upto_region 6 with fail;refine wp_hid (Hd (BK.o.bx [.int .i64 6,.int .i64 0] 27)) (fun w3 BK=>?_);generalize w2.heap.size=F at *;go_wp2_with fail;refine(make_0 A c _).mono ?_;rintro e w4 ⟨rfl,hs⟩;have BK:=Hd (BK.o.call hs);clear hs;go_upto_region 7 with fail;refine wp_hid (Hd (BK.o.bx [.int .i64 6,.int .i64 0] 27)) (fun w5 BK=>?_);generalize w4.heap.size=G at *;obtain⟨f0,f1⟩:=BK.o.q2 1 rfl;obtain⟨g0,g1⟩:=BK.o.q2 0 rfl;go_wp2;go_ret;exact⟨rfl,BK.o.since⟩
 have HR:=Hd hr;clear hr;go_wp2_with fail;refine(filter_any b o n c l _ (HR.o.since BK.o.since) HL.o (by omega)).mono ?_;rintro e w2 ⟨rfl,hs⟩;have BK:=Hd (BK.o.call hs);clear hs;obtain⟨er,her⟩:∃q,(T.placesF l).1.1=q:=⟨_,rfl⟩
 obtain⟨ea,hea⟩:∃q,((T.placesF l).1.2:Int)=q:=⟨_,rfl⟩
 have HE:=Hd (⟨her,hea⟩:(T.placesF l).1.1=er/\((T.placesF l).1.2:Int)=ea);rw[her,hea];clear her hea;go_upto_region 6 with fail;refine wp_hid (Hd (BK.o.bx [.int .i64 er,.int .i64 ea] 27)) (fun w3 BK=>?_);generalize w2.heap.size=F at *;go_wp2_with fail;refine(lwMake_any b o n c l _ (HR.o.since BK.o.since) HL.o (by omega)).mono ?_;rintro e w4 (⟨hpf,hs,OA,oc,rfl,_⟩|⟨hpf,hs,rfl⟩)
 case inr =>
  have BK:=Hd (BK.o.call hs);rw[HE.o.1]at hpf ⊢;rw[HE.o.2];have e0:(er != 0)=true:=by simpa using hpf
  clear hs hpf;go_upto_region 7 with fail;refine wp_hid (Hd (BK.o.bx [.int .i64 er,.int .i64 ea] 27)) (fun w5 BK=>?_);generalize w4.heap.size=G at *;obtain⟨f0,f1⟩:=BK.o.q2 1 rfl;obtain⟨g0,g1⟩:=BK.o.q2 0 rfl;go_wp2;go_ret;exact⟨rfl,BK.o.since⟩
 have HPF:=Hd hpf
 have HEA:=Hd (show ea=0 by
  obtain⟨_,_,h3⟩:=T.placesF_ok hpf;rw[<-HE.o.2,h3]
  rfl)
 have he0:er=0:=by rw[<-HE.o.1];exact hpf
 have BK:=Hd (BK.o.call hs);clear hs hpf;rw[he0,HEA.o]at BK;clear he0 HEA HE;generalize(T.lmake l (T.placesF l).2).length=q;go_upto_region 7 with fail;refine wp_hid (Hd (BK.o.bx [.int .i64 0,.int .i64 0] 27)) (fun w5 BK=>?_);generalize w4.heap.size=G at *;obtain⟨f0,f1⟩:=BK.o.q2 1 rfl;obtain⟨g0,g1⟩:=BK.o.q2 0 rfl;have hpn:m<=3000:=by omega
 go_wp2_with fail;refine(lent_from w B m d pk HROW.o (by omega) BK.o.since).mono ?_;rintro e w6 ⟨g,rfl,hg0,hg,hs⟩;have HG:=Hd hg;have HB:=Hd (BK.o.since.add hs);have HOWN:=Hd (lent_row hg HROW.o.len);clear hs hg hg0 f0 f1 g0 g1 BK;obtain⟨k,hk⟩:∃k:Nat,pick x ((m:Int)+1)=(k:Int):=⟨_,(Int.toNat_of_nonneg (pick_lo x _ (by omega))).symm⟩
 have hkm:k<=m:=by have:=pick_hi x ((m:Int)+1) (by omega);omega
 have km:IntKind.i64.wrap ((m:Int)+1)=(m:Int)+1:=IntWalk.i64_in _ (by omega);go_wp2_with fail;refine(Pick_any x ((m:Int)+1) _ (by omega) (by omega)).mono ?_;rintro e w7 ⟨rfl,rfl⟩;rw[hk];clear hk km;go_wp2_with fail;refine(sure_ok b o n c l _ _ _ pk _ (HR.o.since HB.o) HL.o (by omega) HPF.o HOWN.o (by omega)).mono ?_;rintro e w8 ⟨rfl,hs⟩;have HS6:=Hd hs;clear hs;have k0:(0:Int)<=(k:Int):=by omega
 have k1:(k:Int)<=((m+12:Nat):Int):=by omega
 go_wp2_with fail;refine(sure_ok b o n c l _ _ _ (pk.take k) _ (HR.o.since (HB.o.add HS6.o)) HL.o (by omega) HPF.o (rowRd_take (HS6.o.row HOWN.o) k _ hkm) (by omega)).mono ?_;rintro e w9 ⟨rfl,hs⟩;have HS7:=Hd (HS6.o.add hs);clear hs k0 k1;go_wp2_with fail;refine(kept_made HG.o (HB.o.row HROW.o) (by omega) HS7.o).mono ?_;rintro e w10 ⟨rfl,hs⟩;have HS8:=Hd (HS7.o.add hs);clear hs;go_wp2_with fail;refine(typed_ok b o n c l _ (HR.o.since (HB.o.add HS8.o)) HL.o (by omega) HPF.o).mono ?_;rintro e w11 ⟨rfl,hs⟩;have HS9:=Hd (HS8.o.add hs);clear hs;go_wp2;go_ret;exact⟨rfl,HB.o.add HS9.o⟩
end Go.Proofs.YtfeipbgnjainlaaGreatDoor.K
