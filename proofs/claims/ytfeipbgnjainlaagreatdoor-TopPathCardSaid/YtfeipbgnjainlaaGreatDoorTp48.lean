/- TRnB -/
import Derived.Test.YtfeipbgnjainlaaGreatDoorTp2
import Derived.Test.YtfeipbgnjainlaaGreatDoorTp43
set_option linter.unusedVariables false
set_option linter.unusedSimpArgs false
set_option maxRecDepth 100000
set_option maxHeartbeats 4000000
namespace Go.Proofs.YtfeipbgnjainlaaGreatDoor.K
open Go Go.RowKit Go.Maps Go.Sort
theorem rnAlu_ok{K:List (Nat×Obj)}{R:Nat}{m:T.Fm}{pk st dn:Value}{w0 w:World}{L:List Acc}(f:T.Fl)(hB:BankK K w0 w (boxAcc R 78 (fmL m pk st dn)::L))(hok:Fok m)(hd:T.reg16 f.d)(ha:T.reg16 f.a)(hb:T.reg16 f.b)(hw:1<=f.what/\f.what<=13)(he:T.aerr f.what f.narrow (m.reg f.b)=0):Calls Tryz.prog 66 #[.pointer (some ⟨R,0,none⟩),flV f] w (RnP K w0 R (m.put f.d (T.ado f.what f.narrow (m.reg f.a) (m.reg f.b))) pk st dn L):=by
 have HDO:=Hd (fun w=>aluDo_ret w f.what f.narrow (m.reg f.a) (m.reg f.b) hw he);clear hw he;obtain⟨k,wh,nr,d,a,b,n,size,tt⟩:=f;simp only at *;obtain⟨d,rfl⟩:=Int.eq_ofNat_of_zero_le hd.1;have d1:d<16:=by have:=hd.2;omega
 have dj0:(0:Int)<=(d:Int):=by omega
 have dj1:(d:Int)<(16:Int):=by omega
 clear hd;obtain⟨a,rfl⟩:=Int.eq_ofNat_of_zero_le ha.1;have a1:a<16:=by have:=ha.2;omega
 have aj0:(0:Int)<=(a:Int):=by omega
 have aj1:(a:Int)<(16:Int):=by omega
 clear ha;obtain⟨b,rfl⟩:=Int.eq_ofNat_of_zero_le hb.1;have b1:b<16:=by have:=hb.2;omega
 have bj0:(0:Int)<=(b:Int):=by omega
 have bj1:(b:Int)<(16:Int):=by omega
 clear hb;unfold flV flL;have BK0:=Hd (hB.boxL [.int .u8 k,.int .u8 wh,.bool nr,.int .i64 (d:Int),.int .i64 (a:Int),.int .i64 (b:Int),W64 n,.int .i64 size,.int .i64 tt] 58 (by simp));clear hB;go_enter Tryz.func66,Tryz.ntmps66;go_upto_region 1 with fail;generalize w.heap.size=X at *
 first|refine wp_hid BK0 (fun w1 BK0=>?_)|refine wp_hidK BK0 (fun w1 BK0=>?_)
 have BKa:=Hd BK0.o.drew;refine WL.begin 18 (fun w'=>w'.cell? ⟨X,1,none⟩=some (.int .u8 wh)/\w'.cell? ⟨X,2,none⟩=some (.bool nr)/\w'.cell? ⟨X,4,none⟩=some (.int .i64 (a:Int))/\w'.cell? ⟨X,5,none⟩=some (.int .i64 (b:Int))/\w'.cell? ⟨R,a,none⟩=some (W64 (m.reg (a:Int)))/\w'.cell? ⟨R,b,none⟩=some (W64 (m.reg (b:Int)))) (fun _=>True) (by kernel_rfl) ⟨BKa.o.cell 0 rfl 1 rfl,BKa.o.cell 0 rfl 2 rfl,BKa.o.cell 0 rfl 4 rfl,BKa.o.cell 0 rfl 5 rfl,BKa.o.cell 1 rfl a (fmL_reg hok _ _ _ a a1),BKa.o.cell 1 rfl b (fmL_reg hok _ _ _ b b1)⟩ trivial (fun hs=>?_);generalize w1.drew=w2 at *;refine WL.tk [(0,[]),(1,[1]),(2,[]),(3,[3]),(4,[]),(5,[]),(6,[10,9,6]),(7,[]),(8,[]),(9,[]),(10,[10]),(11,[]),(12,[]),(13,[17,16,13]),(14,[]),(15,[]),(16,[]),(17,[17])] hs ?_;clear hs
 iterate 18
  (first|refine WLp ?_ ?_ ?_|refine WLl ?_ ?_ ?_);rotate_left
  ·intro w hc;go_simp<;>rfl
  simp only[Act.put,sA,sZ,sS]
 refine TKs.mk ?_;intro hs;refine WLo 18 hs ?_;clear hs;intro K hK;go_simp;refine(HDO.o _).mono ?_;rintro e w7 ⟨rfl,hs⟩;have BKb:=Hd (BKa.o.call hs);clear hs;refine hK.o _ _ SaF ?_;clear hK K;intro hs;try simp only[Act.put,sA,sZ,sS]
 refine WL.tk [(19,[]),(20,[]),(21,[])] hs ?_;clear hs
 iterate 3
  (first|refine WLp ?_ ?_ ?_|refine WLl ?_ ?_ ?_);rotate_left
  ·intro w hc;go_simp<;>rfl
  simp only[Act.put,sA,sZ,sS]
 refine TKs.mk ?_;intro hs;refine WLo 22 hs ?_;clear hs;intro K hK;go_simp;refine hK.o _ _ SaF ?_;clear hK K;intro hs;try simp only[Act.put,sA,sZ,sS]
 refine WLo 23 hs ?_;clear hs;intro K hK;go_simp;refine hK.o _ _ SaF ?_;clear hK K;intro hs;try simp only[Act.put,sA,sZ,sS]
 clear hs;refine WLd ?_ _;try simp only[Exit.then]
 go_wp2_with fail;refine(rnMust_ok _).mono ?_;rintro e w8 ⟨rfl,rfl⟩;go_wp2_with fail;have BKc:=Hd BKb.o.drew;refine WL.begin 7 (fun w'=>w'.cell? ⟨X,3,none⟩=some (.int .i64 (d:Int))) (fun _=>True) (by kernel_rfl) (BKc.o.cell 0 rfl 3 rfl) trivial (fun hs=>?_);generalize w8.drew=w9 at *;refine WL.tk [(0,[]),(1,[]),(2,[2]),(3,[]),(4,[]),(5,[]),(6,[])] hs ?_;clear hs
 iterate 7
  (first|refine WLp ?_ ?_ ?_|refine WLl ?_ ?_ ?_);rotate_left
  ·intro w hc;go_simp<;>rfl
  simp only[Act.put,sA,sZ,sS]
 refine TKs.mk ?_;intro hs;refine WLo 7 hs ?_;clear hs;intro K hK;have c0:=BKc.o.cell 1 rfl d (fmL_reg hok _ _ _ d d1);have f0:=BKc.o.free 1 rfl d;simp only[W64];go_simp;have BKd:=Hd (BKc.o.boxSet 1 rfl d (W64 (T.ado wh nr (m.reg (a:Int)) (m.reg (b:Int)))));clear c0 f0;refine hK.o _ _ SaF ?_;clear hK K;intro hs;try simp only[Act.put]
 clear hs;refine WLd ?_ _;try simp only[Exit.then]
 go_wp2;go_end0;refine⟨rfl,?_⟩;have h:=BKd.o.drop;rw[fmL_put hok _ _ _ d d1]at h;exact h
theorem rnAsk_ok{K:List (Nat×Obj)}{R:Nat}{m:T.Fm}{pk st dn:Value}{w0 w:World}{L:List Acc}(f:T.Fl)(hB:BankK K w0 w (boxAcc R 78 (fmL m pk st dn)::L))(hok:Fok m)(ha:T.reg16 f.a)(hb:T.reg16 f.b)(hw:17<=f.what/\f.what<=27)(t:Nat)(ht:f.to=(t:Int))(y:Bool)(hy:T.ais f.what f.narrow (m.reg f.a) (m.reg f.b)=y):Calls Tryz.prog 71 #[.pointer (some ⟨R,0,none⟩),flV f] w (RnP K w0 R (if y then { m with at':=t }else m) pk st dn L):=by
 have hIS:=fun w=>aluIs_any w f.what f.narrow (m.reg f.a) (m.reg f.b) hw
 rw[hy]at hIS;have HIS:=Hd hIS;clear hw hy hIS;obtain⟨k,wh,nr,d,a,b,n,size,tt⟩:=f;simp only at *;obtain⟨a,rfl⟩:=Int.eq_ofNat_of_zero_le ha.1;have a1:a<16:=by have:=ha.2;omega
 have aj0:(0:Int)<=(a:Int):=by omega
 have aj1:(a:Int)<(16:Int):=by omega
 clear ha;obtain⟨b,rfl⟩:=Int.eq_ofNat_of_zero_le hb.1;have b1:b<16:=by have:=hb.2;omega
 have bj0:(0:Int)<=(b:Int):=by omega
 have bj1:(b:Int)<(16:Int):=by omega
 clear hb;subst ht;unfold flV flL;have BK0:=Hd (hB.boxL [.int .u8 k,.int .u8 wh,.bool nr,.int .i64 d,.int .i64 (a:Int),.int .i64 (b:Int),W64 n,.int .i64 size,.int .i64 (t:Int)] 58 (by simp));clear hB;go_enter Tryz.func71,Tryz.ntmps71;go_upto_region 1 with fail;generalize w.heap.size=X at *
 first|refine wp_hid BK0 (fun w1 BK0=>?_)|refine wp_hidK BK0 (fun w1 BK0=>?_)
 have BKa:=Hd BK0.o.drew;refine WL.begin 18 (fun w'=>w'.cell? ⟨X,1,none⟩=some (.int .u8 wh)/\w'.cell? ⟨X,2,none⟩=some (.bool nr)/\w'.cell? ⟨X,4,none⟩=some (.int .i64 (a:Int))/\w'.cell? ⟨X,5,none⟩=some (.int .i64 (b:Int))/\w'.cell? ⟨R,a,none⟩=some (W64 (m.reg (a:Int)))/\w'.cell? ⟨R,b,none⟩=some (W64 (m.reg (b:Int)))) (fun _=>True) (by kernel_rfl) ⟨BKa.o.cell 0 rfl 1 rfl,BKa.o.cell 0 rfl 2 rfl,BKa.o.cell 0 rfl 4 rfl,BKa.o.cell 0 rfl 5 rfl,BKa.o.cell 1 rfl a (fmL_reg hok _ _ _ a a1),BKa.o.cell 1 rfl b (fmL_reg hok _ _ _ b b1)⟩ trivial (fun hs=>?_);generalize w1.drew=w2 at *;refine WL.tk [(0,[]),(1,[1]),(2,[]),(3,[3]),(4,[]),(5,[]),(6,[10,9,6]),(7,[]),(8,[]),(9,[]),(10,[10]),(11,[]),(12,[]),(13,[17,16,13]),(14,[]),(15,[]),(16,[]),(17,[17])] hs ?_;clear hs
 iterate 18
  (first|refine WLp ?_ ?_ ?_|refine WLl ?_ ?_ ?_);rotate_left
  ·intro w hc;go_simp<;>rfl
  simp only[Act.put,sA,sZ,sS]
 refine TKs.mk ?_;intro hs;refine WLo 18 hs ?_;clear hs;intro K hK;go_simp;refine(HIS.o _).mono ?_;rintro e w7 ⟨rfl,rfl⟩;refine hK.o _ _ SaF ?_;clear hK K;intro hs;try simp only[Act.put,sA,sZ,sS]
 refine WL.tk [(19,[]),(20,[]),(21,[])] hs ?_;clear hs
 iterate 3
  (first|refine WLp ?_ ?_ ?_|refine WLl ?_ ?_ ?_);rotate_left
  ·intro w hc;go_simp<;>rfl
  simp only[Act.put,sA,sZ,sS]
 refine TKs.mk ?_;intro hs;refine WLo 22 hs ?_;clear hs;intro K hK;go_simp;refine hK.o _ _ SaF ?_;clear hK K;intro hs;try simp only[Act.put,sA,sZ,sS]
 refine WLo 23 hs ?_;clear hs;intro K hK;go_simp;refine hK.o _ _ SaF ?_;clear hK K;intro hs;try simp only[Act.put,sA,sZ,sS]
 clear hs;refine WLd ?_ _;try simp only[Exit.then]
 cases y
 case false =>
  go_wp2;go_end0;exact⟨rfl,BKa.o.drop⟩
 case true =>
  have c0:=BKa.o.cell 1 rfl 529 (fmL_end hok _ _ _ 1);have f0:=BKa.o.free 1 rfl 529;have x8:=BKa.o.cell 0 rfl 8 rfl;have BKb:=Hd (BKa.o.boxSet 1 rfl 529 (.int .i64 (t:Int)));go_wp2;go_end0;refine⟨rfl,?_⟩;have h:=BKb.o.drop;rw[fmL_at hok]at h;exact h
theorem rnLoad_ok{K:List (Nat×Obj)}{R:Nat}{m:T.Fm}{st dn:Value}{A:Option Addr}{pn c:Nat}{pkl:List T.B}{w0 w:World}{L:List Acc}(f:T.Fl)(hB:BankK K w0 w (boxAcc R 78 (fmL m (.slice A pn c) st dn)::L))(hok:Fok m)(hd:T.reg16 f.d)(ha:T.reg16 f.a)(hr:RowRd w0 ⟨A,pn,c⟩ pkl)(hn:pn<=1000000)(hg:T.getErr pn (m.reg f.a+f.n).toInt f.size=0):Calls Tryz.prog 67 #[.pointer (some ⟨R,0,none⟩),flV f] w (RnP K w0 R (m.put f.d (T.gets pkl (m.reg f.a+f.n).toInt.toNat f.size.toNat)) (.slice A pn c) st dn L):=by
 obtain⟨gs,g1,g2⟩:=getErr_facts hg;obtain⟨q,hq⟩:=Int.eq_ofNat_of_zero_le g1;obtain⟨sz,hsz⟩:∃sz:Nat,f.size=(sz:Int):=⟨f.size.toNat,by omega⟩
 have HF:=Hd (fun w hR=>rnFar_ok R m (.slice A pn c) st dn f w hok hR ha (q:Int) hq);rw[hq,hsz]at hg ⊢;have HG:=Hd (fun w hr=>pkGet_ok A pn c pkl q sz w hr hn hg);rw[Int.toNat_natCast,Int.toNat_natCast];clear hg hq g1 g2 gs ha;obtain⟨k,wh,nr,d,a,b,n,size,tt⟩:=f;simp only at *;obtain⟨d,rfl⟩:=Int.eq_ofNat_of_zero_le hd.1;have d1:d<16:=by have:=hd.2;omega
 have dj0:(0:Int)<=(d:Int):=by omega
 have dj1:(d:Int)<(16:Int):=by omega
 clear hd;subst hsz;unfold flV flL;have BK0:=Hd (hB.boxL [.int .u8 k,.int .u8 wh,.bool nr,.int .i64 (d:Int),.int .i64 a,.int .i64 b,W64 n,.int .i64 (sz:Int),.int .i64 tt] 58 (by simp));clear hB;go_enter Tryz.func67,Tryz.ntmps67;go_upto_region 1 with fail;generalize w.heap.size=X at *
 first|refine wp_hid BK0 (fun w1 BK0=>?_)|refine wp_hidK BK0 (fun w1 BK0=>?_)
 have BKa:=Hd BK0.o.drew;refine WL.begin 11 (fun w'=>w'.cell? ⟨X,0,none⟩=some (.int .u8 k)/\w'.cell? ⟨X,1,none⟩=some (.int .u8 wh)/\w'.cell? ⟨X,2,none⟩=some (.bool nr)/\w'.cell? ⟨X,3,none⟩=some (.int .i64 (d:Int))/\w'.cell? ⟨X,4,none⟩=some (.int .i64 a)/\w'.cell? ⟨X,5,none⟩=some (.int .i64 b)/\w'.cell? ⟨X,6,none⟩=some (W64 n)/\w'.cell? ⟨X,7,none⟩=some (.int .i64 (sz:Int))/\w'.cell? ⟨X,8,none⟩=some (.int .i64 tt)/\w'.cell? ⟨R,528,none⟩=some (.slice A pn c)) (fun _=>True) (by kernel_rfl) ⟨BKa.o.cell 0 rfl 0 rfl,BKa.o.cell 0 rfl 1 rfl,BKa.o.cell 0 rfl 2 rfl,BKa.o.cell 0 rfl 3 rfl,BKa.o.cell 0 rfl 4 rfl,BKa.o.cell 0 rfl 5 rfl,BKa.o.cell 0 rfl 6 rfl,BKa.o.cell 0 rfl 7 rfl,BKa.o.cell 0 rfl 8 rfl,BKa.o.cell 1 rfl 528 (fmL_end hok _ _ _ 0)⟩ trivial (fun hs=>?_);generalize w1.drew=w2 at *;refine WL.tk [(0,[]),(1,[]),(2,[]),(3,[3]),(4,[]),(5,[]),(6,[]),(7,[8,7]),(9,[]),(10,[10])] hs ?_;clear hs
 iterate 10
  (first|refine WLp ?_ ?_ ?_|refine WLl ?_ ?_ ?_);rotate_left
  ·intro w hc;go_simp<;>rfl
  simp only[Act.put,sA,sZ,sS]
 refine TKs.mk ?_;intro hs;refine WLo 8 hs ?_;clear hs;intro K hK;go_simp;refine(HF.o _ (fun j v hj=>BKa.o.cell 1 rfl j hj)).mono ?_;rintro e w5 ⟨rfl,hs⟩;have BKm:=Hd (BKa.o.call hs);clear hs;refine hK.o _ _ (SApp.intro (fun _=>⟨BKm.o.cell 0 rfl 0 rfl,BKm.o.cell 0 rfl 1 rfl,BKm.o.cell 0 rfl 2 rfl,BKm.o.cell 0 rfl 3 rfl,BKm.o.cell 0 rfl 4 rfl,BKm.o.cell 0 rfl 5 rfl,BKm.o.cell 0 rfl 6 rfl,BKm.o.cell 0 rfl 7 rfl,BKm.o.cell 0 rfl 8 rfl,BKm.o.cell 1 rfl 528 (fmL_end hok _ _ _ 0)⟩) trivial) ?_;clear hK K;intro hs;try simp only[Act.put,sA,sZ,sS]
 refine WLo 11 hs ?_;clear hs;intro K hK;go_simp;refine(HG.o _ (BKm.o.since.row hr)).mono ?_;rintro e w7 ⟨rfl,hs⟩;have BKb:=Hd (BKm.o.call hs);clear hs;refine hK.o _ _ SaF ?_;clear hK K;intro hs;try simp only[Act.put,sA,sZ,sS]
 refine WL.tk [(12,[]),(13,[]),(14,[])] hs ?_;clear hs
 iterate 3
  (first|refine WLp ?_ ?_ ?_|refine WLl ?_ ?_ ?_);rotate_left
  ·intro w hc;go_simp<;>rfl
  simp only[Act.put,sA,sZ,sS]
 refine TKs.mk ?_;intro hs;refine WLo 15 hs ?_;clear hs;intro K hK;go_simp;refine hK.o _ _ SaF ?_;clear hK K;intro hs;try simp only[Act.put,sA,sZ,sS]
 refine WLo 16 hs ?_;clear hs;intro K hK;go_simp;refine hK.o _ _ SaF ?_;clear hK K;intro hs;try simp only[Act.put,sA,sZ,sS]
 clear hs;refine WLd ?_ _;try simp only[Exit.then]
 go_wp2_with fail;refine(rnMust_ok _).mono ?_;rintro e w8 ⟨rfl,rfl⟩;go_wp2_with fail;have BKc:=Hd BKb.o.drew;refine WL.begin 7 (fun w'=>w'.cell? ⟨X,3,none⟩=some (.int .i64 (d:Int))) (fun _=>True) (by kernel_rfl) (BKc.o.cell 0 rfl 3 rfl) trivial (fun hs=>?_);generalize w8.drew=w9 at *;refine WL.tk [(0,[]),(1,[]),(2,[2]),(3,[]),(4,[]),(5,[]),(6,[])] hs ?_;clear hs
 iterate 7
  (first|refine WLp ?_ ?_ ?_|refine WLl ?_ ?_ ?_);rotate_left
  ·intro w hc;go_simp<;>rfl
  simp only[Act.put,sA,sZ,sS]
 refine TKs.mk ?_;intro hs;refine WLo 7 hs ?_;clear hs;intro K hK;have c0:=BKc.o.cell 1 rfl d (fmL_reg hok _ _ _ d d1);have f0:=BKc.o.free 1 rfl d;simp only[W64];go_simp;have BKd:=Hd (BKc.o.boxSet 1 rfl d (W64 (T.gets pkl q sz)));clear c0 f0;refine hK.o _ _ SaF ?_;clear hK K;intro hs;try simp only[Act.put]
 clear hs;refine WLd ?_ _;try simp only[Exit.then]
 go_wp2;go_end0;refine⟨rfl,?_⟩;have h:=BKd.o.drop;rw[fmL_put hok _ _ _ d d1]at h;exact h
theorem cell_in{z:T.U}{s:Int}(h:T.cellErr z.toInt s=false): -512<=z.toInt/\z.toInt <= -s:=by
 unfold T.cellErr at h;have:=of_decide_eq_false h;omega
theorem rnRead_ok{K:List (Nat×Obj)}{R:Nat}{m:T.Fm}{pk st dn:Value}{w0 w:World}{L:List Acc}(f:T.Fl)(hB:BankK K w0 w (boxAcc R 78 (fmL m pk st dn)::L))(hok:Fok m)(hd:T.reg16 f.d)(ha:T.reg16 f.a)(hs:T.sized f.size=true)(hc:T.cellErr (m.reg f.a+f.n).toInt f.size=false):Calls Tryz.prog 68 #[.pointer (some ⟨R,0,none⟩),flV f] w (RnP K w0 R (m.put f.d (T.gets m.stk ((m.reg f.a+f.n).toInt+512).toNat f.size.toNat)) pk st dn L):=by
 obtain⟨c1,c2⟩:=cell_in hc;have gs:=T.sized_cases hs;obtain⟨q,hq⟩:=Int.eq_ofNat_of_zero_le (show 0<=(m.reg f.a+f.n).toInt+512 by omega);obtain⟨sz,hsz⟩:∃sz:Nat,f.size=(sz:Int):=⟨f.size.toNat,by omega⟩
 have HF:=Hd (fun w hR=>rnCell_ok R m pk st dn f w hok hR ha hs q hq (by omega));rw[hq,hsz];rw[Int.toNat_natCast,Int.toNat_natCast];have gq:q+sz<=512:=by omega
 have gz:T.getErr 512 (q:Int) (sz:Int)=0:=by
  unfold T.getErr;rw[<-hsz,hs,hsz];rw[if_neg (by simp),if_neg (by omega)]
 have GQ:=Hd gq;have hat:=stk_all;have HG:=Hd (fun w hr=>pkGet_ok (some ⟨R,16,none⟩) 512 512 m.stk q sz w hr (by decide) gz);clear hc hq c1 c2 gs ha hs gq gz;obtain⟨k,wh,nr,d,a,b,n,size,tt⟩:=f;simp only at *;obtain⟨d,rfl⟩:=Int.eq_ofNat_of_zero_le hd.1;have d1:d<16:=by have:=hd.2;omega
 have dj0:(0:Int)<=(d:Int):=by omega
 have dj1:(d:Int)<(16:Int):=by omega
 clear hd;subst hsz;unfold flV flL;have BK0:=Hd (hB.boxL [.int .u8 k,.int .u8 wh,.bool nr,.int .i64 (d:Int),.int .i64 a,.int .i64 b,W64 n,.int .i64 (sz:Int),.int .i64 tt] 58 (by simp));clear hB;go_enter Tryz.func68,Tryz.ntmps68;go_upto_region 1 with fail;generalize w.heap.size=X at *
 first|refine wp_hid BK0 (fun w1 BK0=>?_)|refine wp_hidK BK0 (fun w1 BK0=>?_)
 have BKa:=Hd BK0.o.drew;refine WL.begin 19 (fun w'=>w'.cell? ⟨X,0,none⟩=some (.int .u8 k)/\w'.cell? ⟨X,1,none⟩=some (.int .u8 wh)/\w'.cell? ⟨X,2,none⟩=some (.bool nr)/\w'.cell? ⟨X,3,none⟩=some (.int .i64 (d:Int))/\w'.cell? ⟨X,4,none⟩=some (.int .i64 a)/\w'.cell? ⟨X,5,none⟩=some (.int .i64 b)/\w'.cell? ⟨X,6,none⟩=some (W64 n)/\w'.cell? ⟨X,7,none⟩=some (.int .i64 (sz:Int))/\w'.cell? ⟨X,8,none⟩=some (.int .i64 tt)) (fun _=>True) (by kernel_rfl) ⟨BKa.o.cell 0 rfl 0 rfl,BKa.o.cell 0 rfl 1 rfl,BKa.o.cell 0 rfl 2 rfl,BKa.o.cell 0 rfl 3 rfl,BKa.o.cell 0 rfl 4 rfl,BKa.o.cell 0 rfl 5 rfl,BKa.o.cell 0 rfl 6 rfl,BKa.o.cell 0 rfl 7 rfl,BKa.o.cell 0 rfl 8 rfl⟩ trivial (fun hs=>?_);generalize w1.drew=w2 at *;refine WL.tk [(0,[]),(1,[]),(2,[2]),(3,[]),(4,[]),(5,[]),(6,[]),(7,[]),(8,[8]),(10,[]),(11,[11]),(16,[]),(17,[])] hs ?_;clear hs
 iterate 13
  (first|refine WLp ?_ ?_ ?_|refine WLl ?_ ?_ ?_);rotate_left
  ·intro w hc;go_simp<;>rfl
  simp only[Act.put,sA,sZ,sS]
 refine TKs.mk ?_;intro hs;refine WLo 9 hs ?_;clear hs;intro K hK;go_simp;refine(HF.o _ (fun j v hj=>BKa.o.cell 1 rfl j hj)).mono ?_;rintro e w5 ⟨rfl,hs⟩;have BKm:=Hd (BKa.o.call hs);clear hs;refine hK.o _ _ (SApp.intro (fun _=>⟨BKm.o.cell 0 rfl 0 rfl,BKm.o.cell 0 rfl 1 rfl,BKm.o.cell 0 rfl 2 rfl,BKm.o.cell 0 rfl 3 rfl,BKm.o.cell 0 rfl 4 rfl,BKm.o.cell 0 rfl 5 rfl,BKm.o.cell 0 rfl 6 rfl,BKm.o.cell 0 rfl 7 rfl,BKm.o.cell 0 rfl 8 rfl⟩) trivial) ?_;clear hK K;intro hs;try simp only[Act.put,sA,sZ,sS]
 refine WLo 12 hs ?_;clear hs;intro K hK;go_simp;refine(HG.o _ (fm_stk hok (fun j v hj=>BKm.o.cell 1 rfl j hj))).mono ?_;rintro e w7 ⟨rfl,hs⟩;have BKb:=Hd (BKm.o.call hs);clear hs;refine hK.o _ _ (SApp.intro (fun _=>⟨BKb.o.cell 0 rfl 0 rfl,BKb.o.cell 0 rfl 1 rfl,BKb.o.cell 0 rfl 2 rfl,BKb.o.cell 0 rfl 3 rfl,BKb.o.cell 0 rfl 4 rfl,BKb.o.cell 0 rfl 5 rfl,BKb.o.cell 0 rfl 6 rfl,BKb.o.cell 0 rfl 7 rfl,BKb.o.cell 0 rfl 8 rfl⟩) trivial) ?_;clear hK K;intro hs;try simp only[Act.put,sA,sZ,sS]
 refine WL.tk [(13,[]),(14,[]),(15,[]),(18,[])] hs ?_;clear hs
 iterate 4
  (first|refine WLp ?_ ?_ ?_|refine WLl ?_ ?_ ?_);rotate_left
  ·intro w hc;go_simp<;>rfl
  simp only[Act.put,sA,sZ,sS]
 refine TKs.mk ?_;intro hs;refine WLo 19 hs ?_;clear hs;intro K hK;have c0:=BKb.o.cell 1 rfl d (fmL_reg hok _ _ _ d d1);have f0:=BKb.o.free 1 rfl d;simp only[W64];go_simp;have BKd:=Hd (BKb.o.boxSet 1 rfl d (W64 (T.gets m.stk q sz)));clear c0 f0;refine hK.o _ _ SaF ?_;clear hK K;intro hs;try simp only[Act.put]
 clear hs;refine WLd ?_ _;try simp only[Exit.then]
 go_wp2;go_end0;refine⟨rfl,?_⟩;have h:=BKd.o.drop;rw[fmL_put hok _ _ _ d d1]at h;exact h
theorem rnWrite_ok{K:List (Nat×Obj)}{R:Nat}{m:T.Fm}{pk st dn:Value}{w0 w:World}{L:List Acc}(f:T.Fl)(hB:BankK K w0 w (boxAcc R 78 (fmL m pk st dn)::L))(hok:Fok m)(ha:T.reg16 f.a)(hb:T.reg16 f.b)(hs:T.sized f.size=true)(hc:T.cellErr (m.reg f.a+f.n).toInt f.size=false):Calls Tryz.prog 69 #[.pointer (some ⟨R,0,none⟩),flV f] w (RnP K w0 R { m with stk:=T.puts m.stk ((m.reg f.a+f.n).toInt+512).toNat f.size.toNat (m.reg f.b) } pk st dn L):=by
 obtain⟨c1,c2⟩:=cell_in hc;have gs:=T.sized_cases hs;obtain⟨q,hq⟩:=Int.eq_ofNat_of_zero_le (show 0<=(m.reg f.a+f.n).toInt+512 by omega);obtain⟨sz,hsz⟩:∃sz:Nat,f.size=(sz:Int):=⟨f.size.toNat,by omega⟩
 have HF:=Hd (fun w hR=>rnCell_ok R m pk st dn f w hok hR ha hs q hq (by omega));rw[hq,hsz];rw[Int.toNat_natCast,Int.toNat_natCast];have gq:q+sz<=512:=by omega
 have gz:T.getErr 512 (q:Int) (sz:Int)=0:=by
  unfold T.getErr;rw[<-hsz,hs,hsz];rw[if_neg (by simp),if_neg (by omega)]
 have GQ:=Hd gq;have hat:=stk_all;have HTS:=Hd (fun(w1 w:World) (L:List Acc) (j:Nat) (v:T.U) (hb:BankK K w1 w L) (hi:L[j]?=some (boxAcc R 78 (fmL m pk st dn)))=>pkSetK_ok R 16 512 512 78 (fmL m pk st dn) v q sz j hb hi (by rw[fmL_len hok];decide) (by decide) gz);clear hc hq c1 c2 gs ha hs gq gz;obtain⟨k,wh,nr,d,a,b,n,size,tt⟩:=f;simp only at *;obtain⟨b,rfl⟩:=Int.eq_ofNat_of_zero_le hb.1;have b1:b<16:=by have:=hb.2;omega
 have bj0:(0:Int)<=(b:Int):=by omega
 have bj1:(b:Int)<(16:Int):=by omega
 clear hb;subst hsz;unfold flV flL;have BK0:=Hd (hB.boxL [.int .u8 k,.int .u8 wh,.bool nr,.int .i64 d,.int .i64 a,.int .i64 (b:Int),W64 n,.int .i64 (sz:Int),.int .i64 tt] 58 (by simp));clear hB;go_enter Tryz.func69,Tryz.ntmps69;go_upto_region 1 with fail;generalize w.heap.size=X at *
 first|refine wp_hid BK0 (fun w1 BK0=>?_)|refine wp_hidK BK0 (fun w1 BK0=>?_)
 have BKa:=Hd BK0.o.drew;refine WL.begin 16 (fun w'=>w'.cell? ⟨X,0,none⟩=some (.int .u8 k)/\w'.cell? ⟨X,1,none⟩=some (.int .u8 wh)/\w'.cell? ⟨X,2,none⟩=some (.bool nr)/\w'.cell? ⟨X,3,none⟩=some (.int .i64 d)/\w'.cell? ⟨X,4,none⟩=some (.int .i64 a)/\w'.cell? ⟨X,5,none⟩=some (.int .i64 (b:Int))/\w'.cell? ⟨X,6,none⟩=some (W64 n)/\w'.cell? ⟨X,7,none⟩=some (.int .i64 (sz:Int))/\w'.cell? ⟨X,8,none⟩=some (.int .i64 tt)/\w'.cell? ⟨R,b,none⟩=some (W64 (m.reg (b:Int)))) (fun _=>True) (by kernel_rfl) ⟨BKa.o.cell 0 rfl 0 rfl,BKa.o.cell 0 rfl 1 rfl,BKa.o.cell 0 rfl 2 rfl,BKa.o.cell 0 rfl 3 rfl,BKa.o.cell 0 rfl 4 rfl,BKa.o.cell 0 rfl 5 rfl,BKa.o.cell 0 rfl 6 rfl,BKa.o.cell 0 rfl 7 rfl,BKa.o.cell 0 rfl 8 rfl,BKa.o.cell 1 rfl b (fmL_reg hok _ _ _ b b1)⟩ trivial (fun hs=>?_);generalize w1.drew=w2 at *;refine WL.tk [(0,[]),(1,[]),(2,[]),(3,[]),(4,[]),(5,[6,5]),(7,[]),(8,[8]),(9,[]),(10,[]),(11,[15,14,11]),(12,[]),(13,[]),(14,[]),(15,[15])] hs ?_;clear hs
 iterate 15
  (first|refine WLp ?_ ?_ ?_|refine WLl ?_ ?_ ?_);rotate_left
  ·intro w hc;go_simp<;>rfl
  simp only[Act.put,sA,sZ,sS]
 refine TKs.mk ?_;intro hs;refine WLo 6 hs ?_;clear hs;intro K hK;go_simp;refine(HF.o _ (fun j v hj=>BKa.o.cell 1 rfl j hj)).mono ?_;rintro e w5 ⟨rfl,hs⟩;have BKm:=Hd (BKa.o.call hs);clear hs;refine hK.o _ _ (SApp.intro (fun _=>⟨BKm.o.cell 0 rfl 0 rfl,BKm.o.cell 0 rfl 1 rfl,BKm.o.cell 0 rfl 2 rfl,BKm.o.cell 0 rfl 3 rfl,BKm.o.cell 0 rfl 4 rfl,BKm.o.cell 0 rfl 5 rfl,BKm.o.cell 0 rfl 6 rfl,BKm.o.cell 0 rfl 7 rfl,BKm.o.cell 0 rfl 8 rfl,BKm.o.cell 1 rfl b (fmL_reg hok _ _ _ b b1)⟩) trivial) ?_;clear hK K;intro hs;try simp only[Act.put,sA,sZ,sS]
 refine WLo 16 hs ?_;clear hs;intro K hK;go_simp;refine(HTS.o _ _ _ 1 (m.reg (b:Int)) BKm.o rfl).mono ?_;rintro e w7 ⟨rfl,hb⟩;have BKb:=Hd hb;clear hb;refine hK.o _ _ SaF ?_;clear hK K;intro hs;try simp only[Act.put,sA,sZ,sS]
 clear hs;refine WLd ?_ _;try simp only[Exit.then]
 go_wp2;go_end0;refine⟨rfl,?_⟩;have h:=BKb.o.drop;rw[setsL_putsF hok _ _ _ q sz (m.reg (b:Int)) GQ.o]at h;exact h
end Go.Proofs.YtfeipbgnjainlaaGreatDoor.K
