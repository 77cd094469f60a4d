/- TSpD -/
import Derived.Test.YtfeipbgnjainlaaGreatDoorTp4
import Derived.Test.YtfeipbgnjainlaaGreatDoorTp2
import Derived.Test.YtfeipbgnjainlaaGreatDoorTp9
set_option linter.unusedVariables false
set_option linter.unusedSimpArgs false
set_option maxRecDepth 100000
set_option maxHeartbeats 4000000
namespace Go.Proofs.YtfeipbgnjainlaaGreatDoor.K
open Go Go.RowKit Go.Maps Go.Sort
theorem rl_keep{w w':World}{x:T.Wk}{X Y:Nat}{u v:Value}(h:Bank w w' [boxAcc Y 122 [u,v],boxAcc X 229 [W64 x.a.lo,W64 x.a.hi,W64 x.b.lo,W64 x.b.hi,.bool x.narrow,W64 x.most,W64 x.size]])(a b:Value):
  ((w'.setCell ⟨Y,0,none⟩ a).setCell ⟨Y,1,none⟩ b).cell? ⟨X,0,none⟩=some (W64 x.a.lo)/\((w'.setCell ⟨Y,0,none⟩ a).setCell ⟨Y,1,none⟩ b).cell? ⟨X,1,none⟩=some (W64 x.a.hi) /\
  ((w'.setCell ⟨Y,0,none⟩ a).setCell ⟨Y,1,none⟩ b).cell? ⟨X,2,none⟩=some (W64 x.b.lo)/\((w'.setCell ⟨Y,0,none⟩ a).setCell ⟨Y,1,none⟩ b).cell? ⟨X,3,none⟩=some (W64 x.b.hi):=by
 have hB:=(h.bs 0 0 a).bs 0 1 b;exact⟨hB.cl 1 0,hB.cl 1 1,hB.cl 1 2,hB.cl 1 3⟩
theorem rl_keepd{w w':World}{x:T.Wk}{X Y:Nat}{u v:Value}(h:Bank w w' [boxAcc Y 122 [u,v],boxAcc X 229 [W64 x.a.lo,W64 x.a.hi,W64 x.b.lo,W64 x.b.hi,.bool x.narrow,W64 x.most,W64 x.size]])(a b:Value):
  ((w'.setCell ⟨Y,0,none⟩ a).setCell ⟨Y,1,none⟩ b).drew.cell? ⟨X,0,none⟩=some (W64 x.a.lo)/\((w'.setCell ⟨Y,0,none⟩ a).setCell ⟨Y,1,none⟩ b).drew.cell? ⟨X,1,none⟩=some (W64 x.a.hi) /\
  ((w'.setCell ⟨Y,0,none⟩ a).setCell ⟨Y,1,none⟩ b).drew.cell? ⟨X,2,none⟩=some (W64 x.b.lo)/\((w'.setCell ⟨Y,0,none⟩ a).setCell ⟨Y,1,none⟩ b).drew.cell? ⟨X,3,none⟩=some (W64 x.b.hi):=rl_keep h a b
theorem wdiv_any(x:T.Wk)(w:World):Calls Tryz.prog 250 #[wkv x] w (RuleP w x.div):=by
 have HE:=Hd (fun q lo hi=>wends_any x lo hi q);have HO:=Hd (fun q=>wboth_any x q);have HM:=Hd (fun q s=>wmixed_any x s q);unfold wkv at HE HO HM ⊢;unfold spv at HE HM;have BK:=bk2 w [W64 x.a.lo,W64 x.a.hi,W64 x.b.lo,W64 x.b.hi,.bool x.narrow,W64 x.most,W64 x.size] 229 [W64 0#64,W64 0#64] 122;go_enter Tryz.func250,Tryz.ntmps250;go_upto_region 1 with fail;generalize w.heap.size=X at *;refine wp_hid BK (fun w1 BK=>?_);obtain⟨c0,c1,c2,c3,c4,c5,c6,d0,d1,f0,f1⟩:=rl_cells BK.o;have hu1:=umax1 x.b.hi;have hu2:=umax1 x.b.lo;go_wp2_with fail
 go_region_held3 (fun w'=>w'.cell? ⟨X,0,none⟩=some (W64 x.a.lo)/\w'.cell? ⟨X,1,none⟩=some (W64 x.a.hi)/\w'.cell? ⟨X,2,none⟩=some (W64 x.b.lo)/\w'.cell? ⟨X,3,none⟩=some (W64 x.b.hi))
  (first
    | with_reducible exact⟨c0,c1,c2,c3⟩
    | with_reducible exact⟨cell_drew c0,cell_drew c1,cell_drew c2,cell_drew c3⟩
    | with_reducible exact rl_keep BK.o _ _
    | with_reducible exact rl_keepd BK.o _ _
    | fail "keep")
  (first | fail "arm")
 all_goals
  go_wp2_with fail;refine bodyPost_ret (v:=.agg #[W64 (x.a.lo/T.umax x.b.hi 1#64),W64 (x.a.hi/T.umax x.b.lo 1#64)]) ?_ rfl (ruleP_some (x.a.lo/T.umax x.b.hi 1#64) (x.a.hi/T.umax x.b.lo 1#64) (rfl) (by first|exact rl_since BK.o _ _|exact(rl_since BK.o _ _).drew));simp[results,Tryz.results250,go_sem,d0,d1]
theorem and_t{x:T.Wk}(h:x.both=true):x.and=some ⟨x.a.lo &&& x.b.lo,x.a.lo &&& x.b.lo⟩:=by unfold T.Wk.and;rw[if_pos h];rfl
theorem and_f{x:T.Wk}(h:x.both=false):x.and=some ⟨0#64,T.umin x.a.hi x.b.hi⟩:=by unfold T.Wk.and;rw[h];rfl
theorem wand_any(x:T.Wk)(w:World):Calls Tryz.prog 252 #[wkv x] w (RuleP w x.and):=by
 have HE:=Hd (fun q lo hi=>wends_any x lo hi q);have HO:=Hd (fun q=>wboth_any x q);have HM:=Hd (fun q s=>wmixed_any x s q);unfold wkv at HE HO HM ⊢;unfold spv at HE HM;have BK:=bk2 w [W64 x.a.lo,W64 x.a.hi,W64 x.b.lo,W64 x.b.hi,.bool x.narrow,W64 x.most,W64 x.size] 229 [W64 0#64,W64 0#64] 122;go_enter Tryz.func252,Tryz.ntmps252;go_upto_region 1 with fail;generalize w.heap.size=X at *;refine wp_hid BK (fun w1 BK=>?_);obtain⟨c0,c1,c2,c3,c4,c5,c6,d0,d1,f0,f1⟩:=rl_cells BK.o;go_wp2_with fail;refine(HO.o _).mono ?_;rintro e w3 ⟨rfl,hs⟩;have BK2:=Hd (BK.o.call hs);clear c0 c1 c2 c3 c4 c5 c6 d0 d1 f0 f1;clear hs BK;obtain⟨c0,c1,c2,c3,c4,c5,c6,d0,d1,f0,f1⟩:=rl_cells BK2.o;cases hq:x.both
 case true =>
  have HQ:=Hd hq;go_wp2_with fail;refine(spOf_agg _ _).mono ?_;rintro e w3 ⟨rfl,hs⟩;have BK3:=Hd (BK2.o.call hs);clear c0 c1 c2 c3 c4 c5 c6 d0 d1 f0 f1;clear hs BK2;obtain⟨c0,c1,c2,c3,c4,c5,c6,d0,d1,f0,f1⟩:=rl_cells BK3.o;go_wp2;refine bodyPost_ret (v:=.agg #[W64 (x.a.lo &&& x.b.lo),W64 (x.a.lo &&& x.b.lo)]) ?_ rfl (ruleP_some (x.a.lo &&& x.b.lo) (x.a.lo &&& x.b.lo) (and_t HQ.o) (rl_since BK3.o _ _));simp[results,Tryz.results252,go_sem,d0,d1]
 case false =>
  have HQ:=Hd hq;go_wp2;refine bodyPost_ret (v:=.agg #[W64 (0#64),W64 (T.umin x.a.hi x.b.hi)]) ?_ rfl (ruleP_some (0#64) (T.umin x.a.hi x.b.hi) (and_f HQ.o) (rl_since BK2.o _ _));simp[results,Tryz.results252,go_sem,d0,d1]
theorem or_t{x:T.Wk}(h:x.both=true):x.or=some ⟨x.a.lo ||| x.b.lo,x.a.lo ||| x.b.lo⟩:=by unfold T.Wk.or;rw[if_pos h];rfl
theorem or_f{x:T.Wk}(h:x.both=false):x.or=some ⟨T.umax x.a.lo x.b.lo,T.fill (x.a.hi ||| x.b.hi)⟩:=by unfold T.Wk.or;rw[h];rfl
theorem wor_any(x:T.Wk)(w:World):Calls Tryz.prog 253 #[wkv x] w (RuleP w x.or):=by
 have HE:=Hd (fun q lo hi=>wends_any x lo hi q);have HO:=Hd (fun q=>wboth_any x q);have HM:=Hd (fun q s=>wmixed_any x s q);unfold wkv at HE HO HM ⊢;unfold spv at HE HM;have BK:=bk2 w [W64 x.a.lo,W64 x.a.hi,W64 x.b.lo,W64 x.b.hi,.bool x.narrow,W64 x.most,W64 x.size] 229 [W64 0#64,W64 0#64] 122;go_enter Tryz.func253,Tryz.ntmps253;go_upto_region 1 with fail;generalize w.heap.size=X at *;refine wp_hid BK (fun w1 BK=>?_);obtain⟨c0,c1,c2,c3,c4,c5,c6,d0,d1,f0,f1⟩:=rl_cells BK.o;go_wp2_with fail;refine(HO.o _).mono ?_;rintro e w3 ⟨rfl,hs⟩;have BK2:=Hd (BK.o.call hs);clear c0 c1 c2 c3 c4 c5 c6 d0 d1 f0 f1;clear hs BK;obtain⟨c0,c1,c2,c3,c4,c5,c6,d0,d1,f0,f1⟩:=rl_cells BK2.o;cases hq:x.both
 case true =>
  have HQ:=Hd hq;go_wp2_with fail;refine(spOf_agg _ _).mono ?_;rintro e w3 ⟨rfl,hs⟩;have BK3:=Hd (BK2.o.call hs);clear c0 c1 c2 c3 c4 c5 c6 d0 d1 f0 f1;clear hs BK2;obtain⟨c0,c1,c2,c3,c4,c5,c6,d0,d1,f0,f1⟩:=rl_cells BK3.o;go_wp2;refine bodyPost_ret (v:=.agg #[W64 (x.a.lo ||| x.b.lo),W64 (x.a.lo ||| x.b.lo)]) ?_ rfl (ruleP_some (x.a.lo ||| x.b.lo) (x.a.lo ||| x.b.lo) (or_t HQ.o) (rl_since BK3.o _ _));simp[results,Tryz.results253,go_sem,d0,d1]
 case false =>
  have HQ:=Hd hq;go_wp2_with fail
  go_region_held3 (fun w'=>w'.cell? ⟨X,0,none⟩=some (W64 x.a.lo)/\w'.cell? ⟨X,1,none⟩=some (W64 x.a.hi)/\w'.cell? ⟨X,2,none⟩=some (W64 x.b.lo)/\w'.cell? ⟨X,3,none⟩=some (W64 x.b.hi))
   (first
     | with_reducible exact⟨c0,c1,c2,c3⟩
     | with_reducible exact⟨cell_drew c0,cell_drew c1,cell_drew c2,cell_drew c3⟩
     | with_reducible exact rl_keep BK2.o _ _
     | with_reducible exact rl_keepd BK2.o _ _
     | fail "keep")
   (first | (go_at_call 270; refine (spfill_any _ _).mono ?_; rintro e w9 ⟨rfl, rfl⟩) | fail "arm")
  all_goals
   go_wp2_with fail;refine bodyPost_ret (v:=.agg #[W64 (T.umax x.a.lo x.b.lo),W64 (T.fill (x.a.hi ||| x.b.hi))]) ?_ rfl (ruleP_some (T.umax x.a.lo x.b.lo) (T.fill (x.a.hi ||| x.b.hi)) (or_f HQ.o) (by first|exact rl_since BK2.o _ _|exact(rl_since BK2.o _ _).drew));simp[results,Tryz.results253,go_sem,d0,d1]
theorem xor_t{x:T.Wk}(h:x.both=true):x.xor=some ⟨x.a.lo ^^^ x.b.lo,x.a.lo ^^^ x.b.lo⟩:=by unfold T.Wk.xor;rw[if_pos h];rfl
theorem xor_f{x:T.Wk}(h:x.both=false):x.xor=some ⟨0#64,T.fill (x.a.hi ||| x.b.hi)⟩:=by unfold T.Wk.xor;rw[h];rfl
theorem wxor_any(x:T.Wk)(w:World):Calls Tryz.prog 254 #[wkv x] w (RuleP w x.xor):=by
 have HE:=Hd (fun q lo hi=>wends_any x lo hi q);have HO:=Hd (fun q=>wboth_any x q);have HM:=Hd (fun q s=>wmixed_any x s q);unfold wkv at HE HO HM ⊢;unfold spv at HE HM;have BK:=bk2 w [W64 x.a.lo,W64 x.a.hi,W64 x.b.lo,W64 x.b.hi,.bool x.narrow,W64 x.most,W64 x.size] 229 [W64 0#64,W64 0#64] 122;go_enter Tryz.func254,Tryz.ntmps254;go_upto_region 1 with fail;generalize w.heap.size=X at *;refine wp_hid BK (fun w1 BK=>?_);obtain⟨c0,c1,c2,c3,c4,c5,c6,d0,d1,f0,f1⟩:=rl_cells BK.o;go_wp2_with fail;refine(HO.o _).mono ?_;rintro e w3 ⟨rfl,hs⟩;have BK2:=Hd (BK.o.call hs);clear c0 c1 c2 c3 c4 c5 c6 d0 d1 f0 f1;clear hs BK;obtain⟨c0,c1,c2,c3,c4,c5,c6,d0,d1,f0,f1⟩:=rl_cells BK2.o;cases hq:x.both
 case true =>
  have HQ:=Hd hq;go_wp2_with fail;refine(spOf_agg _ _).mono ?_;rintro e w3 ⟨rfl,hs⟩;have BK3:=Hd (BK2.o.call hs);clear c0 c1 c2 c3 c4 c5 c6 d0 d1 f0 f1;clear hs BK2;obtain⟨c0,c1,c2,c3,c4,c5,c6,d0,d1,f0,f1⟩:=rl_cells BK3.o;go_wp2;refine bodyPost_ret (v:=.agg #[W64 (x.a.lo ^^^ x.b.lo),W64 (x.a.lo ^^^ x.b.lo)]) ?_ rfl (ruleP_some (x.a.lo ^^^ x.b.lo) (x.a.lo ^^^ x.b.lo) (xor_t HQ.o) (rl_since BK3.o _ _));simp[results,Tryz.results254,go_sem,d0,d1]
 case false =>
  have HQ:=Hd hq;go_wp2_with fail;refine(spfill_any _ _).mono ?_;rintro e w3 ⟨rfl,rfl⟩;go_wp2;refine bodyPost_ret (v:=.agg #[W64 (0#64),W64 (T.fill (x.a.hi ||| x.b.hi))]) ?_ rfl (ruleP_some (0#64) (T.fill (x.a.hi ||| x.b.hi)) (xor_f HQ.o) (rl_since BK2.o _ _));simp[results,Tryz.results254,go_sem,d0,d1]
theorem shl_n{x:T.Wk}(h:x.b.one=false):x.shl=none:=by unfold T.Wk.shl;rw[h];rfl
theorem shl_t{x:T.Wk}{q:Bool}(h:x.b.one=true)(hq:x.a.hi.ule (x.most >>> (x.b.lo % x.size).toNat)=q):x.shl=bif q then some ⟨x.a.lo <<< (x.b.lo % x.size).toNat,x.a.hi <<< (x.b.lo % x.size).toNat⟩else none:=by
 unfold T.Wk.shl;rw[h,hq];cases q<;>rfl
theorem shr_t{x:T.Wk}(h:x.b.one=true):x.shr=some ⟨x.a.lo >>> (x.b.hi % x.size).toNat,x.a.hi >>> (x.b.lo % x.size).toNat⟩:=by unfold T.Wk.shr;rw[h];rfl
theorem shr_ft{x:T.Wk}(h:x.b.one=false)(h2:x.size.ule x.b.hi=true):x.shr=some ⟨0#64,x.a.hi⟩:=by unfold T.Wk.shr;rw[h,h2];rfl
theorem shr_ff{x:T.Wk}(h:x.b.one=false)(h2:x.size.ule x.b.hi=false):x.shr=some ⟨x.a.lo >>> x.b.hi.toNat,x.a.hi >>> x.b.lo.toNat⟩:=by unfold T.Wk.shr;rw[h,h2];rfl
theorem spone_agg(lo hi:BitVec 64)(w:World):Calls Tryz.prog 271 #[.agg #[W64 lo,W64 hi]] w (Ret w (.bool (T.Sp.one ⟨lo,hi⟩))):=spone_any ⟨lo,hi⟩ w
theorem wshl_any(x:T.Wk)(w:World):Calls Tryz.prog 255 #[wkv x] w (RuleP w x.shl):=by
 have HE:=Hd (fun q lo hi=>wends_any x lo hi q);have HO:=Hd (fun q=>wboth_any x q);have HM:=Hd (fun q s=>wmixed_any x s q);unfold wkv at HE HO HM ⊢;unfold spv at HE HM;have BK:=bk2 w [W64 x.a.lo,W64 x.a.hi,W64 x.b.lo,W64 x.b.hi,.bool x.narrow,W64 x.most,W64 x.size] 229 [W64 0#64,W64 0#64] 122;go_enter Tryz.func255,Tryz.ntmps255;go_upto_region 1 with fail;generalize w.heap.size=X at *;refine wp_hid BK (fun w1 BK=>?_);obtain⟨c0,c1,c2,c3,c4,c5,c6,d0,d1,f0,f1⟩:=rl_cells BK.o;have hsz:=size_ne x;go_wp2_with fail;refine(spone_agg _ _ _).mono ?_;rintro e w3 ⟨rfl,hs⟩;have BK2:=Hd (BK.o.call hs);clear c0 c1 c2 c3 c4 c5 c6 d0 d1 f0 f1;clear hs BK;obtain⟨c0,c1,c2,c3,c4,c5,c6,d0,d1,f0,f1⟩:=rl_cells BK2.o;cases hq:T.Sp.one ⟨x.b.lo,x.b.hi⟩
 case false =>
  have HQ:=Hd (show x.b.one=false from hq);go_wp2_with fail;refine(must_any _ _).mono ?_;rintro e w2 (⟨hm,rfl,hs⟩|⟨hm,rfl,hs⟩)
  case inr =>
   have HFIN:=Hd (ruleP_none (o:=x.shl) (shl_n HQ.o) (BK2.o.call hs).since);clear hs BK2;clear c0 c1 c2 c3 c4 c5 c6 d0 d1 f0 f1;go_wp2;exact⟨rfl,HFIN.o⟩
  have BK3:=Hd (BK2.o.call hs);have HMM:=Hd hm;clear c0 c1 c2 c3 c4 c5 c6 d0 d1 f0 f1;clear hs BK2 hm;obtain⟨c0,c1,c2,c3,c4,c5,c6,d0,d1,f0,f1⟩:=rl_cells BK3.o;cases HMM.o
 case true =>
  have HQ:=Hd (show x.b.one=true from hq);go_wp2_with fail;refine(must_any _ _).mono ?_;rintro e w2 (⟨hm,rfl,hs⟩|⟨hm,rfl,hs⟩)
  case inr =>
   have HFIN:=Hd (ruleP_none (o:=x.shl) (shl_t HQ.o hm) (BK2.o.call hs).since);clear hs BK2;clear c0 c1 c2 c3 c4 c5 c6 d0 d1 f0 f1;go_wp2;exact⟨rfl,HFIN.o⟩
  have BK3:=Hd (BK2.o.call hs);have HMM:=Hd hm;clear c0 c1 c2 c3 c4 c5 c6 d0 d1 f0 f1;clear hs BK2 hm;obtain⟨c0,c1,c2,c3,c4,c5,c6,d0,d1,f0,f1⟩:=rl_cells BK3.o;go_wp2;refine bodyPost_ret (v:=.agg #[W64 (x.a.lo <<< (x.b.lo % x.size).toNat),W64 (x.a.hi <<< (x.b.lo % x.size).toNat)]) ?_ rfl (ruleP_some (x.a.lo <<< (x.b.lo % x.size).toNat) (x.a.hi <<< (x.b.lo % x.size).toNat) (shl_t HQ.o HMM.o) (rl_since BK3.o _ _));simp[results,Tryz.results255,go_sem,d0,d1]
theorem wshr_any(x:T.Wk)(w:World):Calls Tryz.prog 256 #[wkv x] w (RuleP w x.shr):=by
 have HE:=Hd (fun q lo hi=>wends_any x lo hi q);have HO:=Hd (fun q=>wboth_any x q);have HM:=Hd (fun q s=>wmixed_any x s q);unfold wkv at HE HO HM ⊢;unfold spv at HE HM;have BK:=bk2 w [W64 x.a.lo,W64 x.a.hi,W64 x.b.lo,W64 x.b.hi,.bool x.narrow,W64 x.most,W64 x.size] 229 [W64 0#64,W64 0#64] 122;go_enter Tryz.func256,Tryz.ntmps256;go_upto_region 1 with fail;generalize w.heap.size=X at *;refine wp_hid BK (fun w1 BK=>?_);obtain⟨c0,c1,c2,c3,c4,c5,c6,d0,d1,f0,f1⟩:=rl_cells BK.o;have hsz:=size_ne x;go_wp2_with fail
 go_quiet (fail)
 have BK2:=Hd (BK.o.drewN nq);clear c0 c1 c2 c3 c4 c5 c6 d0 d1 f0 f1;clear BK;obtain⟨c0,c1,c2,c3,c4,c5,c6,d0,d1,f0,f1⟩:=rl_cells BK2.o;generalize w1.drewN nq=wq at *;go_wp2_with fail;refine(spone_agg _ _ _).mono ?_;rintro e w3 ⟨rfl,hs⟩;have BK3:=Hd (BK2.o.call hs);clear c0 c1 c2 c3 c4 c5 c6 d0 d1 f0 f1;clear hs BK2;obtain⟨c0,c1,c2,c3,c4,c5,c6,d0,d1,f0,f1⟩:=rl_cells BK3.o;cases hq:T.Sp.one ⟨x.b.lo,x.b.hi⟩
 case false =>
  have HQ:=Hd (show x.b.one=false from hq);cases hq2:x.size.ule x.b.hi
  case false =>
   have HQ2:=Hd hq2;go_wp2;refine bodyPost_ret (v:=.agg #[W64 (x.a.lo >>> x.b.hi.toNat),W64 (x.a.hi >>> x.b.lo.toNat)]) ?_ rfl (ruleP_some (x.a.lo >>> x.b.hi.toNat) (x.a.hi >>> x.b.lo.toNat) (shr_ff HQ.o HQ2.o) (rl_since BK3.o _ _));simp[results,Tryz.results256,go_sem,d0,d1]
  case true =>
   have HQ2:=Hd hq2;go_wp2;refine bodyPost_ret (v:=.agg #[W64 (0#64),W64 (x.a.hi)]) ?_ rfl (ruleP_some (0#64) (x.a.hi) (shr_ft HQ.o HQ2.o) (rl_since BK3.o _ _));simp[results,Tryz.results256,go_sem,d0,d1]
 case true =>
  have HQ:=Hd (show x.b.one=true from hq);go_wp2_with fail
  go_quiet (fail)
  have BK4:=Hd (BK3.o.drewN nq);clear c0 c1 c2 c3 c4 c5 c6 d0 d1 f0 f1;clear BK3;obtain⟨c0,c1,c2,c3,c4,c5,c6,d0,d1,f0,f1⟩:=rl_cells BK4.o;generalize w3.drewN nq=wq at *;go_wp2;refine bodyPost_ret (v:=.agg #[W64 (x.a.lo >>> (x.b.hi % x.size).toNat),W64 (x.a.hi >>> (x.b.lo % x.size).toNat)]) ?_ rfl (ruleP_some (x.a.lo >>> (x.b.hi % x.size).toNat) (x.a.hi >>> (x.b.lo % x.size).toNat) (shr_t HQ.o) (rl_since BK4.o _ _));simp[results,Tryz.results256,go_sem,d0,d1]
theorem sar_n{x:T.Wk}(h:x.b.one=false):x.sar=none:=by unfold T.Wk.sar;rw[h];rfl
theorem sar_t{x:T.Wk}{q:Bool}(h:x.b.one=true)(hq:(!x.mixed ⟨x.a.lo,x.a.hi⟩)=q):x.sar=bif q then some ⟨T.ado 11 x.narrow x.a.lo x.b.lo,T.ado 11 x.narrow x.a.hi x.b.lo⟩else none:=by
 unfold T.Wk.sar;rw[h,show(!x.mixed x.a)=q from hq];cases q<;>rfl
theorem aluV11(narrow:Bool)(a b:BitVec 64):aluV 11 narrow a b=T.ado 11 narrow a b:=by
 have h:∀(n:Nat) (c:BitVec n),T.aerrN n 11 c=0:=fun n c=>by unfold T.aerrN;rw[if_neg (fun e=>by rcases e.1 with h|h<;>revert h<;>decide)];decide
 unfold aluV T.ado T.aluR;rw[h,h,if_pos rfl,if_pos rfl]
theorem sarDo(narrow:Bool)(a b:BitVec 64)(w:World):Calls Tryz.prog 97 #[.int .u8 11,.bool narrow,W64 a,W64 b] w fun e w'=>e=.returned (.tuple #[W64 (T.ado 11 narrow a b),.int .i64 (T.aerr 11 narrow b)])/\Since w w':=by
 rw[<-aluV11];exact aluDo_any w 11 narrow a b (by decide)
theorem wsar_any(x:T.Wk)(w:World):Calls Tryz.prog 257 #[wkv x] w (RuleP w x.sar):=by
 have HE:=Hd (fun q lo hi=>wends_any x lo hi q);have HO:=Hd (fun q=>wboth_any x q);have HM:=Hd (fun q s=>wmixed_any x s q);unfold wkv at HE HO HM ⊢;unfold spv at HE HM;have BK:=bk2 w [W64 x.a.lo,W64 x.a.hi,W64 x.b.lo,W64 x.b.hi,.bool x.narrow,W64 x.most,W64 x.size] 229 [W64 0#64,W64 0#64] 122;go_enter Tryz.func257,Tryz.ntmps257;go_upto_region 1 with fail;generalize w.heap.size=X at *;refine wp_hid BK (fun w1 BK=>?_);obtain⟨c0,c1,c2,c3,c4,c5,c6,d0,d1,f0,f1⟩:=rl_cells BK.o;go_wp2_with fail;refine(spone_agg _ _ _).mono ?_;rintro e w3 ⟨rfl,hs⟩;have BK2:=Hd (BK.o.call hs);clear c0 c1 c2 c3 c4 c5 c6 d0 d1 f0 f1;clear hs BK;obtain⟨c0,c1,c2,c3,c4,c5,c6,d0,d1,f0,f1⟩:=rl_cells BK2.o;cases hq:T.Sp.one ⟨x.b.lo,x.b.hi⟩
 case false =>
  have HQ:=Hd (show x.b.one=false from hq);go_wp2_with fail;refine(must_any _ _).mono ?_;rintro e w2 (⟨hm,rfl,hs⟩|⟨hm,rfl,hs⟩)
  case inr =>
   have HFIN:=Hd (ruleP_none (o:=x.sar) (sar_n HQ.o) (BK2.o.call hs).since);clear hs BK2;clear c0 c1 c2 c3 c4 c5 c6 d0 d1 f0 f1;go_wp2;exact⟨rfl,HFIN.o⟩
  have BK3:=Hd (BK2.o.call hs);have HMM:=Hd hm;clear c0 c1 c2 c3 c4 c5 c6 d0 d1 f0 f1;clear hs BK2 hm;obtain⟨c0,c1,c2,c3,c4,c5,c6,d0,d1,f0,f1⟩:=rl_cells BK3.o;cases HMM.o
 case true =>
  have HQ:=Hd (show x.b.one=true from hq);go_wp2_with fail;refine(HM.o _ ⟨_,_⟩).mono ?_;rintro e w3 ⟨rfl,hs⟩;have BK3:=Hd (BK2.o.call hs);clear c0 c1 c2 c3 c4 c5 c6 d0 d1 f0 f1;clear hs BK2;obtain⟨c0,c1,c2,c3,c4,c5,c6,d0,d1,f0,f1⟩:=rl_cells BK3.o;go_wp2_with fail;refine(must_any _ _).mono ?_;rintro e w2 (⟨hm,rfl,hs⟩|⟨hm,rfl,hs⟩)
  case inr =>
   have HFIN:=Hd (ruleP_none (o:=x.sar) (sar_t HQ.o hm) (BK3.o.call hs).since);clear hs BK3;clear c0 c1 c2 c3 c4 c5 c6 d0 d1 f0 f1;go_wp2;exact⟨rfl,HFIN.o⟩
  have BK4:=Hd (BK3.o.call hs);have HMM:=Hd hm;clear c0 c1 c2 c3 c4 c5 c6 d0 d1 f0 f1;clear hs BK3 hm;obtain⟨c0,c1,c2,c3,c4,c5,c6,d0,d1,f0,f1⟩:=rl_cells BK4.o;go_wp2_with fail;refine(sarDo _ _ _ _).mono ?_;rintro e w3 ⟨rfl,hs⟩;have BK5:=Hd (BK4.o.call hs);clear c0 c1 c2 c3 c4 c5 c6 d0 d1 f0 f1;clear hs BK4;obtain⟨c0,c1,c2,c3,c4,c5,c6,d0,d1,f0,f1⟩:=rl_cells BK5.o;go_wp2_with fail;refine(sarDo _ _ _ _).mono ?_;rintro e w3 ⟨rfl,hs⟩;have BK6:=Hd (BK5.o.call hs);clear c0 c1 c2 c3 c4 c5 c6 d0 d1 f0 f1;clear hs BK5;obtain⟨c0,c1,c2,c3,c4,c5,c6,d0,d1,f0,f1⟩:=rl_cells BK6.o;go_wp2;refine bodyPost_ret (v:=.agg #[W64 (T.ado 11 x.narrow x.a.lo x.b.lo),W64 (T.ado 11 x.narrow x.a.hi x.b.lo)]) ?_ rfl (ruleP_some (T.ado 11 x.narrow x.a.lo x.b.lo) (T.ado 11 x.narrow x.a.hi x.b.lo) (sar_t HQ.o HMM.o) (rl_since BK6.o _ _));simp[results,Tryz.results257,go_sem,d0,d1]
end Go.Proofs.YtfeipbgnjainlaaGreatDoor.K
