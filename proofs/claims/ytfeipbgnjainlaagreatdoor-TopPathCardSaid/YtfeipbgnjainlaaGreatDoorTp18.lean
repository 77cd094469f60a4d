/- TSpK -/
import Derived.Test.YtfeipbgnjainlaaGreatDoorTp2
import Derived.Test.YtfeipbgnjainlaaGreatDoorTp17
set_option linter.unusedVariables false
set_option linter.unusedSimpArgs false
set_option maxRecDepth 100000
set_option maxHeartbeats 4000000
namespace Go.Proofs.YtfeipbgnjainlaaGreatDoor.K
open Go Go.RowKit Go.Maps Go.Sort
theorem signed_a{x:T.Wk}{op:Int}(h:x.mixed ⟨x.a.lo,x.a.hi⟩=true):x.signed op=some (⟨x.a.lo,x.a.hi⟩,⟨x.b.lo,x.b.hi⟩):=by unfold T.Wk.signed;rw[show x.mixed x.a=true from h];rfl
theorem signed_b{x:T.Wk}{op:Int}(h:x.mixed ⟨x.a.lo,x.a.hi⟩=false)(h2:x.mixed ⟨x.b.lo,x.b.hi⟩=true):x.signed op=some (⟨x.a.lo,x.a.hi⟩,⟨x.b.lo,x.b.hi⟩):=by unfold T.Wk.signed;rw[show x.mixed x.a=false from h,show x.mixed x.b=true from h2];rfl
theorem signed_p{x:T.Wk}{op:Int}(h:x.mixed ⟨x.a.lo,x.a.hi⟩=false)(h2:x.mixed ⟨x.b.lo,x.b.hi⟩=false)(h3:(x.below x.a.lo==x.below x.b.lo)=true):x.signed op=x.plain (op-4):=by unfold T.Wk.signed;rw[show x.mixed x.a=false from h,show x.mixed x.b=false from h2,h3];rfl
theorem signed_m{x:T.Wk}{op:Int}{q:Bool}(h:x.mixed ⟨x.a.lo,x.a.hi⟩=false)(h2:x.mixed ⟨x.b.lo,x.b.hi⟩=false)(h3:(x.below x.a.lo==x.below x.b.lo)=false)(hq:(decide (op=23\/op=24)==x.below x.b.lo)=q):x.signed op=bif q then some (⟨x.a.lo,x.a.hi⟩,⟨x.b.lo,x.b.hi⟩)else none:=by
 unfold T.Wk.signed;rw[show x.mixed x.a=false from h,show x.mixed x.b=false from h2,h3,hq];cases q<;>rfl
theorem signed_h{x:T.Wk}{op:Int}{q:Bool}(ho:decide (op=23\/op=24)=true)(h:x.mixed ⟨x.a.lo,x.a.hi⟩=false)(h2:x.mixed ⟨x.b.lo,x.b.hi⟩=false)(h3:(x.below x.a.lo==x.below x.b.lo)=false)(hq:x.below x.b.lo=q):x.signed op=bif q then some (⟨x.a.lo,x.a.hi⟩,⟨x.b.lo,x.b.hi⟩)else none:=signed_m h h2 h3 (by rw[ho,hq];cases q<;>rfl)
theorem signed_l{x:T.Wk}{op:Int}{q:Bool}(ho:decide (op=23\/op=24)=false)(h:x.mixed ⟨x.a.lo,x.a.hi⟩=false)(h2:x.mixed ⟨x.b.lo,x.b.hi⟩=false)(h3:(x.below x.a.lo==x.below x.b.lo)=false)(hq:(!x.below x.b.lo)=q):x.signed op=bif q then some (⟨x.a.lo,x.a.hi⟩,⟨x.b.lo,x.b.hi⟩)else none:=signed_m h h2 h3 (by rw[ho];cases hb:x.below x.b.lo<;>rw[hb]at hq<;>subst hq<;>rfl)
theorem wplain_all(x:T.Wk)(o:Int)(h:17<=o/\o<=22)(w:World):Calls Tryz.prog 236 #[wkv x,.int .u8 o] w (PairP w (x.plain o)):=by
 have hc:o=17\/o=18\/o=19\/o=20\/o=21\/o=22:=by omega
 rcases hc with rfl|rfl|rfl|rfl|rfl|rfl
 all_goals first|exact wplain17_any x w|exact wplain18_any x w|exact wplain19_any x w|exact wplain20_any x w|exact wplain21_any x w|exact wplain22_any x w
theorem wsigned_all(x:T.Wk)(op:Int)(h:23<=op/\op<=26)(w:World):Calls Tryz.prog 235 #[wkv x,.int .u8 op] w (PairP w (x.signed op)):=by
 have hc:op=23\/op=24\/op=25\/op=26:=by omega
 clear h;obtain⟨z,hz⟩:∃z,x.signed op=z:=⟨_,rfl⟩
 rw[hz];have HZ:=Hd hz;clear hz;rcases hc with rfl|rfl|rfl|rfl
 all_goals
  have HO:=Hd (fun q=>wboth_any x q);unfold wkv at HO ⊢;have BK:=bk3 w [W64 x.a.lo,W64 x.a.hi,W64 x.b.lo,W64 x.b.hi,.bool x.narrow,W64 x.most,W64 x.size] 229 [W64 0#64,W64 0#64] 122 [W64 0#64,W64 0#64] 122;have HM:=Hd (fun q s=>wmixed_any x s q);have HBL:=Hd (fun q n=>wbelow_any x n q);have HP:=Hd (fun(o:Int) (ho:17<=o/\o<=22) q=>wplain_all x o ho q);unfold wkv at HM HBL HP;unfold spv at HM;go_enter Tryz.func235,Tryz.ntmps235;go_upto_region 1 with fail;generalize w.heap.size=X at *;refine wp_hid BK (fun w1 BK=>?_);obtain⟨c0,c1,c2,c3,c4,c5,c6,d0,d1,d2,d3,f0,f1,f2,f3⟩:=pr_cells BK.o;go_wp2_with fail;refine(HM.o _ ⟨_,_⟩).mono ?_;rintro e w3 ⟨rfl,hs⟩;have BK2:=Hd (BK.o.call hs);clear c0 c1 c2 c3 c4 c5 c6 d0 d1 d2 d3 f0 f1 f2 f3;clear hs BK;obtain⟨c0,c1,c2,c3,c4,c5,c6,d0,d1,d2,d3,f0,f1,f2,f3⟩:=pr_cells BK2.o;cases ha:x.mixed ⟨x.a.lo,x.a.hi⟩
  case true =>
   have HA:=Hd ha;go_wp2_with fail
   go_region_held3 (fun w'=>w'.cell? ⟨X,0,none⟩=some (W64 x.a.lo)/\w'.cell? ⟨X,1,none⟩=some (W64 x.a.hi)/\w'.cell? ⟨X,2,none⟩=some (W64 x.b.lo)/\w'.cell? ⟨X,3,none⟩=some (W64 x.b.hi))
    (first
      | with_reducible exact⟨c0,c1,c2,c3⟩
      | with_reducible exact⟨cell_drew c0,cell_drew c1,cell_drew c2,cell_drew c3⟩
      | with_reducible exact pr_k2 BK2.o _ _ _ _
      | with_reducible exact pr_k2d BK2.o _ _ _ _
      | with_reducible exact pr_k1 BK2.o _ _
      | with_reducible exact pr_k1d BK2.o _ _
      | fail "keep")
    (first | fail "arm")
   all_goals
    go_wp2_with fail;refine bodyPost_ret (v:=.tuple #[.agg #[W64 (x.a.lo),W64 (x.a.hi)],.agg #[W64 (x.b.lo),W64 (x.b.hi)]]) ?_ rfl (pairP_some (x.a.lo) (x.a.hi) (x.b.lo) (x.b.hi) (HZ.o.symm.trans (signed_a HA.o)) (by first|exact pr_since BK2.o _ _ _ _|exact(pr_since BK2.o _ _ _ _).drew));simp[results,Tryz.results235,go_sem,d0,d1,d2,d3]
  case false =>
   have HA:=Hd ha;go_wp2_with fail;refine(HM.o _ ⟨_,_⟩).mono ?_;rintro e w3 ⟨rfl,hs⟩;have BK3:=Hd (BK2.o.call hs);clear c0 c1 c2 c3 c4 c5 c6 d0 d1 d2 d3 f0 f1 f2 f3;clear hs BK2;obtain⟨c0,c1,c2,c3,c4,c5,c6,d0,d1,d2,d3,f0,f1,f2,f3⟩:=pr_cells BK3.o;cases hb:x.mixed ⟨x.b.lo,x.b.hi⟩
   case true =>
    have HBB:=Hd hb;go_wp2_with fail
    go_region_held3 (fun w'=>w'.cell? ⟨X,0,none⟩=some (W64 x.a.lo)/\w'.cell? ⟨X,1,none⟩=some (W64 x.a.hi)/\w'.cell? ⟨X,2,none⟩=some (W64 x.b.lo)/\w'.cell? ⟨X,3,none⟩=some (W64 x.b.hi))
     (first
       | with_reducible exact⟨c0,c1,c2,c3⟩
       | with_reducible exact⟨cell_drew c0,cell_drew c1,cell_drew c2,cell_drew c3⟩
       | with_reducible exact pr_k2 BK3.o _ _ _ _
       | with_reducible exact pr_k2d BK3.o _ _ _ _
       | with_reducible exact pr_k1 BK3.o _ _
       | with_reducible exact pr_k1d BK3.o _ _
       | fail "keep")
     (first | fail "arm")
    all_goals
     go_wp2_with fail;refine bodyPost_ret (v:=.tuple #[.agg #[W64 (x.a.lo),W64 (x.a.hi)],.agg #[W64 (x.b.lo),W64 (x.b.hi)]]) ?_ rfl (pairP_some (x.a.lo) (x.a.hi) (x.b.lo) (x.b.hi) (HZ.o.symm.trans (signed_b HA.o HBB.o)) (by first|exact pr_since BK3.o _ _ _ _|exact(pr_since BK3.o _ _ _ _).drew));simp[results,Tryz.results235,go_sem,d0,d1,d2,d3]
   case false =>
    have HBB:=Hd hb;go_wp2_with fail;have r0:=cell_regrown c0;have r1:=cell_regrown c1;have r2:=cell_regrown c2;have r3:=cell_regrown c3;have r4:=cell_regrown c4;have r5:=cell_regrown c5;have r6:=cell_regrown c6;have BKr:=Hd (fun dq osq=>BK3.o.call (below_regrown w3 dq osq));clear c0 c1 c2 c3 c4 c5 c6 d0 d1 d2 d3 f0 f1 f2 f3;refine wp_region_quiet_below (by kernel_rfl) (by kernel_rfl) ?_
    repeat (refine @wpQuiet_step _ _ _ _ _ _ _ ?_; intro K hK; go_simp; first | (refine hK _ ?_; clear hK K) | (apply Exists.intro; refine ⟨fun _ => ?_, hK _ ?_⟩; (first | (with_reducible exact Ret.regrown (HBL.o _ _)) | fail "no arm"); clear hK K))
    refine wpQuiet_nil ?_;intro _ hw';obtain⟨⟨dq,osq⟩,hw''⟩:=hw';subst hw'';have BK4:=Hd (BKr.o dq osq);dsimp only;generalize grow (redrawn w3 dq) osq=wg at *;clear r0 r1 r2 r3 r4 r5 r6 BKr BK3;obtain⟨c0,c1,c2,c3,c4,c5,c6,d0,d1,d2,d3,f0,f1,f2,f3⟩:=pr_cells BK4.o;cases he:(x.below x.a.lo==x.below x.b.lo)
    case true =>
     have HE:=Hd he;go_wp2_with fail;refine(HP.o _ (by decide) _).mono ?_;rintro e w6 (⟨⟨⟨a,b⟩,⟨c,d⟩⟩,hr,rfl,hs⟩|⟨hr,rfl,hs⟩)
     case inr =>
      have HFIN:=Hd (pairP_none (HZ.o.symm.trans ((signed_p HA.o HBB.o HE.o).trans hr)) (BK4.o.call hs).since);clear hs BK4 hr;clear c0 c1 c2 c3 c4 c5 c6 d0 d1 d2 d3 f0 f1 f2 f3;go_wp2;exact⟨rfl,HFIN.o⟩
     case inl =>
      have HRR:=Hd (HZ.o.symm.trans ((signed_p HA.o HBB.o HE.o).trans hr));have BK5:=Hd (BK4.o.call hs);clear c0 c1 c2 c3 c4 c5 c6 d0 d1 d2 d3 f0 f1 f2 f3;clear hs BK4 hr;obtain⟨c0,c1,c2,c3,c4,c5,c6,d0,d1,d2,d3,f0,f1,f2,f3⟩:=pr_cells BK5.o;unfold spv;dsimp only;go_wp2_with fail;refine bodyPost_ret (v:=.tuple #[.agg #[W64 (a),W64 (b)],.agg #[W64 (c),W64 (d)]]) ?_ rfl (pairP_some (a) (b) (c) (d) (HRR.o) (by first|exact pr_since BK5.o _ _ _ _|exact(pr_since BK5.o _ _ _ _).drew));simp[results,Tryz.results235,go_sem,d0,d1,d2,d3]
    case false =>
     have HE:=Hd he;go_wp2_with fail;refine(HBL.o _ _).mono ?_;rintro e w3 ⟨rfl,hs⟩;have BK5:=Hd (BK4.o.call hs);clear c0 c1 c2 c3 c4 c5 c6 d0 d1 d2 d3 f0 f1 f2 f3;clear hs BK4;obtain⟨c0,c1,c2,c3,c4,c5,c6,d0,d1,d2,d3,f0,f1,f2,f3⟩:=pr_cells BK5.o;go_wp2_with fail;refine(must_any _ _).mono ?_;rintro e w2 (⟨hm,rfl,hs⟩|⟨hm,rfl,hs⟩)
     case inr =>
      have HFIN:=Hd (pairP_none (HZ.o.symm.trans (by first|exact signed_h rfl HA.o HBB.o HE.o hm|exact signed_l rfl HA.o HBB.o HE.o hm)) (BK5.o.call hs).since);clear hs BK5;clear c0 c1 c2 c3 c4 c5 c6 d0 d1 d2 d3 f0 f1 f2 f3;go_wp2;exact⟨rfl,HFIN.o⟩
     have BK6:=Hd (BK5.o.call hs);have HMM:=Hd hm;clear c0 c1 c2 c3 c4 c5 c6 d0 d1 d2 d3 f0 f1 f2 f3;clear hs BK5 hm;obtain⟨c0,c1,c2,c3,c4,c5,c6,d0,d1,d2,d3,f0,f1,f2,f3⟩:=pr_cells BK6.o;go_wp2_with fail
     go_region_held3 (fun w'=>w'.cell? ⟨X,0,none⟩=some (W64 x.a.lo)/\w'.cell? ⟨X,1,none⟩=some (W64 x.a.hi)/\w'.cell? ⟨X,2,none⟩=some (W64 x.b.lo)/\w'.cell? ⟨X,3,none⟩=some (W64 x.b.hi))
      (first
        | with_reducible exact⟨c0,c1,c2,c3⟩
        | with_reducible exact⟨cell_drew c0,cell_drew c1,cell_drew c2,cell_drew c3⟩
        | with_reducible exact pr_k2 BK6.o _ _ _ _
        | with_reducible exact pr_k2d BK6.o _ _ _ _
        | with_reducible exact pr_k1 BK6.o _ _
        | with_reducible exact pr_k1d BK6.o _ _
        | fail "keep")
      (first | fail "arm")
     all_goals
      go_wp2_with fail;refine bodyPost_ret (v:=.tuple #[.agg #[W64 (x.a.lo),W64 (x.a.hi)],.agg #[W64 (x.b.lo),W64 (x.b.hi)]]) ?_ rfl (pairP_some (x.a.lo) (x.a.hi) (x.b.lo) (x.b.hi) (HZ.o.symm.trans (by first|exact signed_h rfl HA.o HBB.o HE.o HMM.o|exact signed_l rfl HA.o HBB.o HE.o HMM.o)) (by first|exact pr_since BK6.o _ _ _ _|exact(pr_since BK6.o _ _ _ _).drew));simp[results,Tryz.results235,go_sem,d0,d1,d2,d3]
end Go.Proofs.YtfeipbgnjainlaaGreatDoor.K
