/- TSpJ -/
import Derived.Test.YtfeipbgnjainlaaGreatDoorTp2
import Derived.Test.YtfeipbgnjainlaaGreatDoorTp16
set_option linter.unusedVariables false
set_option linter.unusedSimpArgs false
set_option maxRecDepth 100000
set_option maxHeartbeats 4000000
namespace Go.Proofs.YtfeipbgnjainlaaGreatDoor.K
open Go Go.RowKit Go.Maps Go.Sort
theorem set_f{x:T.Wk}{p q:Bool}(hp:x.both=p)(hq:(!p || !(x.a.lo &&& x.b.lo != 0#64))=q):x.set false=bif q then some (⟨x.a.lo,x.a.hi⟩,⟨x.b.lo,x.b.hi⟩)else none:=by
 unfold T.Wk.set;rw[hp,show(!p || !((x.a.lo &&& x.b.lo) != 0))=q from hq];cases q<;>rfl
theorem set_t{x:T.Wk}{p q r s:Bool}(hp:decide (0#64<x.a.hi)=p)(hq:decide (0#64<x.b.hi)=q)(hr:x.both=r)(hs:(p&&q&&(!r||(x.a.lo &&& x.b.lo != 0#64)))=s):x.set true=bif s then some (⟨T.umax x.a.lo 1#64,x.a.hi⟩,⟨T.umax x.b.lo 1#64,x.b.hi⟩)else none:=by
 unfold T.Wk.set;rw[show BitVec.ult 0 x.a.hi=p from hp,show BitVec.ult 0 x.b.hi=q from hq,hr,show(p&&q&&(!r||((x.a.lo &&& x.b.lo) != 0)))=s from hs];cases s<;>rfl
theorem wset_f(x:T.Wk)(w:World):Calls Tryz.prog 233 #[wkv x,.bool false] w (PairP w (x.set false)):=by
 have HO:=Hd (fun q=>wboth_any x q);unfold wkv at HO ⊢;have BK:=bk3 w [W64 x.a.lo,W64 x.a.hi,W64 x.b.lo,W64 x.b.hi,.bool x.narrow,W64 x.most,W64 x.size] 229 [W64 0#64,W64 0#64] 122 [W64 0#64,W64 0#64] 122;go_enter Tryz.func233,Tryz.ntmps233;go_upto_region 1 with fail;generalize w.heap.size=X at *;refine wp_hid BK (fun w1 BK=>?_);obtain⟨c0,c1,c2,c3,c4,c5,c6,d0,d1,d2,d3,f0,f1,f2,f3⟩:=pr_cells BK.o;go_wp2_with fail;refine(HO.o _).mono ?_;rintro e w3 ⟨rfl,hs⟩;have BK2:=Hd (BK.o.call hs);clear c0 c1 c2 c3 c4 c5 c6 d0 d1 d2 d3 f0 f1 f2 f3;clear hs BK;obtain⟨c0,c1,c2,c3,c4,c5,c6,d0,d1,d2,d3,f0,f1,f2,f3⟩:=pr_cells BK2.o;cases hq:x.both
 case false =>
  have HQ:=Hd hq;go_wp2_with fail;refine(must_any _ _).mono ?_;rintro e w2 (⟨hm,rfl,hs⟩|⟨hm,rfl,hs⟩)
  case inr =>
   cases hm
  have BK3:=Hd (BK2.o.call hs);have HMM:=Hd hm;clear c0 c1 c2 c3 c4 c5 c6 d0 d1 d2 d3 f0 f1 f2 f3;clear hs BK2 hm;obtain⟨c0,c1,c2,c3,c4,c5,c6,d0,d1,d2,d3,f0,f1,f2,f3⟩:=pr_cells BK3.o;go_wp2_with fail
  go_region_held3 (fun w'=>w'.cell? ⟨X,0,none⟩=some (W64 x.a.lo)/\w'.cell? ⟨X,1,none⟩=some (W64 x.a.hi)/\w'.cell? ⟨X,2,none⟩=some (W64 x.b.lo)/\w'.cell? ⟨X,3,none⟩=some (W64 x.b.hi))
   (first
     | with_reducible exact⟨c0,c1,c2,c3⟩
     | with_reducible exact⟨cell_drew c0,cell_drew c1,cell_drew c2,cell_drew c3⟩
     | with_reducible exact pr_k2 BK3.o _ _ _ _
     | with_reducible exact pr_k2d BK3.o _ _ _ _
     | with_reducible exact pr_k1 BK3.o _ _
     | with_reducible exact pr_k1d BK3.o _ _
     | fail "keep")
   (first | fail "arm")
  all_goals
   go_wp2_with fail;refine bodyPost_ret (v:=.tuple #[.agg #[W64 (x.a.lo),W64 (x.a.hi)],.agg #[W64 (x.b.lo),W64 (x.b.hi)]]) ?_ rfl (pairP_some (x.a.lo) (x.a.hi) (x.b.lo) (x.b.hi) (set_f HQ.o rfl) (by first|exact pr_since BK3.o _ _ _ _|exact(pr_since BK3.o _ _ _ _).drew));simp[results,Tryz.results233,go_sem,d0,d1,d2,d3]
 case true =>
  have HQ:=Hd hq;go_wp2_with fail;refine(must_any _ _).mono ?_;rintro e w2 (⟨hm,rfl,hs⟩|⟨hm,rfl,hs⟩)
  case inr =>
   have HFIN:=Hd (pairP_none (o:=x.set false) (set_f HQ.o hm) (BK2.o.call hs).since);clear hs BK2;clear c0 c1 c2 c3 c4 c5 c6 d0 d1 d2 d3 f0 f1 f2 f3;go_wp2;exact⟨rfl,HFIN.o⟩
  have BK3:=Hd (BK2.o.call hs);have HMM:=Hd hm;clear c0 c1 c2 c3 c4 c5 c6 d0 d1 d2 d3 f0 f1 f2 f3;clear hs BK2 hm;obtain⟨c0,c1,c2,c3,c4,c5,c6,d0,d1,d2,d3,f0,f1,f2,f3⟩:=pr_cells BK3.o;go_wp2_with fail
  go_region_held3 (fun w'=>w'.cell? ⟨X,0,none⟩=some (W64 x.a.lo)/\w'.cell? ⟨X,1,none⟩=some (W64 x.a.hi)/\w'.cell? ⟨X,2,none⟩=some (W64 x.b.lo)/\w'.cell? ⟨X,3,none⟩=some (W64 x.b.hi))
   (first
     | with_reducible exact⟨c0,c1,c2,c3⟩
     | with_reducible exact⟨cell_drew c0,cell_drew c1,cell_drew c2,cell_drew c3⟩
     | with_reducible exact pr_k2 BK3.o _ _ _ _
     | with_reducible exact pr_k2d BK3.o _ _ _ _
     | with_reducible exact pr_k1 BK3.o _ _
     | with_reducible exact pr_k1d BK3.o _ _
     | fail "keep")
   (first | fail "arm")
  all_goals
   go_wp2_with fail;refine bodyPost_ret (v:=.tuple #[.agg #[W64 (x.a.lo),W64 (x.a.hi)],.agg #[W64 (x.b.lo),W64 (x.b.hi)]]) ?_ rfl (pairP_some (x.a.lo) (x.a.hi) (x.b.lo) (x.b.hi) (set_f HQ.o HMM.o) (by first|exact pr_since BK3.o _ _ _ _|exact(pr_since BK3.o _ _ _ _).drew));simp[results,Tryz.results233,go_sem,d0,d1,d2,d3]
theorem wset_t(x:T.Wk)(w:World):Calls Tryz.prog 233 #[wkv x,.bool true] w (PairP w (x.set true)):=by
 have HO:=Hd (fun q=>wboth_any x q);unfold wkv at HO ⊢;have BK:=bk3 w [W64 x.a.lo,W64 x.a.hi,W64 x.b.lo,W64 x.b.hi,.bool x.narrow,W64 x.most,W64 x.size] 229 [W64 0#64,W64 0#64] 122 [W64 0#64,W64 0#64] 122;go_enter Tryz.func233,Tryz.ntmps233;go_upto_region 1 with fail;generalize w.heap.size=X at *;refine wp_hid BK (fun w1 BK=>?_);obtain⟨c0,c1,c2,c3,c4,c5,c6,d0,d1,d2,d3,f0,f1,f2,f3⟩:=pr_cells BK.o;cases h1:decide (0#64<x.a.hi)
 case false =>
  have H1:=Hd h1;go_wp2_with fail;refine(must_any _ _).mono ?_;rintro e w2 (⟨hm,rfl,hs⟩|⟨hm,rfl,hs⟩)
  case inr =>
   have HFIN:=Hd (pairP_none (o:=x.set true) (set_t (s:=false) H1.o rfl rfl (by rfl)) (BK.o.call hs).since);clear hs BK;clear c0 c1 c2 c3 c4 c5 c6 d0 d1 d2 d3 f0 f1 f2 f3;go_wp2;exact⟨rfl,HFIN.o⟩
  have BK2:=Hd (BK.o.call hs);have HMM:=Hd hm;clear c0 c1 c2 c3 c4 c5 c6 d0 d1 d2 d3 f0 f1 f2 f3;clear hs BK hm;obtain⟨c0,c1,c2,c3,c4,c5,c6,d0,d1,d2,d3,f0,f1,f2,f3⟩:=pr_cells BK2.o;cases HMM.o
 case true =>
  have H1:=Hd h1;cases h2:decide (0#64<x.b.hi)
  case false =>
   have H2:=Hd h2;go_wp2_with fail;refine(must_any _ _).mono ?_;rintro e w2 (⟨hm,rfl,hs⟩|⟨hm,rfl,hs⟩)
   case inr =>
    have HFIN:=Hd (pairP_none (o:=x.set true) (set_t (s:=false) H1.o H2.o rfl (by rfl)) (BK.o.call hs).since);clear hs BK;clear c0 c1 c2 c3 c4 c5 c6 d0 d1 d2 d3 f0 f1 f2 f3;go_wp2;exact⟨rfl,HFIN.o⟩
   have BK2:=Hd (BK.o.call hs);have HMM:=Hd hm;clear c0 c1 c2 c3 c4 c5 c6 d0 d1 d2 d3 f0 f1 f2 f3;clear hs BK hm;obtain⟨c0,c1,c2,c3,c4,c5,c6,d0,d1,d2,d3,f0,f1,f2,f3⟩:=pr_cells BK2.o;cases HMM.o
  case true =>
   have H2:=Hd h2;go_wp2_with fail;refine(HO.o _).mono ?_;rintro e w3 ⟨rfl,hs⟩;have BK2:=Hd (BK.o.call hs);clear c0 c1 c2 c3 c4 c5 c6 d0 d1 d2 d3 f0 f1 f2 f3;clear hs BK;obtain⟨c0,c1,c2,c3,c4,c5,c6,d0,d1,d2,d3,f0,f1,f2,f3⟩:=pr_cells BK2.o;cases hq:x.both
   case false =>
    have HQ:=Hd hq;go_wp2_with fail;refine(must_any _ _).mono ?_;rintro e w2 (⟨hm,rfl,hs⟩|⟨hm,rfl,hs⟩)
    case inr =>
     cases hm
    have BK3:=Hd (BK2.o.call hs);have HMM:=Hd hm;clear c0 c1 c2 c3 c4 c5 c6 d0 d1 d2 d3 f0 f1 f2 f3;clear hs BK2 hm;obtain⟨c0,c1,c2,c3,c4,c5,c6,d0,d1,d2,d3,f0,f1,f2,f3⟩:=pr_cells BK3.o;go_wp2_with fail
    go_region_held3 (fun w'=>w'.cell? ⟨X,0,none⟩=some (W64 x.a.lo)/\w'.cell? ⟨X,1,none⟩=some (W64 x.a.hi)/\w'.cell? ⟨X,2,none⟩=some (W64 x.b.lo)/\w'.cell? ⟨X,3,none⟩=some (W64 x.b.hi))
     (first
       | with_reducible exact⟨c0,c1,c2,c3⟩
       | with_reducible exact⟨cell_drew c0,cell_drew c1,cell_drew c2,cell_drew c3⟩
       | with_reducible exact pr_k2 BK3.o _ _ _ _
       | with_reducible exact pr_k2d BK3.o _ _ _ _
       | with_reducible exact pr_k1 BK3.o _ _
       | with_reducible exact pr_k1d BK3.o _ _
       | fail "keep")
     (first | fail "arm")
    all_goals
     go_wp2_with fail;refine bodyPost_ret (v:=.tuple #[.agg #[W64 (T.umax x.a.lo 1#64),W64 (x.a.hi)],.agg #[W64 (T.umax x.b.lo 1#64),W64 (x.b.hi)]]) ?_ rfl (pairP_some (T.umax x.a.lo 1#64) (x.a.hi) (T.umax x.b.lo 1#64) (x.b.hi) (set_t H1.o H2.o HQ.o rfl) (by first|exact pr_since BK3.o _ _ _ _|exact(pr_since BK3.o _ _ _ _).drew));simp[results,Tryz.results233,go_sem,d0,d1,d2,d3]
   case true =>
    have HQ:=Hd hq;go_wp2_with fail;refine(must_any _ _).mono ?_;rintro e w2 (⟨hm,rfl,hs⟩|⟨hm,rfl,hs⟩)
    case inr =>
     have HFIN:=Hd (pairP_none (o:=x.set true) (set_t H1.o H2.o HQ.o hm) (BK2.o.call hs).since);clear hs BK2;clear c0 c1 c2 c3 c4 c5 c6 d0 d1 d2 d3 f0 f1 f2 f3;go_wp2;exact⟨rfl,HFIN.o⟩
    have BK3:=Hd (BK2.o.call hs);have HMM:=Hd hm;clear c0 c1 c2 c3 c4 c5 c6 d0 d1 d2 d3 f0 f1 f2 f3;clear hs BK2 hm;obtain⟨c0,c1,c2,c3,c4,c5,c6,d0,d1,d2,d3,f0,f1,f2,f3⟩:=pr_cells BK3.o;go_wp2_with fail
    go_region_held3 (fun w'=>w'.cell? ⟨X,0,none⟩=some (W64 x.a.lo)/\w'.cell? ⟨X,1,none⟩=some (W64 x.a.hi)/\w'.cell? ⟨X,2,none⟩=some (W64 x.b.lo)/\w'.cell? ⟨X,3,none⟩=some (W64 x.b.hi))
     (first
       | with_reducible exact⟨c0,c1,c2,c3⟩
       | with_reducible exact⟨cell_drew c0,cell_drew c1,cell_drew c2,cell_drew c3⟩
       | with_reducible exact pr_k2 BK3.o _ _ _ _
       | with_reducible exact pr_k2d BK3.o _ _ _ _
       | with_reducible exact pr_k1 BK3.o _ _
       | with_reducible exact pr_k1d BK3.o _ _
       | fail "keep")
     (first | fail "arm")
    all_goals
     go_wp2_with fail;refine bodyPost_ret (v:=.tuple #[.agg #[W64 (T.umax x.a.lo 1#64),W64 (x.a.hi)],.agg #[W64 (T.umax x.b.lo 1#64),W64 (x.b.hi)]]) ?_ rfl (pairP_some (T.umax x.a.lo 1#64) (x.a.hi) (T.umax x.b.lo 1#64) (x.b.hi) (set_t H1.o H2.o HQ.o HMM.o) (by first|exact pr_since BK3.o _ _ _ _|exact(pr_since BK3.o _ _ _ _).drew));simp[results,Tryz.results233,go_sem,d0,d1,d2,d3]
end Go.Proofs.YtfeipbgnjainlaaGreatDoor.K
