/- TSpG -/
import Derived.Test.YtfeipbgnjainlaaGreatDoorTp4
import Derived.Test.YtfeipbgnjainlaaGreatDoorTp2
import Derived.Test.YtfeipbgnjainlaaGreatDoorTp14
set_option linter.unusedVariables false
set_option linter.unusedSimpArgs false
set_option maxRecDepth 100000
set_option maxHeartbeats 4000000
namespace Go.Proofs.YtfeipbgnjainlaaGreatDoor.K
open Go Go.RowKit Go.Maps Go.Sort
def PairP(w:World)(o:Option (T.Sp×T.Sp))(e:Ending)(w':World):Prop:=(∃p,o=some p/\e=.returned (.tuple #[spv p.1,spv p.2])/\Since w w')\/(o=none/\e=.panicked nothingP/\Since w w')
theorem pairP_some{w w':World}{o:Option (T.Sp×T.Sp)}(a b c d:BitVec 64)(ho:o=some (⟨a,b⟩,⟨c,d⟩))(hs:Since w w'):PairP w o (.returned (.tuple #[.agg #[W64 a,W64 b],.agg #[W64 c,W64 d]])) w':=Or.inl ⟨(⟨a,b⟩,⟨c,d⟩),ho,rfl,hs⟩
theorem pairP_none{w w':World}{o:Option (T.Sp×T.Sp)}(ho:o=none)(hs:Since w w'):PairP w o (.panicked nothingP) w':=Or.inr ⟨ho,rfl,hs⟩
theorem pr_cells{w w':World}{x:T.Wk}{X R1 R2:Nat}{u1 v1 u2 v2:Value}(h:Bank w w' [boxAcc R2 122 [u2,v2],boxAcc R1 122 [u1,v1],boxAcc X 229 [W64 x.a.lo,W64 x.a.hi,W64 x.b.lo,W64 x.b.hi,.bool x.narrow,W64 x.most,W64 x.size]]):
  w'.cell? ⟨X,0,none⟩=some (W64 x.a.lo)/\w'.cell? ⟨X,1,none⟩=some (W64 x.a.hi)/\w'.cell? ⟨X,2,none⟩=some (W64 x.b.lo)/\w'.cell? ⟨X,3,none⟩=some (W64 x.b.hi) /\
  w'.cell? ⟨X,4,none⟩=some (.bool x.narrow)/\w'.cell? ⟨X,5,none⟩=some (W64 x.most)/\w'.cell? ⟨X,6,none⟩=some (W64 x.size) /\
  w'.cell? ⟨R1,0,none⟩=some u1/\w'.cell? ⟨R1,1,none⟩=some v1/\w'.cell? ⟨R2,0,none⟩=some u2/\w'.cell? ⟨R2,1,none⟩=some v2 /\
  w'.frozen? ⟨R1,0,none⟩=false/\w'.frozen? ⟨R1,1,none⟩=false/\w'.frozen? ⟨R2,0,none⟩=false/\w'.frozen? ⟨R2,1,none⟩=false :=
 ⟨h.cl 2 0,h.cl 2 1,h.cl 2 2,h.cl 2 3,h.cl 2 4,h.cl 2 5,h.cl 2 6,h.cl 1 0,h.cl 1 1,h.cl 0 0,h.cl 0 1,h.free 1 rfl 0,h.free 1 rfl 1,h.free 0 rfl 0,h.free 0 rfl 1⟩
theorem pr_put1{w w':World}{x:T.Wk}{X R1 R2:Nat}{u1 v1 u2 v2:Value}(h:Bank w w' [boxAcc R2 122 [u2,v2],boxAcc R1 122 [u1,v1],boxAcc X 229 [W64 x.a.lo,W64 x.a.hi,W64 x.b.lo,W64 x.b.hi,.bool x.narrow,W64 x.most,W64 x.size]])(a b:Value):Bank w ((w'.setCell ⟨R1,0,none⟩ a).setCell ⟨R1,1,none⟩ b) [boxAcc R2 122 [u2,v2],boxAcc R1 122 [a,b],boxAcc X 229 [W64 x.a.lo,W64 x.a.hi,W64 x.b.lo,W64 x.b.hi,.bool x.narrow,W64 x.most,W64 x.size]]:=(h.bs 1 0 a).bs 1 1 b
theorem pr_put2{w w':World}{x:T.Wk}{X R1 R2:Nat}{u1 v1 u2 v2:Value}(h:Bank w w' [boxAcc R2 122 [u2,v2],boxAcc R1 122 [u1,v1],boxAcc X 229 [W64 x.a.lo,W64 x.a.hi,W64 x.b.lo,W64 x.b.hi,.bool x.narrow,W64 x.most,W64 x.size]])(c d:Value):Bank w ((w'.setCell ⟨R2,0,none⟩ c).setCell ⟨R2,1,none⟩ d) [boxAcc R2 122 [c,d],boxAcc R1 122 [u1,v1],boxAcc X 229 [W64 x.a.lo,W64 x.a.hi,W64 x.b.lo,W64 x.b.hi,.bool x.narrow,W64 x.most,W64 x.size]]:=(h.bs 0 0 c).bs 0 1 d
theorem pr_four{w w':World}{x:T.Wk}{X R1 R2:Nat}{u1 v1 u2 v2:Value}(h:Bank w w' [boxAcc R2 122 [u2,v2],boxAcc R1 122 [u1,v1],boxAcc X 229 [W64 x.a.lo,W64 x.a.hi,W64 x.b.lo,W64 x.b.hi,.bool x.narrow,W64 x.most,W64 x.size]]):w'.cell? ⟨X,0,none⟩=some (W64 x.a.lo)/\w'.cell? ⟨X,1,none⟩=some (W64 x.a.hi)/\w'.cell? ⟨X,2,none⟩=some (W64 x.b.lo)/\w'.cell? ⟨X,3,none⟩=some (W64 x.b.hi):=⟨h.cl 2 0,h.cl 2 1,h.cl 2 2,h.cl 2 3⟩
theorem pr_k1{w w':World}{x:T.Wk}{X R1 R2:Nat}{u1 v1 u2 v2:Value}(h:Bank w w' [boxAcc R2 122 [u2,v2],boxAcc R1 122 [u1,v1],boxAcc X 229 [W64 x.a.lo,W64 x.a.hi,W64 x.b.lo,W64 x.b.hi,.bool x.narrow,W64 x.most,W64 x.size]])(a b:Value):((w'.setCell ⟨R1,0,none⟩ a).setCell ⟨R1,1,none⟩ b).cell? ⟨X,0,none⟩=some (W64 x.a.lo)/\((w'.setCell ⟨R1,0,none⟩ a).setCell ⟨R1,1,none⟩ b).cell? ⟨X,1,none⟩=some (W64 x.a.hi)/\((w'.setCell ⟨R1,0,none⟩ a).setCell ⟨R1,1,none⟩ b).cell? ⟨X,2,none⟩=some (W64 x.b.lo)/\((w'.setCell ⟨R1,0,none⟩ a).setCell ⟨R1,1,none⟩ b).cell? ⟨X,3,none⟩=some (W64 x.b.hi):=pr_four (pr_put1 h a b)
theorem pr_k1d{w w':World}{x:T.Wk}{X R1 R2:Nat}{u1 v1 u2 v2:Value}(h:Bank w w' [boxAcc R2 122 [u2,v2],boxAcc R1 122 [u1,v1],boxAcc X 229 [W64 x.a.lo,W64 x.a.hi,W64 x.b.lo,W64 x.b.hi,.bool x.narrow,W64 x.most,W64 x.size]])(a b:Value):((w'.setCell ⟨R1,0,none⟩ a).setCell ⟨R1,1,none⟩ b).drew.cell? ⟨X,0,none⟩=some (W64 x.a.lo)/\((w'.setCell ⟨R1,0,none⟩ a).setCell ⟨R1,1,none⟩ b).drew.cell? ⟨X,1,none⟩=some (W64 x.a.hi)/\((w'.setCell ⟨R1,0,none⟩ a).setCell ⟨R1,1,none⟩ b).drew.cell? ⟨X,2,none⟩=some (W64 x.b.lo)/\((w'.setCell ⟨R1,0,none⟩ a).setCell ⟨R1,1,none⟩ b).drew.cell? ⟨X,3,none⟩=some (W64 x.b.hi):=pr_four (pr_put1 h a b).drew
theorem pr_k2{w w':World}{x:T.Wk}{X R1 R2:Nat}{u1 v1 u2 v2:Value}(h:Bank w w' [boxAcc R2 122 [u2,v2],boxAcc R1 122 [u1,v1],boxAcc X 229 [W64 x.a.lo,W64 x.a.hi,W64 x.b.lo,W64 x.b.hi,.bool x.narrow,W64 x.most,W64 x.size]])(a b c d:Value):((((w'.setCell ⟨R1,0,none⟩ a).setCell ⟨R1,1,none⟩ b).setCell ⟨R2,0,none⟩ c).setCell ⟨R2,1,none⟩ d).cell? ⟨X,0,none⟩=some (W64 x.a.lo)/\((((w'.setCell ⟨R1,0,none⟩ a).setCell ⟨R1,1,none⟩ b).setCell ⟨R2,0,none⟩ c).setCell ⟨R2,1,none⟩ d).cell? ⟨X,1,none⟩=some (W64 x.a.hi)/\((((w'.setCell ⟨R1,0,none⟩ a).setCell ⟨R1,1,none⟩ b).setCell ⟨R2,0,none⟩ c).setCell ⟨R2,1,none⟩ d).cell? ⟨X,2,none⟩=some (W64 x.b.lo)/\((((w'.setCell ⟨R1,0,none⟩ a).setCell ⟨R1,1,none⟩ b).setCell ⟨R2,0,none⟩ c).setCell ⟨R2,1,none⟩ d).cell? ⟨X,3,none⟩=some (W64 x.b.hi):=pr_four (pr_put2 (pr_put1 h a b) c d)
theorem pr_k2d{w w':World}{x:T.Wk}{X R1 R2:Nat}{u1 v1 u2 v2:Value}(h:Bank w w' [boxAcc R2 122 [u2,v2],boxAcc R1 122 [u1,v1],boxAcc X 229 [W64 x.a.lo,W64 x.a.hi,W64 x.b.lo,W64 x.b.hi,.bool x.narrow,W64 x.most,W64 x.size]])(a b c d:Value):((((w'.setCell ⟨R1,0,none⟩ a).setCell ⟨R1,1,none⟩ b).setCell ⟨R2,0,none⟩ c).setCell ⟨R2,1,none⟩ d).drew.cell? ⟨X,0,none⟩=some (W64 x.a.lo)/\((((w'.setCell ⟨R1,0,none⟩ a).setCell ⟨R1,1,none⟩ b).setCell ⟨R2,0,none⟩ c).setCell ⟨R2,1,none⟩ d).drew.cell? ⟨X,1,none⟩=some (W64 x.a.hi)/\((((w'.setCell ⟨R1,0,none⟩ a).setCell ⟨R1,1,none⟩ b).setCell ⟨R2,0,none⟩ c).setCell ⟨R2,1,none⟩ d).drew.cell? ⟨X,2,none⟩=some (W64 x.b.lo)/\((((w'.setCell ⟨R1,0,none⟩ a).setCell ⟨R1,1,none⟩ b).setCell ⟨R2,0,none⟩ c).setCell ⟨R2,1,none⟩ d).drew.cell? ⟨X,3,none⟩=some (W64 x.b.hi):=pr_four (pr_put2 (pr_put1 h a b) c d).drew
theorem pr_since{w w':World}{x:T.Wk}{X R1 R2:Nat}{u1 v1 u2 v2:Value}(h:Bank w w' [boxAcc R2 122 [u2,v2],boxAcc R1 122 [u1,v1],boxAcc X 229 [W64 x.a.lo,W64 x.a.hi,W64 x.b.lo,W64 x.b.hi,.bool x.narrow,W64 x.most,W64 x.size]])(a b c d:Value):Since w ((((w'.setCell ⟨R1,0,none⟩ a).setCell ⟨R1,1,none⟩ b).setCell ⟨R2,0,none⟩ c).setCell ⟨R2,1,none⟩ d):=(pr_put2 (pr_put1 h a b) c d).since
theorem gt_q{x:T.Wk}{q:Bool}(h:decide (x.b.lo<x.a.hi)=q):x.plain 19=bif q then some (⟨T.umax x.a.lo (x.b.lo+1#64),x.a.hi⟩,⟨x.b.lo,T.umin x.b.hi (x.a.hi-1#64)⟩)else none:=by
 unfold T.Wk.plain T.Wk.gt;rw[show x.b.lo.ult x.a.hi=q from h];cases q<;>rfl
theorem ge_q{x:T.Wk}{q:Bool}(h:x.b.lo.ule x.a.hi=q):x.plain 20=bif q then some (⟨T.umax x.a.lo x.b.lo,x.a.hi⟩,⟨x.b.lo,T.umin x.b.hi x.a.hi⟩)else none:=by
 unfold T.Wk.plain T.Wk.ge;rw[h];cases q<;>rfl
theorem wplain19_any(x:T.Wk)(w:World):Calls Tryz.prog 236 #[wkv x,.int .u8 19] w (PairP w (x.plain 19)):=by
 have HO:=Hd (fun q=>wboth_any x q);unfold wkv at HO ⊢;have BK:=bk3 w [W64 x.a.lo,W64 x.a.hi,W64 x.b.lo,W64 x.b.hi,.bool x.narrow,W64 x.most,W64 x.size] 229 [W64 0#64,W64 0#64] 122 [W64 0#64,W64 0#64] 122;go_enter Tryz.func236,Tryz.ntmps236;go_upto_region 1 with fail;generalize w.heap.size=X at *;refine wp_hid BK (fun w1 BK=>?_);obtain⟨c0,c1,c2,c3,c4,c5,c6,d0,d1,d2,d3,f0,f1,f2,f3⟩:=pr_cells BK.o;go_wp2_with fail;refine(must_any _ _).mono ?_;rintro e w2 (⟨hm,rfl,hs⟩|⟨hm,rfl,hs⟩)
 case inr =>
  have HFIN:=Hd (pairP_none (o:=x.plain 19) (gt_q hm) (BK.o.call hs).since);clear hs BK;clear c0 c1 c2 c3 c4 c5 c6 d0 d1 d2 d3 f0 f1 f2 f3;go_wp2;exact⟨rfl,HFIN.o⟩
 have BK2:=Hd (BK.o.call hs);have HMM:=Hd hm;clear c0 c1 c2 c3 c4 c5 c6 d0 d1 d2 d3 f0 f1 f2 f3;clear hs BK hm;obtain⟨c0,c1,c2,c3,c4,c5,c6,d0,d1,d2,d3,f0,f1,f2,f3⟩:=pr_cells BK2.o;go_wp2_with fail
 go_region_held3 (fun w'=>w'.cell? ⟨X,0,none⟩=some (W64 x.a.lo)/\w'.cell? ⟨X,1,none⟩=some (W64 x.a.hi)/\w'.cell? ⟨X,2,none⟩=some (W64 x.b.lo)/\w'.cell? ⟨X,3,none⟩=some (W64 x.b.hi))
  (first
    | with_reducible exact⟨c0,c1,c2,c3⟩
    | with_reducible exact⟨cell_drew c0,cell_drew c1,cell_drew c2,cell_drew c3⟩
    | with_reducible exact pr_k2 BK2.o _ _ _ _
    | with_reducible exact pr_k2d BK2.o _ _ _ _
    | with_reducible exact pr_k1 BK2.o _ _
    | with_reducible exact pr_k1d BK2.o _ _
    | fail "keep")
  (first | fail "arm")
 all_goals
  go_wp2_with fail;refine bodyPost_ret (v:=.tuple #[.agg #[W64 (T.umax x.a.lo (x.b.lo+1#64)),W64 (x.a.hi)],.agg #[W64 (x.b.lo),W64 (T.umin x.b.hi (x.a.hi-1#64))]]) ?_ rfl (pairP_some (T.umax x.a.lo (x.b.lo+1#64)) (x.a.hi) (x.b.lo) (T.umin x.b.hi (x.a.hi-1#64)) (gt_q HMM.o) (by first|exact pr_since BK2.o _ _ _ _|exact(pr_since BK2.o _ _ _ _).drew));simp[results,Tryz.results236,go_sem,d0,d1,d2,d3]
theorem wplain20_any(x:T.Wk)(w:World):Calls Tryz.prog 236 #[wkv x,.int .u8 20] w (PairP w (x.plain 20)):=by
 have HO:=Hd (fun q=>wboth_any x q);unfold wkv at HO ⊢;have BK:=bk3 w [W64 x.a.lo,W64 x.a.hi,W64 x.b.lo,W64 x.b.hi,.bool x.narrow,W64 x.most,W64 x.size] 229 [W64 0#64,W64 0#64] 122 [W64 0#64,W64 0#64] 122;go_enter Tryz.func236,Tryz.ntmps236;go_upto_region 1 with fail;generalize w.heap.size=X at *;refine wp_hid BK (fun w1 BK=>?_);obtain⟨c0,c1,c2,c3,c4,c5,c6,d0,d1,d2,d3,f0,f1,f2,f3⟩:=pr_cells BK.o;go_wp2_with fail;refine(must_any _ _).mono ?_;rintro e w2 (⟨hm,rfl,hs⟩|⟨hm,rfl,hs⟩)
 case inr =>
  have HFIN:=Hd (pairP_none (o:=x.plain 20) (ge_q hm) (BK.o.call hs).since);clear hs BK;clear c0 c1 c2 c3 c4 c5 c6 d0 d1 d2 d3 f0 f1 f2 f3;go_wp2;exact⟨rfl,HFIN.o⟩
 have BK2:=Hd (BK.o.call hs);have HMM:=Hd hm;clear c0 c1 c2 c3 c4 c5 c6 d0 d1 d2 d3 f0 f1 f2 f3;clear hs BK hm;obtain⟨c0,c1,c2,c3,c4,c5,c6,d0,d1,d2,d3,f0,f1,f2,f3⟩:=pr_cells BK2.o;go_wp2_with fail
 go_region_held3 (fun w'=>w'.cell? ⟨X,0,none⟩=some (W64 x.a.lo)/\w'.cell? ⟨X,1,none⟩=some (W64 x.a.hi)/\w'.cell? ⟨X,2,none⟩=some (W64 x.b.lo)/\w'.cell? ⟨X,3,none⟩=some (W64 x.b.hi))
  (first
    | with_reducible exact⟨c0,c1,c2,c3⟩
    | with_reducible exact⟨cell_drew c0,cell_drew c1,cell_drew c2,cell_drew c3⟩
    | with_reducible exact pr_k2 BK2.o _ _ _ _
    | with_reducible exact pr_k2d BK2.o _ _ _ _
    | with_reducible exact pr_k1 BK2.o _ _
    | with_reducible exact pr_k1d BK2.o _ _
    | fail "keep")
  (first | fail "arm")
 all_goals
  go_wp2_with fail;refine bodyPost_ret (v:=.tuple #[.agg #[W64 (T.umax x.a.lo x.b.lo),W64 (x.a.hi)],.agg #[W64 (x.b.lo),W64 (T.umin x.b.hi x.a.hi)]]) ?_ rfl (pairP_some (T.umax x.a.lo x.b.lo) (x.a.hi) (x.b.lo) (T.umin x.b.hi x.a.hi) (ge_q HMM.o) (by first|exact pr_since BK2.o _ _ _ _|exact(pr_since BK2.o _ _ _ _).drew));simp[results,Tryz.results236,go_sem,d0,d1,d2,d3]
end Go.Proofs.YtfeipbgnjainlaaGreatDoor.K
