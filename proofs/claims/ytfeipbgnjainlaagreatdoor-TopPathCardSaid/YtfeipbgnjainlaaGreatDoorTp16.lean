/- TSpH, TSpI -/
import Derived.Test.YtfeipbgnjainlaaGreatDoorTp4
import Derived.Test.YtfeipbgnjainlaaGreatDoorTp2
import Derived.Test.YtfeipbgnjainlaaGreatDoorTp15
import Derived.Test.YtfeipbgnjainlaaGreatDoorTp10
set_option linter.unusedVariables false
set_option linter.unusedSimpArgs false
set_option maxRecDepth 100000
set_option maxHeartbeats 4000000
namespace Go.Proofs.YtfeipbgnjainlaaGreatDoor.K
open Go Go.RowKit Go.Maps Go.Sort
theorem wturned_any(x:T.Wk)(w:World):Calls Tryz.prog 266 #[wkv x] w (Ret w (wkv x.turned)):=by
 unfold wkv;have BK:=bk2 w [W64 x.a.lo,W64 x.a.hi,W64 x.b.lo,W64 x.b.hi,.bool x.narrow,W64 x.most,W64 x.size] 229 [W64 0#64,W64 0#64,W64 0#64,W64 0#64,.bool false,W64 0#64,W64 0#64] 229;go_enter Tryz.func266,Tryz.ntmps266;go_upto_region 1 with fail;generalize w.heap.size=X at *;refine wp_hid BK (fun w1 BK=>?_);obtain⟨c0,c1,c2,c3,c4,c5,c6⟩:=BK.o.q7 1 rfl;obtain⟨d0,d1,d2,d3,d4,d5,d6,f0,f1,f2,f3,f4,f5,f6⟩:=BK.o.r7 0 rfl;have g0:=BK.o.free 1 rfl 0;have g1:=BK.o.free 1 rfl 1;have g2:=BK.o.free 1 rfl 2;have g3:=BK.o.free 1 rfl 3;have BT:=Hd ((((((BK.o.bs 1 0 (W64 x.b.lo)).bs 1 1 (W64 x.b.hi)).bs 1 2 (W64 x.a.lo)).bs 1 3 (W64 x.a.hi)).set7 0 rfl (W64 x.b.lo) (W64 x.b.hi) (W64 x.a.lo) (W64 x.a.hi) (.bool x.narrow) (W64 x.most) (W64 x.size)).since);go_wp2;refine bodyPost_ret (v:=.agg #[W64 x.b.lo,W64 x.b.hi,W64 x.a.lo,W64 x.a.hi,.bool x.narrow,W64 x.most,W64 x.size]) ?_ rfl ⟨rfl,BT.o⟩;simp[results,Tryz.results266,go_sem,d0,d1,d2,d3,d4,d5,d6]
theorem pq_four{w w':World}{R1 R2:Nat}{p:Acc}{a b c d:Value}(h:Bank w w' [boxAcc R2 122 [c,d],boxAcc R1 122 [a,b],p]):w'.cell? ⟨R1,0,none⟩=some a/\w'.cell? ⟨R1,1,none⟩=some b/\w'.cell? ⟨R2,0,none⟩=some c/\w'.cell? ⟨R2,1,none⟩=some d:=⟨h.cl 1 0,h.cl 1 1,h.cl 0 0,h.cl 0 1⟩
theorem pq_put1{w w':World}{R1 R2:Nat}{p:Acc}{a b c d:Value}(h:Bank w w' [boxAcc R2 122 [c,d],boxAcc R1 122 [a,b],p]):Bank w ((w'.setCell ⟨R1,0,none⟩ a).setCell ⟨R1,1,none⟩ b) [boxAcc R2 122 [c,d],boxAcc R1 122 [a,b],p]:=(h.bs 1 0 a).bs 1 1 b
theorem pq_put2{w w':World}{R1 R2:Nat}{p:Acc}{a b c d:Value}(h:Bank w w' [boxAcc R2 122 [c,d],boxAcc R1 122 [a,b],p]):Bank w ((w'.setCell ⟨R2,0,none⟩ c).setCell ⟨R2,1,none⟩ d) [boxAcc R2 122 [c,d],boxAcc R1 122 [a,b],p]:=(h.bs 0 0 c).bs 0 1 d
theorem pq_k1{w w':World}{R1 R2:Nat}{p:Acc}{a b c d:Value}(h:Bank w w' [boxAcc R2 122 [c,d],boxAcc R1 122 [a,b],p]):((w'.setCell ⟨R1,0,none⟩ a).setCell ⟨R1,1,none⟩ b).cell? ⟨R1,0,none⟩=some a/\((w'.setCell ⟨R1,0,none⟩ a).setCell ⟨R1,1,none⟩ b).cell? ⟨R1,1,none⟩=some b/\((w'.setCell ⟨R1,0,none⟩ a).setCell ⟨R1,1,none⟩ b).cell? ⟨R2,0,none⟩=some c/\((w'.setCell ⟨R1,0,none⟩ a).setCell ⟨R1,1,none⟩ b).cell? ⟨R2,1,none⟩=some d:=pq_four (pq_put1 h)
theorem pq_k1d{w w':World}{R1 R2:Nat}{p:Acc}{a b c d:Value}(h:Bank w w' [boxAcc R2 122 [c,d],boxAcc R1 122 [a,b],p]):((w'.setCell ⟨R1,0,none⟩ a).setCell ⟨R1,1,none⟩ b).drew.cell? ⟨R1,0,none⟩=some a/\((w'.setCell ⟨R1,0,none⟩ a).setCell ⟨R1,1,none⟩ b).drew.cell? ⟨R1,1,none⟩=some b/\((w'.setCell ⟨R1,0,none⟩ a).setCell ⟨R1,1,none⟩ b).drew.cell? ⟨R2,0,none⟩=some c/\((w'.setCell ⟨R1,0,none⟩ a).setCell ⟨R1,1,none⟩ b).drew.cell? ⟨R2,1,none⟩=some d:=pq_four (pq_put1 h).drew
theorem pq_k2{w w':World}{R1 R2:Nat}{p:Acc}{a b c d:Value}(h:Bank w w' [boxAcc R2 122 [c,d],boxAcc R1 122 [a,b],p]):((((w'.setCell ⟨R1,0,none⟩ a).setCell ⟨R1,1,none⟩ b).setCell ⟨R2,0,none⟩ c).setCell ⟨R2,1,none⟩ d).cell? ⟨R1,0,none⟩=some a/\((((w'.setCell ⟨R1,0,none⟩ a).setCell ⟨R1,1,none⟩ b).setCell ⟨R2,0,none⟩ c).setCell ⟨R2,1,none⟩ d).cell? ⟨R1,1,none⟩=some b/\((((w'.setCell ⟨R1,0,none⟩ a).setCell ⟨R1,1,none⟩ b).setCell ⟨R2,0,none⟩ c).setCell ⟨R2,1,none⟩ d).cell? ⟨R2,0,none⟩=some c/\((((w'.setCell ⟨R1,0,none⟩ a).setCell ⟨R1,1,none⟩ b).setCell ⟨R2,0,none⟩ c).setCell ⟨R2,1,none⟩ d).cell? ⟨R2,1,none⟩=some d:=pq_four (pq_put2 (pq_put1 h))
theorem pq_k2d{w w':World}{R1 R2:Nat}{p:Acc}{a b c d:Value}(h:Bank w w' [boxAcc R2 122 [c,d],boxAcc R1 122 [a,b],p]):((((w'.setCell ⟨R1,0,none⟩ a).setCell ⟨R1,1,none⟩ b).setCell ⟨R2,0,none⟩ c).setCell ⟨R2,1,none⟩ d).drew.cell? ⟨R1,0,none⟩=some a/\((((w'.setCell ⟨R1,0,none⟩ a).setCell ⟨R1,1,none⟩ b).setCell ⟨R2,0,none⟩ c).setCell ⟨R2,1,none⟩ d).drew.cell? ⟨R1,1,none⟩=some b/\((((w'.setCell ⟨R1,0,none⟩ a).setCell ⟨R1,1,none⟩ b).setCell ⟨R2,0,none⟩ c).setCell ⟨R2,1,none⟩ d).drew.cell? ⟨R2,0,none⟩=some c/\((((w'.setCell ⟨R1,0,none⟩ a).setCell ⟨R1,1,none⟩ b).setCell ⟨R2,0,none⟩ c).setCell ⟨R2,1,none⟩ d).drew.cell? ⟨R2,1,none⟩=some d:=pq_four (pq_put2 (pq_put1 h)).drew
theorem pq_d{w w':World}{R1 R2:Nat}{p:Acc}{a b c d:Value}(h:Bank w w' [boxAcc R2 122 [c,d],boxAcc R1 122 [a,b],p]):w'.drew.cell? ⟨R1,0,none⟩=some a/\w'.drew.cell? ⟨R1,1,none⟩=some b/\w'.drew.cell? ⟨R2,0,none⟩=some c/\w'.drew.cell? ⟨R2,1,none⟩=some d:=pq_four h.drew
theorem pq_frozen{w w':World}{R1 R2:Nat}{p:Acc}{a b c d:Value}(h:Bank w w' [boxAcc R2 122 [c,d],boxAcc R1 122 [a,b],p]):w'.frozen? ⟨R1,0,none⟩=false/\w'.frozen? ⟨R1,1,none⟩=false/\w'.frozen? ⟨R2,0,none⟩=false/\w'.frozen? ⟨R2,1,none⟩=false:=⟨h.free 1 rfl 0,h.free 1 rfl 1,h.free 0 rfl 0,h.free 0 rfl 1⟩
theorem pq_since{w w':World}{R1 R2:Nat}{p:Acc}{a b c d:Value}(h:Bank w w' [boxAcc R2 122 [c,d],boxAcc R1 122 [a,b],p]):Since w ((((w'.setCell ⟨R1,0,none⟩ a).setCell ⟨R1,1,none⟩ b).setCell ⟨R2,0,none⟩ c).setCell ⟨R2,1,none⟩ d):=(pq_put2 (pq_put1 h)).since
theorem pr_swap{w w':World}{x:T.Wk}{X R1 R2:Nat}{u1 v1 u2 v2:Value}(h:Bank w w' [boxAcc R2 122 [u2,v2],boxAcc R1 122 [u1,v1],boxAcc X 229 [W64 x.a.lo,W64 x.a.hi,W64 x.b.lo,W64 x.b.hi,.bool x.narrow,W64 x.most,W64 x.size]])(c d a b:Value):Bank w ((((w'.setCell ⟨R2,0,none⟩ c).setCell ⟨R2,1,none⟩ d).setCell ⟨R1,0,none⟩ a).setCell ⟨R1,1,none⟩ b) [boxAcc R2 122 [c,d],boxAcc R1 122 [a,b],boxAcc X 229 [W64 x.a.lo,W64 x.a.hi,W64 x.b.lo,W64 x.b.hi,.bool x.narrow,W64 x.most,W64 x.size]] :=
 ((((h.bs 0 0 c).bs 0 1 d).bs 1 0 a).bs 1 1 b)
theorem plain21(x:T.Wk):x.plain 21=(x.turned.plain 19).map T.swap:=rfl
theorem plain22(x:T.Wk):x.plain 22=(x.turned.plain 20).map T.swap:=rfl
theorem wplain21_any(x:T.Wk)(w:World):Calls Tryz.prog 236 #[wkv x,.int .u8 21] w (PairP w (x.plain 21)):=by
 have HO:=Hd (fun q=>wboth_any x q);unfold wkv at HO ⊢;have BK:=bk3 w [W64 x.a.lo,W64 x.a.hi,W64 x.b.lo,W64 x.b.hi,.bool x.narrow,W64 x.most,W64 x.size] 229 [W64 0#64,W64 0#64] 122 [W64 0#64,W64 0#64] 122;have HT:=Hd (fun q=>wturned_any x q);unfold wkv at HT;go_enter Tryz.func236,Tryz.ntmps236;go_upto_region 1 with fail;generalize w.heap.size=X at *;refine wp_hid BK (fun w1 BK=>?_);obtain⟨c0,c1,c2,c3,c4,c5,c6,d0,d1,d2,d3,f0,f1,f2,f3⟩:=pr_cells BK.o;go_wp2_with fail;refine(HT.o _).mono ?_;rintro e w3 ⟨rfl,hs⟩;have BK2:=Hd (BK.o.call hs);clear c0 c1 c2 c3 c4 c5 c6 d0 d1 d2 d3 f0 f1 f2 f3;clear hs BK;go_wp2_with fail;refine(wplain19_any x.turned _).mono ?_;rintro e w4 (⟨⟨⟨a,b⟩,⟨c,d⟩⟩,hr,rfl,hs⟩|⟨hr,rfl,hs⟩)
 case inr =>
  have HFIN:=Hd (pairP_none (o:=x.plain 21) (by rw[plain21,hr];rfl) (BK2.o.call hs).since);clear hs BK2 hr;go_wp2;exact⟨rfl,HFIN.o⟩
 case inl =>
  have HRR:=Hd (show x.plain 21=some (⟨c,d⟩,⟨a,b⟩)by rw[plain21,hr];rfl);have BK3:=Hd (BK2.o.call hs);clear hs BK2 hr;obtain⟨c0,c1,c2,c3,c4,c5,c6,d0,d1,d2,d3,f0,f1,f2,f3⟩:=pr_cells BK3.o;unfold spv;dsimp only;go_upto_region 19 with fail;have BK4:=Hd (pr_swap BK3.o (W64 a) (W64 b) (W64 c) (W64 d));clear c0 c1 c2 c3 c4 c5 c6 d0 d1 d2 d3 f0 f1 f2 f3;generalize(((w4.setCell ⟨X+1+1,0,none⟩ (W64 a)).setCell ⟨X+1+1,1,none⟩ (W64 b)).setCell ⟨X+1,0,none⟩ (W64 c)).setCell ⟨X+1,1,none⟩ (W64 d)=w5 at *;obtain⟨d0,d1,d2,d3⟩:=pq_four BK4.o;obtain⟨f0,f1,f2,f3⟩:=pq_frozen BK4.o
  go_region_held3 (fun w'=>w'.cell? ⟨X+1,0,none⟩=some (W64 c)/\w'.cell? ⟨X+1,1,none⟩=some (W64 d)/\w'.cell? ⟨X+1+1,0,none⟩=some (W64 a)/\w'.cell? ⟨X+1+1,1,none⟩=some (W64 b))
   (first
     | with_reducible exact pq_four BK4.o
     | with_reducible exact pq_d BK4.o
     | with_reducible exact pq_k2 BK4.o
     | with_reducible exact pq_k2d BK4.o
     | with_reducible exact pq_k1 BK4.o
     | with_reducible exact pq_k1d BK4.o
     | fail "keep")
   (first | fail "arm")
  all_goals
   go_wp2_with fail;refine bodyPost_ret (v:=.tuple #[.agg #[W64 c,W64 d],.agg #[W64 a,W64 b]]) ?_ rfl (pairP_some c d a b HRR.o (by first|exact pq_since BK4.o|exact(pq_since BK4.o).drew));simp[results,Tryz.results236,go_sem,d0,d1,d2,d3]
theorem wplain22_any(x:T.Wk)(w:World):Calls Tryz.prog 236 #[wkv x,.int .u8 22] w (PairP w (x.plain 22)):=by
 have HO:=Hd (fun q=>wboth_any x q);unfold wkv at HO ⊢;have BK:=bk3 w [W64 x.a.lo,W64 x.a.hi,W64 x.b.lo,W64 x.b.hi,.bool x.narrow,W64 x.most,W64 x.size] 229 [W64 0#64,W64 0#64] 122 [W64 0#64,W64 0#64] 122;have HT:=Hd (fun q=>wturned_any x q);unfold wkv at HT;go_enter Tryz.func236,Tryz.ntmps236;go_upto_region 1 with fail;generalize w.heap.size=X at *;refine wp_hid BK (fun w1 BK=>?_);obtain⟨c0,c1,c2,c3,c4,c5,c6,d0,d1,d2,d3,f0,f1,f2,f3⟩:=pr_cells BK.o;go_wp2_with fail;refine(HT.o _).mono ?_;rintro e w3 ⟨rfl,hs⟩;have BK2:=Hd (BK.o.call hs);clear c0 c1 c2 c3 c4 c5 c6 d0 d1 d2 d3 f0 f1 f2 f3;clear hs BK;go_wp2_with fail;refine(wplain20_any x.turned _).mono ?_;rintro e w4 (⟨⟨⟨a,b⟩,⟨c,d⟩⟩,hr,rfl,hs⟩|⟨hr,rfl,hs⟩)
 case inr =>
  have HFIN:=Hd (pairP_none (o:=x.plain 22) (by rw[plain22,hr];rfl) (BK2.o.call hs).since);clear hs BK2 hr;go_wp2;exact⟨rfl,HFIN.o⟩
 case inl =>
  have HRR:=Hd (show x.plain 22=some (⟨c,d⟩,⟨a,b⟩)by rw[plain22,hr];rfl);have BK3:=Hd (BK2.o.call hs);clear hs BK2 hr;obtain⟨c0,c1,c2,c3,c4,c5,c6,d0,d1,d2,d3,f0,f1,f2,f3⟩:=pr_cells BK3.o;unfold spv;dsimp only;go_upto_region 19 with fail;have BK4:=Hd (pr_swap BK3.o (W64 a) (W64 b) (W64 c) (W64 d));clear c0 c1 c2 c3 c4 c5 c6 d0 d1 d2 d3 f0 f1 f2 f3;generalize(((w4.setCell ⟨X+1+1,0,none⟩ (W64 a)).setCell ⟨X+1+1,1,none⟩ (W64 b)).setCell ⟨X+1,0,none⟩ (W64 c)).setCell ⟨X+1,1,none⟩ (W64 d)=w5 at *;obtain⟨d0,d1,d2,d3⟩:=pq_four BK4.o;obtain⟨f0,f1,f2,f3⟩:=pq_frozen BK4.o
  go_region_held3 (fun w'=>w'.cell? ⟨X+1,0,none⟩=some (W64 c)/\w'.cell? ⟨X+1,1,none⟩=some (W64 d)/\w'.cell? ⟨X+1+1,0,none⟩=some (W64 a)/\w'.cell? ⟨X+1+1,1,none⟩=some (W64 b))
   (first
     | with_reducible exact pq_four BK4.o
     | with_reducible exact pq_d BK4.o
     | with_reducible exact pq_k2 BK4.o
     | with_reducible exact pq_k2d BK4.o
     | with_reducible exact pq_k1 BK4.o
     | with_reducible exact pq_k1d BK4.o
     | fail "keep")
   (first | fail "arm")
  all_goals
   go_wp2_with fail;refine bodyPost_ret (v:=.tuple #[.agg #[W64 c,W64 d],.agg #[W64 a,W64 b]]) ?_ rfl (pairP_some c d a b HRR.o (by first|exact pq_since BK4.o|exact(pq_since BK4.o).drew));simp[results,Tryz.results236,go_sem,d0,d1,d2,d3]
set_option maxRecDepth 100000
set_option maxHeartbeats 4000000
theorem meetV_q{s t:T.Sp}{q:Bool}(h:(meetV s t).2=q):s.meet t=bif q then some (meetV s t).1 else none:=by
 unfold meetV at h ⊢;cases hm:s.meet t with
 | some m=>rw[hm]at h;simp only at h;subst h;rfl
 | none=>rw[hm]at h;simp only at h;subst h;rfl
theorem plain17_q{x:T.Wk}{q:Bool}(h:(meetV ⟨x.a.lo,x.a.hi⟩ ⟨x.b.lo,x.b.hi⟩).2=q):x.plain 17=bif q then some ((meetV ⟨x.a.lo,x.a.hi⟩ ⟨x.b.lo,x.b.hi⟩).1,(meetV ⟨x.a.lo,x.a.hi⟩ ⟨x.b.lo,x.b.hi⟩).1)else none:=by
 unfold T.Wk.plain;rw[if_pos rfl,show x.a.meet x.b=_ from meetV_q h];cases q<;>rfl
theorem py_two{w w':World}{Y R1 R2:Nat}{p:Acc}{s t u1 v1 u2 v2:Value}(h:Bank w w' [boxAcc Y 122 [s,t],boxAcc R2 122 [u2,v2],boxAcc R1 122 [u1,v1],p]):w'.cell? ⟨Y,0,none⟩=some s/\w'.cell? ⟨Y,1,none⟩=some t:=⟨h.cl 0 0,h.cl 0 1⟩
theorem py_put1{w w':World}{Y R1 R2:Nat}{p:Acc}{s t u1 v1 u2 v2:Value}(h:Bank w w' [boxAcc Y 122 [s,t],boxAcc R2 122 [u2,v2],boxAcc R1 122 [u1,v1],p])(a b:Value):Bank w ((w'.setCell ⟨R1,0,none⟩ a).setCell ⟨R1,1,none⟩ b) [boxAcc Y 122 [s,t],boxAcc R2 122 [u2,v2],boxAcc R1 122 [a,b],p]:=(h.bs 2 0 a).bs 2 1 b
theorem py_put2{w w':World}{Y R1 R2:Nat}{p:Acc}{s t u1 v1 u2 v2:Value}(h:Bank w w' [boxAcc Y 122 [s,t],boxAcc R2 122 [u2,v2],boxAcc R1 122 [u1,v1],p])(c d:Value):Bank w ((w'.setCell ⟨R2,0,none⟩ c).setCell ⟨R2,1,none⟩ d) [boxAcc Y 122 [s,t],boxAcc R2 122 [c,d],boxAcc R1 122 [u1,v1],p]:=(h.bs 1 0 c).bs 1 1 d
theorem py_k1{w w':World}{Y R1 R2:Nat}{p:Acc}{s t u1 v1 u2 v2:Value}(h:Bank w w' [boxAcc Y 122 [s,t],boxAcc R2 122 [u2,v2],boxAcc R1 122 [u1,v1],p])(a b:Value):((w'.setCell ⟨R1,0,none⟩ a).setCell ⟨R1,1,none⟩ b).cell? ⟨Y,0,none⟩=some s/\((w'.setCell ⟨R1,0,none⟩ a).setCell ⟨R1,1,none⟩ b).cell? ⟨Y,1,none⟩=some t:=py_two (py_put1 h a b)
theorem py_k1d{w w':World}{Y R1 R2:Nat}{p:Acc}{s t u1 v1 u2 v2:Value}(h:Bank w w' [boxAcc Y 122 [s,t],boxAcc R2 122 [u2,v2],boxAcc R1 122 [u1,v1],p])(a b:Value):((w'.setCell ⟨R1,0,none⟩ a).setCell ⟨R1,1,none⟩ b).drew.cell? ⟨Y,0,none⟩=some s/\((w'.setCell ⟨R1,0,none⟩ a).setCell ⟨R1,1,none⟩ b).drew.cell? ⟨Y,1,none⟩=some t:=py_two (py_put1 h a b).drew
theorem py_k2{w w':World}{Y R1 R2:Nat}{p:Acc}{s t u1 v1 u2 v2:Value}(h:Bank w w' [boxAcc Y 122 [s,t],boxAcc R2 122 [u2,v2],boxAcc R1 122 [u1,v1],p])(a b c d:Value):((((w'.setCell ⟨R1,0,none⟩ a).setCell ⟨R1,1,none⟩ b).setCell ⟨R2,0,none⟩ c).setCell ⟨R2,1,none⟩ d).cell? ⟨Y,0,none⟩=some s/\((((w'.setCell ⟨R1,0,none⟩ a).setCell ⟨R1,1,none⟩ b).setCell ⟨R2,0,none⟩ c).setCell ⟨R2,1,none⟩ d).cell? ⟨Y,1,none⟩=some t:=py_two (py_put2 (py_put1 h a b) c d)
theorem py_k2d{w w':World}{Y R1 R2:Nat}{p:Acc}{s t u1 v1 u2 v2:Value}(h:Bank w w' [boxAcc Y 122 [s,t],boxAcc R2 122 [u2,v2],boxAcc R1 122 [u1,v1],p])(a b c d:Value):((((w'.setCell ⟨R1,0,none⟩ a).setCell ⟨R1,1,none⟩ b).setCell ⟨R2,0,none⟩ c).setCell ⟨R2,1,none⟩ d).drew.cell? ⟨Y,0,none⟩=some s/\((((w'.setCell ⟨R1,0,none⟩ a).setCell ⟨R1,1,none⟩ b).setCell ⟨R2,0,none⟩ c).setCell ⟨R2,1,none⟩ d).drew.cell? ⟨Y,1,none⟩=some t:=py_two (py_put2 (py_put1 h a b) c d).drew
theorem py_since{w w':World}{Y R1 R2:Nat}{p:Acc}{s t u1 v1 u2 v2:Value}(h:Bank w w' [boxAcc Y 122 [s,t],boxAcc R2 122 [u2,v2],boxAcc R1 122 [u1,v1],p])(a b c d:Value):Since w ((((w'.setCell ⟨R1,0,none⟩ a).setCell ⟨R1,1,none⟩ b).setCell ⟨R2,0,none⟩ c).setCell ⟨R2,1,none⟩ d):=(py_put2 (py_put1 h a b) c d).since
theorem spMeet_agg(lo hi lo2 hi2:BitVec 64)(w:World):Calls Tryz.prog 264 #[.agg #[W64 lo,W64 hi],.agg #[W64 lo2,W64 hi2]] w fun e w'=>∃a b q,meetV ⟨lo,hi⟩ ⟨lo2,hi2⟩=(⟨a,b⟩,q)/\e=.returned (.tuple #[.agg #[W64 a,W64 b],.bool q])/\Since w w':=by
 refine(spMeet_any ⟨lo,hi⟩ ⟨lo2,hi2⟩ w).mono ?_;rintro e w' ⟨rfl,hs⟩;exact⟨_,_,_,rfl,rfl,hs⟩
theorem wplain17_any(x:T.Wk)(w:World):Calls Tryz.prog 236 #[wkv x,.int .u8 17] w (PairP w (x.plain 17)):=by
 have HO:=Hd (fun q=>wboth_any x q);unfold wkv at HO ⊢;have BK:=bk3 w [W64 x.a.lo,W64 x.a.hi,W64 x.b.lo,W64 x.b.hi,.bool x.narrow,W64 x.most,W64 x.size] 229 [W64 0#64,W64 0#64] 122 [W64 0#64,W64 0#64] 122;go_enter Tryz.func236,Tryz.ntmps236;go_upto_region 1 with fail;generalize w.heap.size=X at *;refine wp_hid BK (fun w1 BK=>?_);obtain⟨c0,c1,c2,c3,c4,c5,c6,d0,d1,d2,d3,f0,f1,f2,f3⟩:=pr_cells BK.o;go_wp2_with fail;refine(spMeet_agg _ _ _ _ _).mono ?_;rintro e w3 ⟨a,b,q,hmv,rfl,hs⟩;have HMV:=Hd (show x.plain 17=bif q then some (⟨a,b⟩,⟨a,b⟩)else none by rw[plain17_q (q:=q) (by rw[hmv]),hmv]);have BK2:=Hd ((BK.o.call hs).bx [W64 a,W64 b] 122);clear c0 c1 c2 c3 c4 c5 c6 d0 d1 d2 d3 f0 f1 f2 f3;clear hs BK hmv;go_upto_region 4 with fail;change Code.wp _ _ _ _ (w3.alloc (.cells #[W64 a,W64 b] 122));obtain⟨Y,hY⟩:∃Y,Y=w3.heap.size:=⟨_,rfl⟩
 rw[<-hY]at BK2 ⊢;generalize w3.alloc (.cells #[W64 a,W64 b] 122)=w4 at *;clear hY;go_wp2_with fail;refine(must_any _ _).mono ?_;rintro e w5 (⟨hm,rfl,hs⟩|⟨hm,rfl,hs⟩)
 case inr =>
  have HFIN:=Hd (pairP_none (o:=x.plain 17) (by rw[HMV.o,hm];rfl) (BK2.o.call hs).since);clear hs BK2;go_wp2;exact⟨rfl,HFIN.o⟩
 case inl =>
  have HRR:=Hd (show x.plain 17=some (⟨a,b⟩,⟨a,b⟩)by rw[HMV.o,hm];rfl);have BK3:=Hd (BK2.o.call hs);clear hs BK2 hm HMV;obtain⟨y0,y1⟩:=BK3.o.q2 0 rfl;obtain⟨d0,d1⟩:=BK3.o.q2 2 rfl;obtain⟨d2,d3⟩:=BK3.o.q2 1 rfl;have f0:=BK3.o.free 2 rfl 0;have f1:=BK3.o.free 2 rfl 1;have f2:=BK3.o.free 1 rfl 0;have f3:=BK3.o.free 1 rfl 1;go_wp2_with fail
  go_region_held3 (fun w'=>w'.cell? ⟨Y,0,none⟩=some (W64 a)/\w'.cell? ⟨Y,1,none⟩=some (W64 b))
   (first
     | with_reducible exact⟨y0,y1⟩
     | with_reducible exact⟨cell_drew y0,cell_drew y1⟩
     | with_reducible exact py_k2 BK3.o _ _ _ _
     | with_reducible exact py_k2d BK3.o _ _ _ _
     | with_reducible exact py_k1 BK3.o _ _
     | with_reducible exact py_k1d BK3.o _ _
     | fail "keep")
   (first | fail "arm")
  all_goals
   go_wp2_with fail;refine bodyPost_ret (v:=.tuple #[.agg #[W64 a,W64 b],.agg #[W64 a,W64 b]]) ?_ rfl (pairP_some a b a b HRR.o (by first|exact py_since BK3.o _ _ _ _|exact(py_since BK3.o _ _ _ _).drew));simp[results,Tryz.results236,go_sem,d0,d1,d2,d3]
theorem spwithout_agg(lo hi lo2 hi2:BitVec 64)(w:World):Calls Tryz.prog 265 #[.agg #[W64 lo,W64 hi],.agg #[W64 lo2,W64 hi2]] w (Ret w (.agg #[W64 (T.Sp.without ⟨lo,hi⟩ ⟨lo2,hi2⟩).lo,W64 (T.Sp.without ⟨lo,hi⟩ ⟨lo2,hi2⟩).hi])):=spwithout_any ⟨lo,hi⟩ ⟨lo2,hi2⟩ w
theorem plain18_f{x:T.Wk}(h:x.both=false):x.plain 18=some (T.Sp.without ⟨x.a.lo,x.a.hi⟩ ⟨x.b.lo,x.b.hi⟩,T.Sp.without ⟨x.b.lo,x.b.hi⟩ ⟨x.a.lo,x.a.hi⟩):=by
 unfold T.Wk.plain;rw[if_neg (by decide),if_pos rfl,h];rfl
theorem sp_ne(x:T.Wk):(x.a != x.b) = !(x.a.lo==x.b.lo&&x.a.hi==x.b.hi):=by
 obtain⟨⟨a,b⟩,⟨c,d⟩,nr⟩:=x
 have h:((⟨a,b⟩:T.Sp)==⟨c,d⟩)=(a==c&&b==d):=by
  rw[Bool.eq_iff_iff,beq_iff_eq,Bool.and_eq_true,beq_iff_eq,beq_iff_eq,T.Sp.mk.injEq]
 simp only[bne,h]
theorem plain18_t{x:T.Wk}{q:Bool}(h:x.both=true)(hq:((!(x.a.lo==x.b.lo)) || !(x.a.hi==x.b.hi))=q):x.plain 18=bif q then some (T.Sp.without ⟨x.a.lo,x.a.hi⟩ ⟨x.b.lo,x.b.hi⟩,T.Sp.without ⟨x.b.lo,x.b.hi⟩ ⟨x.a.lo,x.a.hi⟩)else none:=by
 unfold T.Wk.plain;rw[if_neg (by decide),if_pos rfl,h,sp_ne,Bool.not_and,hq];cases q<;>rfl
theorem wplain18_any(x:T.Wk)(w:World):Calls Tryz.prog 236 #[wkv x,.int .u8 18] w (PairP w (x.plain 18)):=by
 have HO:=Hd (fun q=>wboth_any x q);unfold wkv at HO ⊢;have BK:=bk3 w [W64 x.a.lo,W64 x.a.hi,W64 x.b.lo,W64 x.b.hi,.bool x.narrow,W64 x.most,W64 x.size] 229 [W64 0#64,W64 0#64] 122 [W64 0#64,W64 0#64] 122;go_enter Tryz.func236,Tryz.ntmps236;go_upto_region 1 with fail;generalize w.heap.size=X at *;refine wp_hid BK (fun w1 BK=>?_);obtain⟨c0,c1,c2,c3,c4,c5,c6,d0,d1,d2,d3,f0,f1,f2,f3⟩:=pr_cells BK.o;go_wp2_with fail;refine(HO.o _).mono ?_;rintro e w3 ⟨rfl,hs⟩;have BK2:=Hd (BK.o.call hs);clear c0 c1 c2 c3 c4 c5 c6 d0 d1 d2 d3 f0 f1 f2 f3;clear hs BK;obtain⟨c0,c1,c2,c3,c4,c5,c6,d0,d1,d2,d3,f0,f1,f2,f3⟩:=pr_cells BK2.o;cases hq:x.both
 case false =>
  have HQ:=Hd hq;go_wp2_with fail;refine(must_any _ _).mono ?_;rintro e w2 (⟨hm,rfl,hs⟩|⟨hm,rfl,hs⟩)
  case inr =>
   cases hm
  have BK3:=Hd (BK2.o.call hs);have HMM:=Hd hm;clear c0 c1 c2 c3 c4 c5 c6 d0 d1 d2 d3 f0 f1 f2 f3;clear hs BK2 hm;obtain⟨c0,c1,c2,c3,c4,c5,c6,d0,d1,d2,d3,f0,f1,f2,f3⟩:=pr_cells BK3.o;have hB:=BK3.o;go_wp2_with fail
  go_region_held3 (fun w'=>w'.cell? ⟨X,0,none⟩=some (W64 x.a.lo)/\w'.cell? ⟨X,1,none⟩=some (W64 x.a.hi)/\w'.cell? ⟨X,2,none⟩=some (W64 x.b.lo)/\w'.cell? ⟨X,3,none⟩=some (W64 x.b.hi))
   (first
     | with_reducible exact pr_four hB
     | with_reducible exact pr_four hB.drew
     | with_reducible exact pr_k2 hB _ _ _ _
     | with_reducible exact pr_k1 hB _ _
     | fail "keep")
   (first | (go_at_call 265; refine (spwithout_agg _ _ _ _ _).mono ?_; rintro e w6 ⟨rfl, hs⟩; (first | (have hB := hB.call hs) | (have hB := hB.drew.call hs)); obtain ⟨c0, c1, c2, c3, c4, c5, c6, d0, d1, d2, d3, f0, f1, f2, f3⟩ := pr_cells hB; clear hs) | fail "arm")
  all_goals
   have HB:=Hd hB;clear hB;go_wp2_with fail;refine bodyPost_ret (v:=.tuple #[.agg #[W64 (T.Sp.without ⟨x.a.lo,x.a.hi⟩ ⟨x.b.lo,x.b.hi⟩).lo,W64 (T.Sp.without ⟨x.a.lo,x.a.hi⟩ ⟨x.b.lo,x.b.hi⟩).hi],.agg #[W64 (T.Sp.without ⟨x.b.lo,x.b.hi⟩ ⟨x.a.lo,x.a.hi⟩).lo,W64 (T.Sp.without ⟨x.b.lo,x.b.hi⟩ ⟨x.a.lo,x.a.hi⟩).hi]]) ?_ rfl (pairP_some _ _ _ _ (plain18_f HQ.o) (by first|exact pr_since HB.o _ _ _ _|exact(pr_since HB.o _ _ _ _).drew));simp[results,Tryz.results236,go_sem,d0,d1,d2,d3]
 case true =>
  have HQ:=Hd hq;go_wp2_with fail;refine(must_any _ _).mono ?_;rintro e w2 (⟨hm,rfl,hs⟩|⟨hm,rfl,hs⟩)
  case inr =>
   have HFIN:=Hd (pairP_none (o:=x.plain 18) (plain18_t HQ.o hm) (BK2.o.call hs).since);clear hs BK2;clear c0 c1 c2 c3 c4 c5 c6 d0 d1 d2 d3 f0 f1 f2 f3;go_wp2;exact⟨rfl,HFIN.o⟩
  have BK3:=Hd (BK2.o.call hs);have HMM:=Hd hm;clear c0 c1 c2 c3 c4 c5 c6 d0 d1 d2 d3 f0 f1 f2 f3;clear hs BK2 hm;obtain⟨c0,c1,c2,c3,c4,c5,c6,d0,d1,d2,d3,f0,f1,f2,f3⟩:=pr_cells BK3.o;have hB:=BK3.o;go_wp2_with fail
  go_region_held3 (fun w'=>w'.cell? ⟨X,0,none⟩=some (W64 x.a.lo)/\w'.cell? ⟨X,1,none⟩=some (W64 x.a.hi)/\w'.cell? ⟨X,2,none⟩=some (W64 x.b.lo)/\w'.cell? ⟨X,3,none⟩=some (W64 x.b.hi))
   (first
     | with_reducible exact pr_four hB
     | with_reducible exact pr_four hB.drew
     | with_reducible exact pr_k2 hB _ _ _ _
     | with_reducible exact pr_k1 hB _ _
     | fail "keep")
   (first | (go_at_call 265; refine (spwithout_agg _ _ _ _ _).mono ?_; rintro e w6 ⟨rfl, hs⟩; (first | (have hB := hB.call hs) | (have hB := hB.drew.call hs)); obtain ⟨c0, c1, c2, c3, c4, c5, c6, d0, d1, d2, d3, f0, f1, f2, f3⟩ := pr_cells hB; clear hs) | fail "arm")
  all_goals
   have HB:=Hd hB;clear hB;go_wp2_with fail;refine bodyPost_ret (v:=.tuple #[.agg #[W64 (T.Sp.without ⟨x.a.lo,x.a.hi⟩ ⟨x.b.lo,x.b.hi⟩).lo,W64 (T.Sp.without ⟨x.a.lo,x.a.hi⟩ ⟨x.b.lo,x.b.hi⟩).hi],.agg #[W64 (T.Sp.without ⟨x.b.lo,x.b.hi⟩ ⟨x.a.lo,x.a.hi⟩).lo,W64 (T.Sp.without ⟨x.b.lo,x.b.hi⟩ ⟨x.a.lo,x.a.hi⟩).hi]]) ?_ rfl (pairP_some _ _ _ _ (plain18_t HQ.o HMM.o) (by first|exact pr_since HB.o _ _ _ _|exact(pr_since HB.o _ _ _ _).drew));simp[results,Tryz.results236,go_sem,d0,d1,d2,d3]
end Go.Proofs.YtfeipbgnjainlaaGreatDoor.K
