/- What all servers look at: TSpH -/
import Derived.Test.YtfeipbgnjainlaaGreatTw22
set_option linter.unusedVariables false
set_option linter.unusedSimpArgs false
/- (made by genplain.py) The contracts of span.work.turned, plain, the rest. -/
set_option maxRecDepth 100000
set_option maxHeartbeats 4000000
namespace Go.Proofs.YtfeipbgnjainlaaGreat.K
open Go Go.RowKit Go.Maps Go.Sort

theorem wturned_any (x : T.Wk) (w : World) : Calls Tryz.prog 219 #[wkv x] w (Ret w (wkv x.turned)) := by
 unfold wkv
 have BK := bk2 w [W64 x.a.lo,W64 x.a.hi,W64 x.b.lo,W64 x.b.hi,.bool x.narrow,W64 x.most,W64 x.size] 190 [W64 0#64,W64 0#64,W64 0#64,W64 0#64,.bool false,W64 0#64,W64 0#64] 190
 go_enter Tryz.func219,Tryz.ntmps219
 go_upto_region 1 with fail
 generalize w.heap.size = X at *
 refine wp_hid BK (fun w1 BK => ?_)
 obtain ⟨c0,c1,c2,c3,c4,c5,c6⟩ := BK.out.q7 1 rfl
 obtain ⟨d0,d1,d2,d3,d4,d5,d6,f0,f1,f2,f3,f4,f5,f6⟩ := BK.out.r7 0 rfl
 have g0 := BK.out.free 1 rfl 0
 have g1 := BK.out.free 1 rfl 1
 have g2 := BK.out.free 1 rfl 2
 have g3 := BK.out.free 1 rfl 3
 have BT := Lib.hid ((((((BK.out.boxSet 1 rfl 0 (W64 x.b.lo)).boxSet 1 rfl 1 (W64 x.b.hi)).boxSet 1 rfl 2 (W64 x.a.lo)).boxSet 1 rfl 3 (W64 x.a.hi)).set7 0 rfl (W64 x.b.lo) (W64 x.b.hi) (W64 x.a.lo) (W64 x.a.hi) (.bool x.narrow) (W64 x.most) (W64 x.size)).since)
 go_wp2
 refine bodyPost_ret (v := .agg #[W64 x.b.lo,W64 x.b.hi,W64 x.a.lo,W64 x.a.hi,.bool x.narrow,W64 x.most,W64 x.size]) ?_ rfl ⟨rfl,BT.out⟩
 simp [results,Tryz.results219,go_sem,d0,d1,d2,d3,d4,d5,d6]
theorem pq_four {w w' : World} {R1 R2 : Nat} {p : Acc} {a b c d : Value} (h : Bank w w' [boxAcc R2 111 [c,d],boxAcc R1 111 [a,b],p]) : w'.cell? ⟨R1,0,none⟩ = some a ∧ w'.cell? ⟨R1,1,none⟩ = some b ∧ w'.cell? ⟨R2,0,none⟩ = some c ∧ w'.cell? ⟨R2,1,none⟩ = some d := ⟨h.cell 1 rfl 0 rfl,h.cell 1 rfl 1 rfl,h.cell 0 rfl 0 rfl,h.cell 0 rfl 1 rfl⟩
theorem pq_put1 {w w' : World} {R1 R2 : Nat} {p : Acc} {a b c d : Value} (h : Bank w w' [boxAcc R2 111 [c,d],boxAcc R1 111 [a,b],p]) : Bank w ((w'.setCell ⟨R1,0,none⟩ a).setCell ⟨R1,1,none⟩ b) [boxAcc R2 111 [c,d],boxAcc R1 111 [a,b],p] := (h.boxSet 1 rfl 0 a).boxSet 1 rfl 1 b
theorem pq_put2 {w w' : World} {R1 R2 : Nat} {p : Acc} {a b c d : Value} (h : Bank w w' [boxAcc R2 111 [c,d],boxAcc R1 111 [a,b],p]) : Bank w ((w'.setCell ⟨R2,0,none⟩ c).setCell ⟨R2,1,none⟩ d) [boxAcc R2 111 [c,d],boxAcc R1 111 [a,b],p] := (h.boxSet 0 rfl 0 c).boxSet 0 rfl 1 d
theorem pq_k1 {w w' : World} {R1 R2 : Nat} {p : Acc} {a b c d : Value} (h : Bank w w' [boxAcc R2 111 [c,d],boxAcc R1 111 [a,b],p]) : ((w'.setCell ⟨R1,0,none⟩ a).setCell ⟨R1,1,none⟩ b).cell? ⟨R1,0,none⟩ = some a ∧ ((w'.setCell ⟨R1,0,none⟩ a).setCell ⟨R1,1,none⟩ b).cell? ⟨R1,1,none⟩ = some b ∧ ((w'.setCell ⟨R1,0,none⟩ a).setCell ⟨R1,1,none⟩ b).cell? ⟨R2,0,none⟩ = some c ∧ ((w'.setCell ⟨R1,0,none⟩ a).setCell ⟨R1,1,none⟩ b).cell? ⟨R2,1,none⟩ = some d := pq_four (pq_put1 h)
theorem pq_k1d {w w' : World} {R1 R2 : Nat} {p : Acc} {a b c d : Value} (h : Bank w w' [boxAcc R2 111 [c,d],boxAcc R1 111 [a,b],p]) : ((w'.setCell ⟨R1,0,none⟩ a).setCell ⟨R1,1,none⟩ b).drew.cell? ⟨R1,0,none⟩ = some a ∧ ((w'.setCell ⟨R1,0,none⟩ a).setCell ⟨R1,1,none⟩ b).drew.cell? ⟨R1,1,none⟩ = some b ∧ ((w'.setCell ⟨R1,0,none⟩ a).setCell ⟨R1,1,none⟩ b).drew.cell? ⟨R2,0,none⟩ = some c ∧ ((w'.setCell ⟨R1,0,none⟩ a).setCell ⟨R1,1,none⟩ b).drew.cell? ⟨R2,1,none⟩ = some d := pq_four (pq_put1 h).drew
theorem pq_k2 {w w' : World} {R1 R2 : Nat} {p : Acc} {a b c d : Value} (h : Bank w w' [boxAcc R2 111 [c,d],boxAcc R1 111 [a,b],p]) : ((((w'.setCell ⟨R1,0,none⟩ a).setCell ⟨R1,1,none⟩ b).setCell ⟨R2,0,none⟩ c).setCell ⟨R2,1,none⟩ d).cell? ⟨R1,0,none⟩ = some a ∧ ((((w'.setCell ⟨R1,0,none⟩ a).setCell ⟨R1,1,none⟩ b).setCell ⟨R2,0,none⟩ c).setCell ⟨R2,1,none⟩ d).cell? ⟨R1,1,none⟩ = some b ∧ ((((w'.setCell ⟨R1,0,none⟩ a).setCell ⟨R1,1,none⟩ b).setCell ⟨R2,0,none⟩ c).setCell ⟨R2,1,none⟩ d).cell? ⟨R2,0,none⟩ = some c ∧ ((((w'.setCell ⟨R1,0,none⟩ a).setCell ⟨R1,1,none⟩ b).setCell ⟨R2,0,none⟩ c).setCell ⟨R2,1,none⟩ d).cell? ⟨R2,1,none⟩ = some d := pq_four (pq_put2 (pq_put1 h))
theorem pq_k2d {w w' : World} {R1 R2 : Nat} {p : Acc} {a b c d : Value} (h : Bank w w' [boxAcc R2 111 [c,d],boxAcc R1 111 [a,b],p]) : ((((w'.setCell ⟨R1,0,none⟩ a).setCell ⟨R1,1,none⟩ b).setCell ⟨R2,0,none⟩ c).setCell ⟨R2,1,none⟩ d).drew.cell? ⟨R1,0,none⟩ = some a ∧ ((((w'.setCell ⟨R1,0,none⟩ a).setCell ⟨R1,1,none⟩ b).setCell ⟨R2,0,none⟩ c).setCell ⟨R2,1,none⟩ d).drew.cell? ⟨R1,1,none⟩ = some b ∧ ((((w'.setCell ⟨R1,0,none⟩ a).setCell ⟨R1,1,none⟩ b).setCell ⟨R2,0,none⟩ c).setCell ⟨R2,1,none⟩ d).drew.cell? ⟨R2,0,none⟩ = some c ∧ ((((w'.setCell ⟨R1,0,none⟩ a).setCell ⟨R1,1,none⟩ b).setCell ⟨R2,0,none⟩ c).setCell ⟨R2,1,none⟩ d).drew.cell? ⟨R2,1,none⟩ = some d := pq_four (pq_put2 (pq_put1 h)).drew
theorem pq_d {w w' : World} {R1 R2 : Nat} {p : Acc} {a b c d : Value} (h : Bank w w' [boxAcc R2 111 [c,d],boxAcc R1 111 [a,b],p]) : w'.drew.cell? ⟨R1,0,none⟩ = some a ∧ w'.drew.cell? ⟨R1,1,none⟩ = some b ∧ w'.drew.cell? ⟨R2,0,none⟩ = some c ∧ w'.drew.cell? ⟨R2,1,none⟩ = some d := pq_four h.drew
theorem pq_frozen {w w' : World} {R1 R2 : Nat} {p : Acc} {a b c d : Value} (h : Bank w w' [boxAcc R2 111 [c,d],boxAcc R1 111 [a,b],p]) : w'.frozen? ⟨R1,0,none⟩ = false ∧ w'.frozen? ⟨R1,1,none⟩ = false ∧ w'.frozen? ⟨R2,0,none⟩ = false ∧ w'.frozen? ⟨R2,1,none⟩ = false := ⟨h.free 1 rfl 0,h.free 1 rfl 1,h.free 0 rfl 0,h.free 0 rfl 1⟩
theorem pq_since {w w' : World} {R1 R2 : Nat} {p : Acc} {a b c d : Value} (h : Bank w w' [boxAcc R2 111 [c,d],boxAcc R1 111 [a,b],p]) : Since w ((((w'.setCell ⟨R1,0,none⟩ a).setCell ⟨R1,1,none⟩ b).setCell ⟨R2,0,none⟩ c).setCell ⟨R2,1,none⟩ d) := (pq_put2 (pq_put1 h)).since
theorem pr_swap {w w' : World} {x : T.Wk} {X R1 R2 : Nat} {u1 v1 u2 v2 : Value} (h : Bank w w' [boxAcc R2 111 [u2,v2],boxAcc R1 111 [u1,v1],boxAcc X 190 [W64 x.a.lo,W64 x.a.hi,W64 x.b.lo,W64 x.b.hi,.bool x.narrow,W64 x.most,W64 x.size]]) (c d a b : Value) : Bank w ((((w'.setCell ⟨R2,0,none⟩ c).setCell ⟨R2,1,none⟩ d).setCell ⟨R1,0,none⟩ a).setCell ⟨R1,1,none⟩ b) [boxAcc R2 111 [c,d],boxAcc R1 111 [a,b],boxAcc X 190 [W64 x.a.lo,W64 x.a.hi,W64 x.b.lo,W64 x.b.hi,.bool x.narrow,W64 x.most,W64 x.size]] :=
 ((((h.boxSet 0 rfl 0 c).boxSet 0 rfl 1 d).boxSet 1 rfl 0 a).boxSet 1 rfl 1 b)
theorem plain21 (x : T.Wk) : x.plain 21 = (x.turned.plain 19).map T.swap := rfl
theorem plain22 (x : T.Wk) : x.plain 22 = (x.turned.plain 20).map T.swap := rfl
theorem wplain21_any (x : T.Wk) (w : World) : Calls Tryz.prog 191 #[wkv x,.int .u8 21] w (PairP w (x.plain 21)) := by
 have HO := Lib.hid (fun q => wboth_any x q)
 unfold wkv at HO ⊢
 have BK := bk3 w [W64 x.a.lo,W64 x.a.hi,W64 x.b.lo,W64 x.b.hi,.bool x.narrow,W64 x.most,W64 x.size] 190 [W64 0#64,W64 0#64] 111 [W64 0#64,W64 0#64] 111
 have HT := Lib.hid (fun q => wturned_any x q)
 unfold wkv at HT
 go_enter Tryz.func191,Tryz.ntmps191
 go_upto_region 1 with fail
 generalize w.heap.size = X at *
 refine wp_hid BK (fun w1 BK => ?_)
 obtain ⟨c0,c1,c2,c3,c4,c5,c6,d0,d1,d2,d3,f0,f1,f2,f3⟩ := pr_cells BK.out
 go_wp2_with fail
 refine (HT.out _).mono ?_
 rintro e w3 ⟨rfl,hs⟩
 have BK2 := Lib.hid (BK.out.call hs)
 clear c0 c1 c2 c3 c4 c5 c6 d0 d1 d2 d3 f0 f1 f2 f3
 clear hs BK
 go_wp2_with fail
 refine (wplain19_any x.turned _).mono ?_
 rintro e w4 (⟨⟨⟨a,b⟩,⟨c,d⟩⟩,hr,rfl,hs⟩ | ⟨hr,rfl,hs⟩)
 case inr =>
  have HFIN := Lib.hid (pairP_none (o := x.plain 21) (by rw [plain21,hr]; rfl) (BK2.out.call hs).since)
  clear hs BK2 hr
  go_wp2
  exact ⟨rfl,HFIN.out⟩
 case inl =>
  have HRR := Lib.hid (show x.plain 21 = some (⟨c,d⟩,⟨a,b⟩) by rw [plain21,hr]; rfl)
  have BK3 := Lib.hid (BK2.out.call hs)
  clear hs BK2 hr
  obtain ⟨c0,c1,c2,c3,c4,c5,c6,d0,d1,d2,d3,f0,f1,f2,f3⟩ := pr_cells BK3.out
  unfold spv
  dsimp only
  go_upto_region 19 with fail
  have BK4 := Lib.hid (pr_swap BK3.out (W64 a) (W64 b) (W64 c) (W64 d))
  clear c0 c1 c2 c3 c4 c5 c6 d0 d1 d2 d3 f0 f1 f2 f3
  generalize (((w4.setCell ⟨X + 1 + 1,0,none⟩ (W64 a)).setCell ⟨X + 1 + 1,1,none⟩ (W64 b)).setCell ⟨X + 1,0,none⟩ (W64 c)).setCell ⟨X + 1,1,none⟩ (W64 d) = w5 at *
  obtain ⟨d0,d1,d2,d3⟩ := pq_four BK4.out
  obtain ⟨f0,f1,f2,f3⟩ := pq_frozen BK4.out
  go_region_held3 (fun w' => w'.cell? ⟨X + 1,0,none⟩ = some (W64 c) ∧ w'.cell? ⟨X + 1,1,none⟩ = some (W64 d) ∧ w'.cell? ⟨X + 1 + 1,0,none⟩ = some (W64 a) ∧ w'.cell? ⟨X + 1 + 1,1,none⟩ = some (W64 b))
   (first
    | with_reducible exact pq_four BK4.out
    | with_reducible exact pq_d BK4.out
    | with_reducible exact pq_k2 BK4.out
    | with_reducible exact pq_k2d BK4.out
    | with_reducible exact pq_k1 BK4.out
    | with_reducible exact pq_k1d BK4.out
    | fail "keep")
   (first | fail "arm")
  all_goals
   go_wp2_with fail
   refine bodyPost_ret (v := .tuple #[.agg #[W64 c,W64 d],.agg #[W64 a,W64 b]]) ?_ rfl (pairP_some c d a b HRR.out (by first | exact pq_since BK4.out | exact (pq_since BK4.out).drew))
   simp [results,Tryz.results191,go_sem,d0,d1,d2,d3]
theorem wplain22_any (x : T.Wk) (w : World) : Calls Tryz.prog 191 #[wkv x,.int .u8 22] w (PairP w (x.plain 22)) := by
 have HO := Lib.hid (fun q => wboth_any x q)
 unfold wkv at HO ⊢
 have BK := bk3 w [W64 x.a.lo,W64 x.a.hi,W64 x.b.lo,W64 x.b.hi,.bool x.narrow,W64 x.most,W64 x.size] 190 [W64 0#64,W64 0#64] 111 [W64 0#64,W64 0#64] 111
 have HT := Lib.hid (fun q => wturned_any x q)
 unfold wkv at HT
 go_enter Tryz.func191,Tryz.ntmps191
 go_upto_region 1 with fail
 generalize w.heap.size = X at *
 refine wp_hid BK (fun w1 BK => ?_)
 obtain ⟨c0,c1,c2,c3,c4,c5,c6,d0,d1,d2,d3,f0,f1,f2,f3⟩ := pr_cells BK.out
 go_wp2_with fail
 refine (HT.out _).mono ?_
 rintro e w3 ⟨rfl,hs⟩
 have BK2 := Lib.hid (BK.out.call hs)
 clear c0 c1 c2 c3 c4 c5 c6 d0 d1 d2 d3 f0 f1 f2 f3
 clear hs BK
 go_wp2_with fail
 refine (wplain20_any x.turned _).mono ?_
 rintro e w4 (⟨⟨⟨a,b⟩,⟨c,d⟩⟩,hr,rfl,hs⟩ | ⟨hr,rfl,hs⟩)
 case inr =>
  have HFIN := Lib.hid (pairP_none (o := x.plain 22) (by rw [plain22,hr]; rfl) (BK2.out.call hs).since)
  clear hs BK2 hr
  go_wp2
  exact ⟨rfl,HFIN.out⟩
 case inl =>
  have HRR := Lib.hid (show x.plain 22 = some (⟨c,d⟩,⟨a,b⟩) by rw [plain22,hr]; rfl)
  have BK3 := Lib.hid (BK2.out.call hs)
  clear hs BK2 hr
  obtain ⟨c0,c1,c2,c3,c4,c5,c6,d0,d1,d2,d3,f0,f1,f2,f3⟩ := pr_cells BK3.out
  unfold spv
  dsimp only
  go_upto_region 19 with fail
  have BK4 := Lib.hid (pr_swap BK3.out (W64 a) (W64 b) (W64 c) (W64 d))
  clear c0 c1 c2 c3 c4 c5 c6 d0 d1 d2 d3 f0 f1 f2 f3
  generalize (((w4.setCell ⟨X + 1 + 1,0,none⟩ (W64 a)).setCell ⟨X + 1 + 1,1,none⟩ (W64 b)).setCell ⟨X + 1,0,none⟩ (W64 c)).setCell ⟨X + 1,1,none⟩ (W64 d) = w5 at *
  obtain ⟨d0,d1,d2,d3⟩ := pq_four BK4.out
  obtain ⟨f0,f1,f2,f3⟩ := pq_frozen BK4.out
  go_region_held3 (fun w' => w'.cell? ⟨X + 1,0,none⟩ = some (W64 c) ∧ w'.cell? ⟨X + 1,1,none⟩ = some (W64 d) ∧ w'.cell? ⟨X + 1 + 1,0,none⟩ = some (W64 a) ∧ w'.cell? ⟨X + 1 + 1,1,none⟩ = some (W64 b))
   (first
    | with_reducible exact pq_four BK4.out
    | with_reducible exact pq_d BK4.out
    | with_reducible exact pq_k2 BK4.out
    | with_reducible exact pq_k2d BK4.out
    | with_reducible exact pq_k1 BK4.out
    | with_reducible exact pq_k1d BK4.out
    | fail "keep")
   (first | fail "arm")
  all_goals
   go_wp2_with fail
   refine bodyPost_ret (v := .tuple #[.agg #[W64 c,W64 d],.agg #[W64 a,W64 b]]) ?_ rfl (pairP_some c d a b HRR.out (by first | exact pq_since BK4.out | exact (pq_since BK4.out).drew))
   simp [results,Tryz.results191,go_sem,d0,d1,d2,d3]
end Go.Proofs.YtfeipbgnjainlaaGreat.K
