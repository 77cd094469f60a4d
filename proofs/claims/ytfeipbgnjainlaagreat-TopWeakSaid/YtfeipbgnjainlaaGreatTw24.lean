/- What all servers look at: TSpI -/
import Derived.Test.YtfeipbgnjainlaaGreatTw23
set_option linter.unusedVariables false
set_option linter.unusedSimpArgs false
/- (made by genplain.py) The contracts of span.work.plain at 17 and 18. -/
set_option maxRecDepth 100000
set_option maxHeartbeats 4000000
namespace Go.Proofs.YtfeipbgnjainlaaGreat.K
open Go Go.RowKit Go.Maps Go.Sort

theorem meetV_q {s t : T.Sp} {q : Bool} (h : (meetV s t).2 = q) : s.meet t = bif q then some (meetV s t).1 else none := by
 unfold meetV at h ⊢
 cases hm : s.meet t with
 | some m => rw [hm] at h; simp only at h; subst h; rfl
 | none => rw [hm] at h; simp only at h; subst h; rfl
theorem plain17_q {x : T.Wk} {q : Bool} (h : (meetV ⟨x.a.lo,x.a.hi⟩ ⟨x.b.lo,x.b.hi⟩).2 = q) : x.plain 17 = bif q then some ((meetV ⟨x.a.lo,x.a.hi⟩ ⟨x.b.lo,x.b.hi⟩).1,(meetV ⟨x.a.lo,x.a.hi⟩ ⟨x.b.lo,x.b.hi⟩).1) else none := by
 unfold T.Wk.plain
 rw [if_pos rfl,show x.a.meet x.b = _ from meetV_q h]
 cases q <;> rfl
theorem py_two {w w' : World} {Y R1 R2 : Nat} {p : Acc} {s t u1 v1 u2 v2 : Value} (h : Bank w w' [boxAcc Y 111 [s,t],boxAcc R2 111 [u2,v2],boxAcc R1 111 [u1,v1],p]) : w'.cell? ⟨Y,0,none⟩ = some s ∧ w'.cell? ⟨Y,1,none⟩ = some t := ⟨h.cell 0 rfl 0 rfl,h.cell 0 rfl 1 rfl⟩
theorem py_put1 {w w' : World} {Y R1 R2 : Nat} {p : Acc} {s t u1 v1 u2 v2 : Value} (h : Bank w w' [boxAcc Y 111 [s,t],boxAcc R2 111 [u2,v2],boxAcc R1 111 [u1,v1],p]) (a b : Value) : Bank w ((w'.setCell ⟨R1,0,none⟩ a).setCell ⟨R1,1,none⟩ b) [boxAcc Y 111 [s,t],boxAcc R2 111 [u2,v2],boxAcc R1 111 [a,b],p] := (h.boxSet 2 rfl 0 a).boxSet 2 rfl 1 b
theorem py_put2 {w w' : World} {Y R1 R2 : Nat} {p : Acc} {s t u1 v1 u2 v2 : Value} (h : Bank w w' [boxAcc Y 111 [s,t],boxAcc R2 111 [u2,v2],boxAcc R1 111 [u1,v1],p]) (c d : Value) : Bank w ((w'.setCell ⟨R2,0,none⟩ c).setCell ⟨R2,1,none⟩ d) [boxAcc Y 111 [s,t],boxAcc R2 111 [c,d],boxAcc R1 111 [u1,v1],p] := (h.boxSet 1 rfl 0 c).boxSet 1 rfl 1 d
theorem py_k1 {w w' : World} {Y R1 R2 : Nat} {p : Acc} {s t u1 v1 u2 v2 : Value} (h : Bank w w' [boxAcc Y 111 [s,t],boxAcc R2 111 [u2,v2],boxAcc R1 111 [u1,v1],p]) (a b : Value) : ((w'.setCell ⟨R1,0,none⟩ a).setCell ⟨R1,1,none⟩ b).cell? ⟨Y,0,none⟩ = some s ∧ ((w'.setCell ⟨R1,0,none⟩ a).setCell ⟨R1,1,none⟩ b).cell? ⟨Y,1,none⟩ = some t := py_two (py_put1 h a b)
theorem py_k1d {w w' : World} {Y R1 R2 : Nat} {p : Acc} {s t u1 v1 u2 v2 : Value} (h : Bank w w' [boxAcc Y 111 [s,t],boxAcc R2 111 [u2,v2],boxAcc R1 111 [u1,v1],p]) (a b : Value) : ((w'.setCell ⟨R1,0,none⟩ a).setCell ⟨R1,1,none⟩ b).drew.cell? ⟨Y,0,none⟩ = some s ∧ ((w'.setCell ⟨R1,0,none⟩ a).setCell ⟨R1,1,none⟩ b).drew.cell? ⟨Y,1,none⟩ = some t := py_two (py_put1 h a b).drew
theorem py_k2 {w w' : World} {Y R1 R2 : Nat} {p : Acc} {s t u1 v1 u2 v2 : Value} (h : Bank w w' [boxAcc Y 111 [s,t],boxAcc R2 111 [u2,v2],boxAcc R1 111 [u1,v1],p]) (a b c d : Value) : ((((w'.setCell ⟨R1,0,none⟩ a).setCell ⟨R1,1,none⟩ b).setCell ⟨R2,0,none⟩ c).setCell ⟨R2,1,none⟩ d).cell? ⟨Y,0,none⟩ = some s ∧ ((((w'.setCell ⟨R1,0,none⟩ a).setCell ⟨R1,1,none⟩ b).setCell ⟨R2,0,none⟩ c).setCell ⟨R2,1,none⟩ d).cell? ⟨Y,1,none⟩ = some t := py_two (py_put2 (py_put1 h a b) c d)
theorem py_k2d {w w' : World} {Y R1 R2 : Nat} {p : Acc} {s t u1 v1 u2 v2 : Value} (h : Bank w w' [boxAcc Y 111 [s,t],boxAcc R2 111 [u2,v2],boxAcc R1 111 [u1,v1],p]) (a b c d : Value) : ((((w'.setCell ⟨R1,0,none⟩ a).setCell ⟨R1,1,none⟩ b).setCell ⟨R2,0,none⟩ c).setCell ⟨R2,1,none⟩ d).drew.cell? ⟨Y,0,none⟩ = some s ∧ ((((w'.setCell ⟨R1,0,none⟩ a).setCell ⟨R1,1,none⟩ b).setCell ⟨R2,0,none⟩ c).setCell ⟨R2,1,none⟩ d).drew.cell? ⟨Y,1,none⟩ = some t := py_two (py_put2 (py_put1 h a b) c d).drew
theorem py_since {w w' : World} {Y R1 R2 : Nat} {p : Acc} {s t u1 v1 u2 v2 : Value} (h : Bank w w' [boxAcc Y 111 [s,t],boxAcc R2 111 [u2,v2],boxAcc R1 111 [u1,v1],p]) (a b c d : Value) : Since w ((((w'.setCell ⟨R1,0,none⟩ a).setCell ⟨R1,1,none⟩ b).setCell ⟨R2,0,none⟩ c).setCell ⟨R2,1,none⟩ d) := (py_put2 (py_put1 h a b) c d).since
theorem spMeet_agg (lo hi lo2 hi2 : BitVec 64) (w : World) : Calls Tryz.prog 217 #[.agg #[W64 lo,W64 hi],.agg #[W64 lo2,W64 hi2]] w fun e w' => ∃ a b q,meetV ⟨lo,hi⟩ ⟨lo2,hi2⟩ = (⟨a,b⟩,q) ∧ e = .returned (.tuple #[.agg #[W64 a,W64 b],.bool q]) ∧ Since w w' := by
 refine (spMeet_any ⟨lo,hi⟩ ⟨lo2,hi2⟩ w).mono ?_
 rintro e w' ⟨rfl,hs⟩
 exact ⟨_,_,_,rfl,rfl,hs⟩
theorem wplain17_any (x : T.Wk) (w : World) : Calls Tryz.prog 191 #[wkv x,.int .u8 17] w (PairP w (x.plain 17)) := by
 have HO := Lib.hid (fun q => wboth_any x q)
 unfold wkv at HO ⊢
 have BK := bk3 w [W64 x.a.lo,W64 x.a.hi,W64 x.b.lo,W64 x.b.hi,.bool x.narrow,W64 x.most,W64 x.size] 190 [W64 0#64,W64 0#64] 111 [W64 0#64,W64 0#64] 111
 go_enter Tryz.func191,Tryz.ntmps191
 go_upto_region 1 with fail
 generalize w.heap.size = X at *
 refine wp_hid BK (fun w1 BK => ?_)
 obtain ⟨c0,c1,c2,c3,c4,c5,c6,d0,d1,d2,d3,f0,f1,f2,f3⟩ := pr_cells BK.out
 go_wp2_with fail
 refine (spMeet_agg _ _ _ _ _).mono ?_
 rintro e w3 ⟨a,b,q,hmv,rfl,hs⟩
 have HMV := Lib.hid (show x.plain 17 = bif q then some (⟨a,b⟩,⟨a,b⟩) else none by rw [plain17_q (q := q) (by rw [hmv]),hmv])
 have BK2 := Lib.hid ((BK.out.call hs).boxL [W64 a,W64 b] 111 (by simp))
 clear c0 c1 c2 c3 c4 c5 c6 d0 d1 d2 d3 f0 f1 f2 f3
 clear hs BK hmv
 go_upto_region 4 with fail
 change Code.wp _ _ _ _ (w3.alloc (.cells #[W64 a,W64 b] 111))
 obtain ⟨Y,hY⟩ : ∃ Y,Y = w3.heap.size := ⟨_,rfl⟩
 rw [← hY] at BK2 ⊢
 generalize w3.alloc (.cells #[W64 a,W64 b] 111) = w4 at *
 clear hY
 go_wp2_with fail
 refine (must_any _ _).mono ?_
 rintro e w5 (⟨hm,rfl,hs⟩ | ⟨hm,rfl,hs⟩)
 case inr =>
  have HFIN := Lib.hid (pairP_none (o := x.plain 17) (by rw [HMV.out,hm]; rfl) (BK2.out.call hs).since)
  clear hs BK2
  go_wp2
  exact ⟨rfl,HFIN.out⟩
 case inl =>
  have HRR := Lib.hid (show x.plain 17 = some (⟨a,b⟩,⟨a,b⟩) by rw [HMV.out,hm]; rfl)
  have BK3 := Lib.hid (BK2.out.call hs)
  clear hs BK2 hm HMV
  obtain ⟨y0,y1⟩ := BK3.out.q2 0 rfl
  obtain ⟨d0,d1⟩ := BK3.out.q2 2 rfl
  obtain ⟨d2,d3⟩ := BK3.out.q2 1 rfl
  have f0 := BK3.out.free 2 rfl 0
  have f1 := BK3.out.free 2 rfl 1
  have f2 := BK3.out.free 1 rfl 0
  have f3 := BK3.out.free 1 rfl 1
  go_wp2_with fail
  go_region_held3 (fun w' => w'.cell? ⟨Y,0,none⟩ = some (W64 a) ∧ w'.cell? ⟨Y,1,none⟩ = some (W64 b))
   (first
    | with_reducible exact ⟨y0,y1⟩
    | with_reducible exact ⟨cell_drew y0,cell_drew y1⟩
    | with_reducible exact py_k2 BK3.out _ _ _ _
    | with_reducible exact py_k2d BK3.out _ _ _ _
    | with_reducible exact py_k1 BK3.out _ _
    | with_reducible exact py_k1d BK3.out _ _
    | fail "keep")
   (first | fail "arm")
  all_goals
   go_wp2_with fail
   refine bodyPost_ret (v := .tuple #[.agg #[W64 a,W64 b],.agg #[W64 a,W64 b]]) ?_ rfl (pairP_some a b a b HRR.out (by first | exact py_since BK3.out _ _ _ _ | exact (py_since BK3.out _ _ _ _).drew))
   simp [results,Tryz.results191,go_sem,d0,d1,d2,d3]
theorem spwithout_agg (lo hi lo2 hi2 : BitVec 64) (w : World) : Calls Tryz.prog 218 #[.agg #[W64 lo,W64 hi],.agg #[W64 lo2,W64 hi2]] w (Ret w (.agg #[W64 (T.Sp.without ⟨lo,hi⟩ ⟨lo2,hi2⟩).lo,W64 (T.Sp.without ⟨lo,hi⟩ ⟨lo2,hi2⟩).hi])) := spwithout_any ⟨lo,hi⟩ ⟨lo2,hi2⟩ w
theorem plain18_f {x : T.Wk} (h : x.both = false) : x.plain 18 = some (T.Sp.without ⟨x.a.lo,x.a.hi⟩ ⟨x.b.lo,x.b.hi⟩,T.Sp.without ⟨x.b.lo,x.b.hi⟩ ⟨x.a.lo,x.a.hi⟩) := by
 unfold T.Wk.plain
 rw [if_neg (by decide),if_pos rfl,h]
 rfl
theorem sp_ne (x : T.Wk) : (x.a != x.b) = !(x.a.lo == x.b.lo && x.a.hi == x.b.hi) := by
 obtain ⟨⟨a,b⟩,⟨c,d⟩,nr⟩ := x
 have h : ((⟨a,b⟩ : T.Sp) == ⟨c,d⟩) = (a == c && b == d) := by
  rw [Bool.eq_iff_iff,beq_iff_eq,Bool.and_eq_true,beq_iff_eq,beq_iff_eq,T.Sp.mk.injEq]
 simp only [bne,h]
theorem plain18_t {x : T.Wk} {q : Bool} (h : x.both = true) (hq : ((!(x.a.lo == x.b.lo)) || !(x.a.hi == x.b.hi)) = q) : x.plain 18 = bif q then some (T.Sp.without ⟨x.a.lo,x.a.hi⟩ ⟨x.b.lo,x.b.hi⟩,T.Sp.without ⟨x.b.lo,x.b.hi⟩ ⟨x.a.lo,x.a.hi⟩) else none := by
 unfold T.Wk.plain
 rw [if_neg (by decide),if_pos rfl,h,sp_ne,Bool.not_and,hq]
 cases q <;> rfl
theorem wplain18_any (x : T.Wk) (w : World) : Calls Tryz.prog 191 #[wkv x,.int .u8 18] w (PairP w (x.plain 18)) := by
 have HO := Lib.hid (fun q => wboth_any x q)
 unfold wkv at HO ⊢
 have BK := bk3 w [W64 x.a.lo,W64 x.a.hi,W64 x.b.lo,W64 x.b.hi,.bool x.narrow,W64 x.most,W64 x.size] 190 [W64 0#64,W64 0#64] 111 [W64 0#64,W64 0#64] 111
 go_enter Tryz.func191,Tryz.ntmps191
 go_upto_region 1 with fail
 generalize w.heap.size = X at *
 refine wp_hid BK (fun w1 BK => ?_)
 obtain ⟨c0,c1,c2,c3,c4,c5,c6,d0,d1,d2,d3,f0,f1,f2,f3⟩ := pr_cells BK.out
 go_wp2_with fail
 refine (HO.out _).mono ?_
 rintro e w3 ⟨rfl,hs⟩
 have BK2 := Lib.hid (BK.out.call hs)
 clear c0 c1 c2 c3 c4 c5 c6 d0 d1 d2 d3 f0 f1 f2 f3
 clear hs BK
 obtain ⟨c0,c1,c2,c3,c4,c5,c6,d0,d1,d2,d3,f0,f1,f2,f3⟩ := pr_cells BK2.out
 cases hq : x.both
 case false =>
  have HQ := Lib.hid hq
  go_wp2_with fail
  refine (must_any _ _).mono ?_
  rintro e w2 (⟨hm,rfl,hs⟩ | ⟨hm,rfl,hs⟩)
  case inr =>
   cases hm
  have BK3 := Lib.hid (BK2.out.call hs)
  have HMM := Lib.hid hm
  clear c0 c1 c2 c3 c4 c5 c6 d0 d1 d2 d3 f0 f1 f2 f3
  clear hs BK2 hm
  obtain ⟨c0,c1,c2,c3,c4,c5,c6,d0,d1,d2,d3,f0,f1,f2,f3⟩ := pr_cells BK3.out
  have hB := BK3.out
  go_wp2_with fail
  go_region_held3 (fun w' => w'.cell? ⟨X,0,none⟩ = some (W64 x.a.lo) ∧ w'.cell? ⟨X,1,none⟩ = some (W64 x.a.hi) ∧ w'.cell? ⟨X,2,none⟩ = some (W64 x.b.lo) ∧ w'.cell? ⟨X,3,none⟩ = some (W64 x.b.hi))
   (first
    | with_reducible exact pr_four hB
    | with_reducible exact pr_four hB.drew
    | with_reducible exact pr_k2 hB _ _ _ _
    | with_reducible exact pr_k1 hB _ _
    | fail "keep")
   (first | (go_at_call 218; refine (spwithout_agg _ _ _ _ _).mono ?_; rintro e w6 ⟨rfl, hs⟩; (first | (have hB := hB.call hs) | (have hB := hB.drew.call hs)); obtain ⟨c0, c1, c2, c3, c4, c5, c6, d0, d1, d2, d3, f0, f1, f2, f3⟩ := pr_cells hB; clear hs) | fail "arm")
  all_goals
   have HB := Lib.hid hB
   clear hB
   go_wp2_with fail
   refine bodyPost_ret (v := .tuple #[.agg #[W64 (T.Sp.without ⟨x.a.lo,x.a.hi⟩ ⟨x.b.lo,x.b.hi⟩).lo,W64 (T.Sp.without ⟨x.a.lo,x.a.hi⟩ ⟨x.b.lo,x.b.hi⟩).hi],.agg #[W64 (T.Sp.without ⟨x.b.lo,x.b.hi⟩ ⟨x.a.lo,x.a.hi⟩).lo,W64 (T.Sp.without ⟨x.b.lo,x.b.hi⟩ ⟨x.a.lo,x.a.hi⟩).hi]]) ?_ rfl (pairP_some _ _ _ _ (plain18_f HQ.out) (by first | exact pr_since HB.out _ _ _ _ | exact (pr_since HB.out _ _ _ _).drew))
   simp [results,Tryz.results191,go_sem,d0,d1,d2,d3]
 case true =>
  have HQ := Lib.hid hq
  go_wp2_with fail
  refine (must_any _ _).mono ?_
  rintro e w2 (⟨hm,rfl,hs⟩ | ⟨hm,rfl,hs⟩)
  case inr =>
   have HFIN := Lib.hid (pairP_none (o := x.plain 18) (plain18_t HQ.out hm) (BK2.out.call hs).since)
   clear hs BK2
   clear c0 c1 c2 c3 c4 c5 c6 d0 d1 d2 d3 f0 f1 f2 f3
   go_wp2
   exact ⟨rfl,HFIN.out⟩
  have BK3 := Lib.hid (BK2.out.call hs)
  have HMM := Lib.hid hm
  clear c0 c1 c2 c3 c4 c5 c6 d0 d1 d2 d3 f0 f1 f2 f3
  clear hs BK2 hm
  obtain ⟨c0,c1,c2,c3,c4,c5,c6,d0,d1,d2,d3,f0,f1,f2,f3⟩ := pr_cells BK3.out
  have hB := BK3.out
  go_wp2_with fail
  go_region_held3 (fun w' => w'.cell? ⟨X,0,none⟩ = some (W64 x.a.lo) ∧ w'.cell? ⟨X,1,none⟩ = some (W64 x.a.hi) ∧ w'.cell? ⟨X,2,none⟩ = some (W64 x.b.lo) ∧ w'.cell? ⟨X,3,none⟩ = some (W64 x.b.hi))
   (first
    | with_reducible exact pr_four hB
    | with_reducible exact pr_four hB.drew
    | with_reducible exact pr_k2 hB _ _ _ _
    | with_reducible exact pr_k1 hB _ _
    | fail "keep")
   (first | (go_at_call 218; refine (spwithout_agg _ _ _ _ _).mono ?_; rintro e w6 ⟨rfl, hs⟩; (first | (have hB := hB.call hs) | (have hB := hB.drew.call hs)); obtain ⟨c0, c1, c2, c3, c4, c5, c6, d0, d1, d2, d3, f0, f1, f2, f3⟩ := pr_cells hB; clear hs) | fail "arm")
  all_goals
   have HB := Lib.hid hB
   clear hB
   go_wp2_with fail
   refine bodyPost_ret (v := .tuple #[.agg #[W64 (T.Sp.without ⟨x.a.lo,x.a.hi⟩ ⟨x.b.lo,x.b.hi⟩).lo,W64 (T.Sp.without ⟨x.a.lo,x.a.hi⟩ ⟨x.b.lo,x.b.hi⟩).hi],.agg #[W64 (T.Sp.without ⟨x.b.lo,x.b.hi⟩ ⟨x.a.lo,x.a.hi⟩).lo,W64 (T.Sp.without ⟨x.b.lo,x.b.hi⟩ ⟨x.a.lo,x.a.hi⟩).hi]]) ?_ rfl (pairP_some _ _ _ _ (plain18_t HQ.out HMM.out) (by first | exact pr_since HB.out _ _ _ _ | exact (pr_since HB.out _ _ _ _).drew))
   simp [results,Tryz.results191,go_sem,d0,d1,d2,d3]
end Go.Proofs.YtfeipbgnjainlaaGreat.K
