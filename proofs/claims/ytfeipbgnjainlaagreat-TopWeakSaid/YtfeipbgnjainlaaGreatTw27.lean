/- What all servers look at: TKnB, TSpL -/
import Derived.Test.YtfeipbgnjainlaaGreatTw9
import Derived.Test.YtfeipbgnjainlaaGreatTw26
set_option linter.unusedVariables false
set_option linter.unusedSimpArgs false
/- (made by genjoin.py) The contract of kind.Join. -/
set_option maxRecDepth 100000
set_option maxHeartbeats 4000000
namespace Go.Proofs.YtfeipbgnjainlaaGreat.K
open Go Go.RowKit Go.Maps Go.Sort

theorem eqIn64' (w : World) (a b : BitVec 64) : (Op.equalIn 9998 34 (W64 a) (W64 b)).run Tryz.prog w = .ok (a == b) w := eqIn64n 9997 w a b
attribute [go_sem] eqIn64'
theorem spJoin_agg (lo hi lo2 hi2 : BitVec 64) (w : World) : Calls Tryz.prog 198 #[.agg #[W64 lo,W64 hi],.agg #[W64 lo2,W64 hi2]] w (Ret w (.agg #[W64 (T.Sp.join ⟨lo,hi⟩ ⟨lo2,hi2⟩).lo,W64 (T.Sp.join ⟨lo,hi⟩ ⟨lo2,hi2⟩).hi])) := spJoin_any ⟨lo,hi⟩ ⟨lo2,hi2⟩ w
theorem knum_agg (k : Int) (lo hi : BitVec 64) (w : World) : Calls Tryz.prog 131 #[.agg #[.int .u8 k,W64 lo,W64 hi]] w (Ret w (.tuple #[.agg #[W64 (T.Kn.numS ⟨k,⟨lo,hi⟩⟩).lo,W64 (T.Kn.numS ⟨k,⟨lo,hi⟩⟩).hi],.bool (T.Kn.isN ⟨k,⟨lo,hi⟩⟩)])) := knum_any ⟨k,⟨lo,hi⟩⟩ w
theorem kright_agg (k : Int) (lo hi : BitVec 64) (w : World) : Calls Tryz.prog 130 #[.agg #[.int .u8 k,W64 lo,W64 hi]] w (Ret w (.bool (T.Kn.right ⟨k,⟨lo,hi⟩⟩))) := kright_any ⟨k,⟨lo,hi⟩⟩ w
section
variable {x y : T.Kn} (hx : x.right = true) (hy : y.right = true)
include hx
theorem kj_same : x.join x = x := by
 unfold T.Kn.join
 rw [hx]
 simp
include hy
theorem kj_num (hn : ¬ x = y) (hi : x.isN = true) (hj : y.isN = true) : x.join y = ⟨1,x.numS.join y.numS⟩ := by
 unfold T.Kn.join
 rw [hx,hy,hi,hj]
 simp [hn]
theorem kj_pk (hn : ¬ x = y) (hi : (x.isN && y.isN) = false) (ha : x.k = 2) (hb : y.k = 2) : x.join y = ⟨2,x.s.join y.s⟩ := by
 unfold T.Kn.join
 rw [hx,hy,hi,if_neg (by simp),if_neg hn,if_neg (by simp),if_pos ⟨ha,hb⟩]
theorem kj_none (hn : ¬ x = y) (hi : (x.isN && y.isN) = false) (h2 : ¬ (x.k = 2 ∧ y.k = 2)) : x.join y = T.Kn.none := by
 unfold T.Kn.join
 rw [hx,hy,hi,if_neg (by simp),if_neg hn,if_neg (by simp),if_neg h2]
end
theorem kjoin_right (x y : T.Kn) (hx : x.right = true) (hy : y.right = true) (w : World) : Calls Tryz.prog 179 #[knv x,knv y] w (Ret w (knv (x.join y))) := by
 obtain ⟨a,⟨lo,hi⟩⟩ := x
 obtain ⟨b,⟨lo2,hi2⟩⟩ := y
 have RA := Lib.hid hx
 have RB := Lib.hid hy
 clear hx hy
 obtain ⟨z,hz⟩ : ∃ z,T.Kn.join ⟨a,⟨lo,hi⟩⟩ ⟨b,⟨lo2,hi2⟩⟩ = z := ⟨_,rfl⟩
 rw [hz]
 have HZ := Lib.hid hz
 clear hz
 unfold knv
 have BK0 := bk3 w [.int .u8 a,W64 lo,W64 hi] 113 [.int .u8 b,W64 lo2,W64 hi2] 113 [.int .u8 0,W64 0#64,W64 0#64] 113
 go_enter Tryz.func179,Tryz.ntmps179
 go_upto_region 1 with fail
 generalize w.heap.size = X at *
 refine wp_hid BK0 (fun w1 BK0 => ?_)
 obtain ⟨a0,a1,a2⟩ := BK0.out.q3 2 rfl
 obtain ⟨b0,b1,b2⟩ := BK0.out.q3 1 rfl
 obtain ⟨r0,r1,r2,fr0,fr1,fr2⟩ := BK0.out.r3 0 rfl
 go_wp2_with fail
 refine (knum_agg a lo hi _).mono ?_
 rintro e w2 ⟨rfl,hs⟩
 have BK1 := Lib.hid (BK0.out.call hs)
 clear a0 a1 a2 b0 b1 b2 r0 r1 r2 fr0 fr1 fr2
 clear hs BK0
 obtain ⟨a0,a1,a2⟩ := BK1.out.q3 2 rfl
 obtain ⟨b0,b1,b2⟩ := BK1.out.q3 1 rfl
 obtain ⟨r0,r1,r2,fr0,fr1,fr2⟩ := BK1.out.r3 0 rfl
 obtain ⟨p,hp⟩ : ∃ q,T.Kn.numS ⟨a,⟨lo,hi⟩⟩ = q := ⟨_,rfl⟩
 rw [hp]
 have Hp := Lib.hid hp
 clear hp
 obtain ⟨i,hi⟩ : ∃ q,T.Kn.isN ⟨a,⟨lo,hi⟩⟩ = q := ⟨_,rfl⟩
 rw [hi]
 have Hi := Lib.hid hi
 clear hi
 go_upto_region 2 with fail
 refine wp_hid (Lib.hid (BK1.out.boxL [W64 p.lo,W64 p.hi] 111 (by simp))) (fun w3 BK2 => ?_)
 generalize w2.heap.size = D at *
 clear BK1
 clear a0 a1 a2 b0 b1 b2 r0 r1 r2 fr0 fr1 fr2
 obtain ⟨a0,a1,a2⟩ := BK2.out.q3 3 rfl
 obtain ⟨b0,b1,b2⟩ := BK2.out.q3 2 rfl
 obtain ⟨r0,r1,r2,fr0,fr1,fr2⟩ := BK2.out.r3 1 rfl
 obtain ⟨p0,p1⟩ := BK2.out.q2 0 rfl
 go_wp2_with fail
 refine (knum_agg b lo2 hi2 _).mono ?_
 rintro e w4 ⟨rfl,hs⟩
 have BK3 := Lib.hid (BK2.out.call hs)
 clear a0 a1 a2 b0 b1 b2 r0 r1 r2 fr0 fr1 fr2 p0 p1
 clear hs BK2
 obtain ⟨a0,a1,a2⟩ := BK3.out.q3 3 rfl
 obtain ⟨b0,b1,b2⟩ := BK3.out.q3 2 rfl
 obtain ⟨r0,r1,r2,fr0,fr1,fr2⟩ := BK3.out.r3 1 rfl
 obtain ⟨p0,p1⟩ := BK3.out.q2 0 rfl
 obtain ⟨q,hq⟩ : ∃ q,T.Kn.numS ⟨b,⟨lo2,hi2⟩⟩ = q := ⟨_,rfl⟩
 rw [hq]
 have Hq := Lib.hid hq
 clear hq
 obtain ⟨j,hj⟩ : ∃ q,T.Kn.isN ⟨b,⟨lo2,hi2⟩⟩ = q := ⟨_,rfl⟩
 rw [hj]
 have Hj := Lib.hid hj
 clear hj
 go_upto_region 3 with fail
 refine wp_hid (Lib.hid (BK3.out.boxL [W64 q.lo,W64 q.hi] 111 (by simp))) (fun w5 BK4 => ?_)
 generalize w4.heap.size = E at *
 clear BK3
 clear a0 a1 a2 b0 b1 b2 r0 r1 r2 fr0 fr1 fr2 p0 p1
 obtain ⟨a0,a1,a2⟩ := BK4.out.q3 4 rfl
 obtain ⟨b0,b1,b2⟩ := BK4.out.q3 3 rfl
 obtain ⟨r0,r1,r2,fr0,fr1,fr2⟩ := BK4.out.r3 2 rfl
 obtain ⟨p0,p1⟩ := BK4.out.q2 1 rfl
 obtain ⟨q0,q1⟩ := BK4.out.q2 0 rfl
 go_wp2_with fail
 refine (kright_agg a lo hi _).mono ?_
 rintro e w6 ⟨rfl,hs⟩
 have BK5 := Lib.hid (BK4.out.call hs)
 clear a0 a1 a2 b0 b1 b2 r0 r1 r2 fr0 fr1 fr2 p0 p1 q0 q1
 clear hs BK4
 obtain ⟨a0,a1,a2⟩ := BK5.out.q3 4 rfl
 obtain ⟨b0,b1,b2⟩ := BK5.out.q3 3 rfl
 obtain ⟨r0,r1,r2,fr0,fr1,fr2⟩ := BK5.out.r3 2 rfl
 obtain ⟨p0,p1⟩ := BK5.out.q2 1 rfl
 obtain ⟨q0,q1⟩ := BK5.out.q2 0 rfl
 rw [RA.out]
 go_wp2_with fail
 refine (kright_agg b lo2 hi2 _).mono ?_
 rintro e w7 ⟨rfl,hs⟩
 have BK6 := Lib.hid (BK5.out.call hs)
 clear a0 a1 a2 b0 b1 b2 r0 r1 r2 fr0 fr1 fr2 p0 p1 q0 q1
 clear hs BK5
 obtain ⟨a0,a1,a2⟩ := BK6.out.q3 4 rfl
 obtain ⟨b0,b1,b2⟩ := BK6.out.q3 3 rfl
 obtain ⟨r0,r1,r2,fr0,fr1,fr2⟩ := BK6.out.r3 2 rfl
 obtain ⟨p0,p1⟩ := BK6.out.q2 1 rfl
 obtain ⟨q0,q1⟩ := BK6.out.q2 0 rfl
 rw [RB.out]
 cases hE : (a == b && (lo == lo2 && hi == hi2))
 case true =>
  rw [Bool.and_eq_true,Bool.and_eq_true,beq_iff_eq,beq_iff_eq,beq_iff_eq] at hE
  obtain ⟨e0,e1,e2⟩ := hE
  subst e0 e1 e2
  go_wp2
  refine bodyPost_ret (v := .agg #[.int .u8 a,W64 lo,W64 hi]) ?_ rfl ⟨by rw [← HZ.out,kj_same RA.out] <;> rfl,(((BK6.out.boxSet 2 rfl 0 (.int .u8 a)).boxSet 2 rfl 1 (W64 lo)).boxSet 2 rfl 2 (W64 hi)).since⟩
  simp [results,Tryz.results179,go_sem,a0,a1,a2,b0,b1,b2,r0,r1,r2,p0,p1,q0,q1]
 case false =>
  have HNE := Lib.hid (show ¬ (⟨a,⟨lo,hi⟩⟩ : T.Kn) = ⟨b,⟨lo2,hi2⟩⟩ from fun e => by cases e; simp at hE)
  go_upto_region 7 with fail
  clear hE
  cases i
  case false =>
   have HNI := Lib.hid (show (T.Kn.isN ⟨a,⟨lo,hi⟩⟩ && T.Kn.isN ⟨b,⟨lo2,hi2⟩⟩) = false by rw [Hi.out]; rfl)
   by_cases ha2 : a = 2
   ·by_cases hb2 : b = 2
    ·have H2 := Lib.hid ha2
     have H3 := Lib.hid hb2
     subst ha2 hb2
     go_wp2_with fail
     refine (spJoin_agg lo hi lo2 hi2 _).mono ?_
     rintro e w8 ⟨rfl,hs⟩
     have BK7 := Lib.hid (BK6.out.call hs)
     clear a0 a1 a2 b0 b1 b2 r0 r1 r2 fr0 fr1 fr2 p0 p1 q0 q1
     clear hs BK6
     obtain ⟨a0,a1,a2⟩ := BK7.out.q3 4 rfl
     obtain ⟨b0,b1,b2⟩ := BK7.out.q3 3 rfl
     obtain ⟨r0,r1,r2,fr0,fr1,fr2⟩ := BK7.out.r3 2 rfl
     obtain ⟨p0,p1⟩ := BK7.out.q2 1 rfl
     obtain ⟨q0,q1⟩ := BK7.out.q2 0 rfl
     go_wp2
     refine bodyPost_ret (v := .agg #[.int .u8 2,W64 (T.Sp.join ⟨lo,hi⟩ ⟨lo2,hi2⟩).lo,W64 (T.Sp.join ⟨lo,hi⟩ ⟨lo2,hi2⟩).hi]) ?_ rfl ⟨by rw [← HZ.out,kj_pk RA.out RB.out HNE.out HNI.out rfl rfl] <;> rfl,(((BK7.out.boxSet 2 rfl 0 (.int .u8 2)).boxSet 2 rfl 1 (W64 (T.Sp.join ⟨lo,hi⟩ ⟨lo2,hi2⟩).lo)).boxSet 2 rfl 2 (W64 (T.Sp.join ⟨lo,hi⟩ ⟨lo2,hi2⟩).hi)).since⟩
     simp [results,Tryz.results179,go_sem,a0,a1,a2,b0,b1,b2,r0,r1,r2,p0,p1,q0,q1]
    ·have H3 := Lib.hid hb2
     go_wp2
     refine bodyPost_ret (v := .agg #[.int .u8 0,W64 0#64,W64 0#64]) ?_ rfl ⟨by rw [← HZ.out,kj_none RA.out RB.out HNE.out HNI.out fun q => H3.out q.2] <;> rfl,(((BK6.out.boxSet 2 rfl 0 (.int .u8 0)).boxSet 2 rfl 1 (W64 0#64)).boxSet 2 rfl 2 (W64 0#64)).since⟩
     simp [results,Tryz.results179,go_sem,a0,a1,a2,b0,b1,b2,r0,r1,r2,p0,p1,q0,q1]
   ·have H3 := Lib.hid ha2
    go_wp2
    refine bodyPost_ret (v := .agg #[.int .u8 0,W64 0#64,W64 0#64]) ?_ rfl ⟨by rw [← HZ.out,kj_none RA.out RB.out HNE.out HNI.out fun q => H3.out q.1] <;> rfl,(((BK6.out.boxSet 2 rfl 0 (.int .u8 0)).boxSet 2 rfl 1 (W64 0#64)).boxSet 2 rfl 2 (W64 0#64)).since⟩
    simp [results,Tryz.results179,go_sem,a0,a1,a2,b0,b1,b2,r0,r1,r2,p0,p1,q0,q1]
  case true =>
   cases j
   case false =>
    have HNI := Lib.hid (show (T.Kn.isN ⟨a,⟨lo,hi⟩⟩ && T.Kn.isN ⟨b,⟨lo2,hi2⟩⟩) = false by rw [Hi.out,Hj.out]; rfl)
    by_cases ha2 : a = 2
    ·by_cases hb2 : b = 2
     ·have H2 := Lib.hid ha2
      have H3 := Lib.hid hb2
      subst ha2 hb2
      go_wp2_with fail
      refine (spJoin_agg lo hi lo2 hi2 _).mono ?_
      rintro e w8 ⟨rfl,hs⟩
      have BK7 := Lib.hid (BK6.out.call hs)
      clear a0 a1 a2 b0 b1 b2 r0 r1 r2 fr0 fr1 fr2 p0 p1 q0 q1
      clear hs BK6
      obtain ⟨a0,a1,a2⟩ := BK7.out.q3 4 rfl
      obtain ⟨b0,b1,b2⟩ := BK7.out.q3 3 rfl
      obtain ⟨r0,r1,r2,fr0,fr1,fr2⟩ := BK7.out.r3 2 rfl
      obtain ⟨p0,p1⟩ := BK7.out.q2 1 rfl
      obtain ⟨q0,q1⟩ := BK7.out.q2 0 rfl
      go_wp2
      refine bodyPost_ret (v := .agg #[.int .u8 2,W64 (T.Sp.join ⟨lo,hi⟩ ⟨lo2,hi2⟩).lo,W64 (T.Sp.join ⟨lo,hi⟩ ⟨lo2,hi2⟩).hi]) ?_ rfl ⟨by rw [← HZ.out,kj_pk RA.out RB.out HNE.out HNI.out rfl rfl] <;> rfl,(((BK7.out.boxSet 2 rfl 0 (.int .u8 2)).boxSet 2 rfl 1 (W64 (T.Sp.join ⟨lo,hi⟩ ⟨lo2,hi2⟩).lo)).boxSet 2 rfl 2 (W64 (T.Sp.join ⟨lo,hi⟩ ⟨lo2,hi2⟩).hi)).since⟩
      simp [results,Tryz.results179,go_sem,a0,a1,a2,b0,b1,b2,r0,r1,r2,p0,p1,q0,q1]
     ·have H3 := Lib.hid hb2
      go_wp2
      refine bodyPost_ret (v := .agg #[.int .u8 0,W64 0#64,W64 0#64]) ?_ rfl ⟨by rw [← HZ.out,kj_none RA.out RB.out HNE.out HNI.out fun q => H3.out q.2] <;> rfl,(((BK6.out.boxSet 2 rfl 0 (.int .u8 0)).boxSet 2 rfl 1 (W64 0#64)).boxSet 2 rfl 2 (W64 0#64)).since⟩
      simp [results,Tryz.results179,go_sem,a0,a1,a2,b0,b1,b2,r0,r1,r2,p0,p1,q0,q1]
    ·have H3 := Lib.hid ha2
     go_wp2
     refine bodyPost_ret (v := .agg #[.int .u8 0,W64 0#64,W64 0#64]) ?_ rfl ⟨by rw [← HZ.out,kj_none RA.out RB.out HNE.out HNI.out fun q => H3.out q.1] <;> rfl,(((BK6.out.boxSet 2 rfl 0 (.int .u8 0)).boxSet 2 rfl 1 (W64 0#64)).boxSet 2 rfl 2 (W64 0#64)).since⟩
     simp [results,Tryz.results179,go_sem,a0,a1,a2,b0,b1,b2,r0,r1,r2,p0,p1,q0,q1]
   case true =>
    go_wp2_with fail
    refine (spJoin_agg p.lo p.hi q.lo q.hi _).mono ?_
    rintro e w8 ⟨rfl,hs⟩
    have BK7 := Lib.hid (BK6.out.call hs)
    clear a0 a1 a2 b0 b1 b2 r0 r1 r2 fr0 fr1 fr2 p0 p1 q0 q1
    clear hs BK6
    obtain ⟨a0,a1,a2⟩ := BK7.out.q3 4 rfl
    obtain ⟨b0,b1,b2⟩ := BK7.out.q3 3 rfl
    obtain ⟨r0,r1,r2,fr0,fr1,fr2⟩ := BK7.out.r3 2 rfl
    obtain ⟨p0,p1⟩ := BK7.out.q2 1 rfl
    obtain ⟨q0,q1⟩ := BK7.out.q2 0 rfl
    go_wp2
    refine bodyPost_ret (v := .agg #[.int .u8 1,W64 (T.Sp.join ⟨p.lo,p.hi⟩ ⟨q.lo,q.hi⟩).lo,W64 (T.Sp.join ⟨p.lo,p.hi⟩ ⟨q.lo,q.hi⟩).hi]) ?_ rfl ⟨by rw [← HZ.out,kj_num RA.out RB.out HNE.out Hi.out Hj.out,Hp.out,Hq.out] <;> rfl,(((BK7.out.boxSet 2 rfl 0 (.int .u8 1)).boxSet 2 rfl 1 (W64 (T.Sp.join ⟨p.lo,p.hi⟩ ⟨q.lo,q.hi⟩).lo)).boxSet 2 rfl 2 (W64 (T.Sp.join ⟨p.lo,p.hi⟩ ⟨q.lo,q.hi⟩).hi)).since⟩
    simp [results,Tryz.results179,go_sem,a0,a1,a2,b0,b1,b2,r0,r1,r2,p0,p1,q0,q1]
end Go.Proofs.YtfeipbgnjainlaaGreat.K
/- (made by genplain.py) The contract of span.work.ask. -/
set_option maxRecDepth 100000
set_option maxHeartbeats 4000000
namespace Go.Proofs.YtfeipbgnjainlaaGreat.K
open Go Go.RowKit Go.Maps Go.Sort

theorem opposites_agg (w : World) : Calls Tryz.prog 189 #[] w (Ret w (.agg #[.int .u8 0,.int .u8 0,.int .u8 0,.int .u8 0,.int .u8 0,.int .u8 0,.int .u8 0,.int .u8 0,.int .u8 0,.int .u8 0,.int .u8 0,.int .u8 0,.int .u8 0,.int .u8 0,.int .u8 0,.int .u8 0,.int .u8 0,.int .u8 18,.int .u8 17,.int .u8 22,.int .u8 21,.int .u8 20,.int .u8 19,.int .u8 26,.int .u8 25,.int .u8 24,.int .u8 23,.int .u8 27])) := opposites_any w
theorem opp_at (op : Int) (h : 17 ≤ op ∧ op ≤ 26) (w : World) : (Instr.index 226 (.agg #[.int .u8 0,.int .u8 0,.int .u8 0,.int .u8 0,.int .u8 0,.int .u8 0,.int .u8 0,.int .u8 0,.int .u8 0,.int .u8 0,.int .u8 0,.int .u8 0,.int .u8 0,.int .u8 0,.int .u8 0,.int .u8 0,.int .u8 0,.int .u8 18,.int .u8 17,.int .u8 22,.int .u8 21,.int .u8 20,.int .u8 19,.int .u8 26,.int .u8 25,.int .u8 24,.int .u8 23,.int .u8 27]) (.int .u8 op)).run Tryz.prog w = .ok (.int .u8 (T.opp op)) w := by
 have hc : op = 17 ∨ op = 18 ∨ op = 19 ∨ op = 20 ∨ op = 21 ∨ op = 22 ∨ op = 23 ∨ op = 24 ∨ op = 25 ∨ op = 26 := by omega
 rcases hc with rfl | rfl | rfl | rfl | rfl | rfl | rfl | rfl | rfl | rfl
 all_goals
  show _ = _
  kernel_rfl
theorem opp_in (op : Int) (h : 17 ≤ op ∧ op ≤ 26) : 17 ≤ T.opp op ∧ T.opp op ≤ 26 := by
 have hc : op = 17 ∨ op = 18 ∨ op = 19 ∨ op = 20 ∨ op = 21 ∨ op = 22 ∨ op = 23 ∨ op = 24 ∨ op = 25 ∨ op = 26 := by omega
 rcases hc with rfl | rfl | rfl | rfl | rfl | rfl | rfl | rfl | rfl | rfl <;> decide
theorem wask_any (x : T.Wk) (op : Int) (yes : Bool) (h : 17 ≤ op ∧ op ≤ 27) (w : World) : Calls Tryz.prog 137 #[wkv x,.int .u8 op,.bool yes] w (PairP w (x.ask op yes)) := by
 have HH := Lib.hid h
 have HS1 := Lib.hid (fun b q => show Calls Tryz.prog 188 #[wkv x,.bool b] q (PairP q (x.set b)) by cases b; exact wset_f x q; exact wset_t x q)
 have HP := Lib.hid (fun o ho q => wplain_all x o ho q)
 have HG := Lib.hid (fun o ho q => wsigned_all x o ho q)
 have BK := bk3 w [W64 x.a.lo,W64 x.a.hi,W64 x.b.lo,W64 x.b.hi,.bool x.narrow,W64 x.most,W64 x.size] 190 [W64 0#64,W64 0#64] 111 [W64 0#64,W64 0#64] 111
 unfold wkv at HS1 HP HG ⊢
 clear h
 obtain ⟨z,hz⟩ : ∃ z,x.ask op yes = z := ⟨_,rfl⟩
 rw [hz]
 have HZ := Lib.hid hz
 clear hz
 go_enter Tryz.func137,Tryz.ntmps137
 go_upto_region 1 with fail
 generalize w.heap.size = X at *
 refine wp_hid BK (fun w1 BK => ?_)
 obtain ⟨c0,c1,c2,c3,c4,c5,c6,d0,d1,d2,d3,f0,f1,f2,f3⟩ := pr_cells BK.out
 by_cases h27 : op = 27
 case' pos =>
  subst h27
  have HE := Lib.hid (show x.ask 27 yes = x.set yes from rfl)
  go_wp2_with fail
  refine (HS1.out _ _).mono ?_
 case' neg =>
  have e27 : (op == 27) = false := by simpa using h27
  have HN := Lib.hid (show 17 ≤ op ∧ op ≤ 26 by have := HH.out; omega)
  clear h27
  cases yes
  case' false =>
   go_wp2_with fail
   refine (opposites_agg _).mono ?_
   rintro e w5 ⟨rfl,hs⟩
   have BK := Lib.hid (BK.out.call hs)
   clear c0 c1 c2 c3 c4 c5 c6 d0 d1 d2 d3 f0 f1 f2 f3 hs
   obtain ⟨c0,c1,c2,c3,c4,c5,c6,d0,d1,d2,d3,f0,f1,f2,f3⟩ := pr_cells BK.out
   have HI := fun w => opp_at op HN.out w
   have HN2 := Lib.hid (opp_in op HN.out)
   have HE0 := Lib.hid (show x.ask op false = x.askd (T.opp op) by unfold T.Wk.ask; rw [if_neg (by simpa using e27)]; rfl)
   generalize T.opp op = o at *
  case' true =>
   have HN2 := HN
   have HE0 := Lib.hid (show x.ask op true = x.askd op by unfold T.Wk.ask; rw [if_neg (by simpa using e27)]; rfl)
   generalize op = o at *
  all_goals
   by_cases h23 : 23 ≤ o
   case' pos =>
    have HE := Lib.hid (HE0.out.trans (if_pos h23))
    have HN3 := Lib.hid (show 23 ≤ o ∧ o ≤ 26 from ⟨h23,HN2.out.2⟩)
    go_wp2_with fail
    refine (HG.out _ HN3.out _).mono ?_
   case' neg =>
    have HE := Lib.hid (HE0.out.trans (if_neg h23))
    have HN3 := Lib.hid (show 17 ≤ o ∧ o ≤ 22 by have := HN2.out; omega)
    go_wp2_with fail
    refine (HP.out _ HN3.out _).mono ?_
 all_goals
  rintro e w6 (⟨⟨⟨a,b⟩,⟨c,d⟩⟩,hr,rfl,hs⟩ | ⟨hr,rfl,hs⟩)
  case inr =>
   have HFIN := Lib.hid (pairP_none (HZ.out.symm.trans (HE.out.trans hr)) (BK.out.call hs).since)
   clear hs BK hr
   clear c0 c1 c2 c3 c4 c5 c6 d0 d1 d2 d3 f0 f1 f2 f3
   go_wp2
   exact ⟨rfl,HFIN.out⟩
  case inl =>
   have HRR := Lib.hid (HZ.out.symm.trans (HE.out.trans hr))
   have BK := Lib.hid (BK.out.call hs)
   clear c0 c1 c2 c3 c4 c5 c6 d0 d1 d2 d3 f0 f1 f2 f3
   clear hs hr
   obtain ⟨c0,c1,c2,c3,c4,c5,c6,d0,d1,d2,d3,f0,f1,f2,f3⟩ := pr_cells BK.out
   unfold spv
   dsimp only
   go_wp2_with fail
   refine bodyPost_ret (v := .tuple #[.agg #[W64 (a),W64 (b)],.agg #[W64 (c),W64 (d)]]) ?_ rfl (pairP_some (a) (b) (c) (d) (HRR.out) (by first | exact pr_since BK.out _ _ _ _ | exact (pr_since BK.out _ _ _ _).drew))
   simp [results,Tryz.results137,go_sem,d0,d1,d2,d3]
end Go.Proofs.YtfeipbgnjainlaaGreat.K
