/- What all servers look at: TSpC -/
import Derived.Test.YtfeipbgnjainlaaGreatTw7
import Derived.Test.YtfeipbgnjainlaaGreatTw3
set_option linter.unusedVariables false
set_option linter.unusedSimpArgs false
/- (made by genrules.py) The contracts of span.fill and of the operators' rules. -/
set_option maxRecDepth 100000
set_option maxHeartbeats 4000000
namespace Go.Proofs.YtfeipbgnjainlaaGreat.K
open Go Go.RowKit Go.Maps Go.Sort

theorem ulen_eq : ∀ (n : Nat),n < 2 ^ 64 → Lib.bitLen n = T.ulen n
 | n,h => by
  by_cases h0 : n = 0
  ·subst h0; rfl
  ·rw [Lib.bitLen_half n h0 h]
   have hl : n / 2 < n := Nat.div_lt_self (by omega) (by decide)
   rw [ulen_eq (n / 2) (by omega)]
   unfold T.ulen
   rw [if_neg h0]
   by_cases h1 : n / 2 = 0
   ·have : n = 1 := by omega
    subst this
    rfl
   ·rw [if_neg h1,show n.log2 = (n / 2).log2 + 1 by rw [Nat.log2_def,if_pos (by omega)]]
    omega
termination_by n => n
theorem len64_any (n : BitVec 64) (w : World) : Calls Tryz.prog 148 #[W64 n] w fun e w' => e = .returned (.int .i64 (T.ulen n.toNat)) ∧ w = w' := by
 refine (Tryz.bits_Len64 (n.toNat : Int) w (by omega) (by have := n.isLt; omega)).mono ?_
 rintro e w' ⟨rfl,rfl⟩
 exact ⟨by rw [Int.toNat_natCast,ulen_eq n.toNat n.isLt],rfl⟩
theorem mul64_any (a b : BitVec 64) (w : World) : Calls Tryz.prog 222 #[W64 a,W64 b] w fun e w' => e = .returned (.tuple #[W64 (BitVec.ofNat 64 (a.toNat * b.toNat / 18446744073709551616)),W64 (a * b)]) ∧ w = w' := by
 refine (Tryz.bits_Mul64 a.toNat b.toNat a.isLt b.isLt w).mono ?_
 rintro e w' ⟨rfl,rfl⟩
 refine ⟨?_,rfl⟩
 have h1 : a.toNat * b.toNat / 18446744073709551616 < 18446744073709551616 := by
  have := Nat.mul_lt_mul'' a.isLt b.isLt
  omega
 unfold W64
 rw [BitVec.toNat_ofNat,Nat.mod_eq_of_lt h1,BitVec.toNat_mul]
theorem spfill_any (n : BitVec 64) (w : World) : Calls Tryz.prog 223 #[W64 n] w fun e w' => e = .returned (W64 (T.fill n)) ∧ w = w' := by
 go_enter Tryz.func223,Tryz.ntmps223
 go_wp2_with fail
 refine (len64_any n w).mono ?_
 rintro e w2 ⟨rfl,rfl⟩
 have hk : ¬ ((T.ulen n.toNat : Nat) : Int) < 0 := by omega
 go_wp2
 go_ret
 exact ⟨rfl,rfl⟩
/-- what a rule answers -/
def RuleP (w : World) (o : Option T.Sp) (e : Ending) (w' : World) : Prop := (∃ s,o = some s ∧ e = .returned (spv s) ∧ Since w w') ∨ (o = none ∧ e = .panicked nothingP ∧ Since w w')
theorem ruleP_some {w w' : World} {o : Option T.Sp} (a b : BitVec 64) (ho : o = some ⟨a,b⟩) (hs : Since w w') : RuleP w o (.returned (.agg #[W64 a,W64 b])) w' := Or.inl ⟨⟨a,b⟩,ho,rfl,hs⟩
theorem ruleP_none {w w' : World} {o : Option T.Sp} (ho : o = none) (hs : Since w w') : RuleP w o (.panicked nothingP) w' := Or.inr ⟨ho,rfl,hs⟩
theorem rl_cells {w w' : World} {x : T.Wk} {X Y : Nat} {u v : Value} (h : Bank w w' [boxAcc Y 111 [u,v],boxAcc X 190 [W64 x.a.lo,W64 x.a.hi,W64 x.b.lo,W64 x.b.hi,.bool x.narrow,W64 x.most,W64 x.size]]) :
  w'.cell? ⟨X,0,none⟩ = some (W64 x.a.lo) ∧ w'.cell? ⟨X,1,none⟩ = some (W64 x.a.hi) ∧ w'.cell? ⟨X,2,none⟩ = some (W64 x.b.lo) ∧ w'.cell? ⟨X,3,none⟩ = some (W64 x.b.hi) ∧
  w'.cell? ⟨X,4,none⟩ = some (.bool x.narrow) ∧ w'.cell? ⟨X,5,none⟩ = some (W64 x.most) ∧ w'.cell? ⟨X,6,none⟩ = some (W64 x.size) ∧
  w'.cell? ⟨Y,0,none⟩ = some u ∧ w'.cell? ⟨Y,1,none⟩ = some v ∧ w'.frozen? ⟨Y,0,none⟩ = false ∧ w'.frozen? ⟨Y,1,none⟩ = false :=
 ⟨h.cell 1 rfl 0 rfl,h.cell 1 rfl 1 rfl,h.cell 1 rfl 2 rfl,h.cell 1 rfl 3 rfl,h.cell 1 rfl 4 rfl,h.cell 1 rfl 5 rfl,h.cell 1 rfl 6 rfl,h.cell 0 rfl 0 rfl,h.cell 0 rfl 1 rfl,h.free 0 rfl 0,h.free 0 rfl 1⟩
theorem rl_since {w w' : World} {g : Nat} {t : TypeId} {p : Acc} {u v : Value} (h : Bank w w' [boxAcc g t [u,v],p]) (a b : Value) : Since w ((w'.setCell ⟨g,0,none⟩ a).setCell ⟨g,1,none⟩ b) := ((h.boxSet 0 rfl 0 a).boxSet 0 rfl 1 b).since
theorem add_t {x : T.Wk} (hq : x.b.hi.ule (x.most - x.a.hi) = true) : x.add = some (x.ends (x.a.lo + x.b.lo) (x.a.hi + x.b.hi)) := by unfold T.Wk.add; rw [hq]; rfl
theorem add_f {x : T.Wk} (hq : x.b.hi.ule (x.most - x.a.hi) = false) (hm : decide (x.most - x.a.lo < x.b.lo) = true) : x.add = some (x.ends (x.a.lo + x.b.lo) (x.a.hi + x.b.hi)) := by unfold T.Wk.add; rw [hq]; exact if_pos hm
theorem add_n {x : T.Wk} (hq : x.b.hi.ule (x.most - x.a.hi) = false) (hm : decide (x.most - x.a.lo < x.b.lo) = false) : x.add = none := by unfold T.Wk.add; rw [hq]; exact if_neg (fun e => Bool.noConfusion (hm.symm.trans e))
theorem wadd_any (x : T.Wk) (w : World) : Calls Tryz.prog 200 #[wkv x] w (RuleP w x.add) := by
 have HE := Lib.hid (fun q lo hi => wends_any x lo hi q)
 have HO := Lib.hid (fun q => wboth_any x q)
 have HM := Lib.hid (fun q s => wmixed_any x s q)
 unfold wkv at HE HO HM ⊢
 unfold spv at HE HM
 have BK := bk2 w [W64 x.a.lo,W64 x.a.hi,W64 x.b.lo,W64 x.b.hi,.bool x.narrow,W64 x.most,W64 x.size] 190 [W64 0#64,W64 0#64] 111
 go_enter Tryz.func200,Tryz.ntmps200
 go_upto_region 1 with fail
 generalize w.heap.size = X at *
 refine wp_hid BK (fun w1 BK => ?_)
 obtain ⟨c0,c1,c2,c3,c4,c5,c6,d0,d1,f0,f1⟩ := rl_cells BK.out
 cases hq : x.b.hi.ule (x.most - x.a.hi)
 all_goals
  have HQ := Lib.hid hq
  go_wp2_with fail
  refine (must_any _ _).mono ?_
  rintro e w2 (⟨hm,rfl,hs⟩ | ⟨hm,rfl,hs⟩)
  case inr =>
   have HFIN := Lib.hid (ruleP_none (o := x.add) (by first | (cases hm; done) | exact add_n HQ.out hm) (BK.out.call hs).since)
   clear hs BK
   clear c0 c1 c2 c3 c4 c5 c6 d0 d1 f0 f1
   go_wp2
   exact ⟨rfl,HFIN.out⟩
  have BK2 := Lib.hid (BK.out.call hs)
  have HMM := Lib.hid hm
  clear c0 c1 c2 c3 c4 c5 c6 d0 d1 f0 f1
  clear hs BK hm
  obtain ⟨c0,c1,c2,c3,c4,c5,c6,d0,d1,f0,f1⟩ := rl_cells BK2.out
  go_wp2_with fail
  refine (HE.out _ _ _).mono ?_
  rintro e w3 ⟨rfl,hs⟩
  have BK3 := Lib.hid (BK2.out.call hs)
  clear c0 c1 c2 c3 c4 c5 c6 d0 d1 f0 f1
  clear hs BK2
  obtain ⟨c0,c1,c2,c3,c4,c5,c6,d0,d1,f0,f1⟩ := rl_cells BK3.out
  go_wp2
  refine bodyPost_ret (v := .agg #[W64 ((x.ends (x.a.lo + x.b.lo) (x.a.hi + x.b.hi)).lo),W64 ((x.ends (x.a.lo + x.b.lo) (x.a.hi + x.b.hi)).hi)]) ?_ rfl (ruleP_some ((x.ends (x.a.lo + x.b.lo) (x.a.hi + x.b.hi)).lo) ((x.ends (x.a.lo + x.b.lo) (x.a.hi + x.b.hi)).hi) (by first | exact add_t HQ.out | exact add_f HQ.out HMM.out) (rl_since BK3.out _ _))
  simp [results,Tryz.results200,go_sem,d0,d1]
theorem sub_t {x : T.Wk} (hq : x.b.hi.ule x.a.lo = true) : x.sub = some (x.ends (x.a.lo - x.b.hi) (x.a.hi - x.b.lo)) := by unfold T.Wk.sub; rw [hq]; rfl
theorem sub_f {x : T.Wk} (hq : x.b.hi.ule x.a.lo = false) (hm : decide (x.a.hi < x.b.lo) = true) : x.sub = some (x.ends (x.a.lo - x.b.hi) (x.a.hi - x.b.lo)) := by unfold T.Wk.sub; rw [hq]; exact if_pos hm
theorem sub_n {x : T.Wk} (hq : x.b.hi.ule x.a.lo = false) (hm : decide (x.a.hi < x.b.lo) = false) : x.sub = none := by unfold T.Wk.sub; rw [hq]; exact if_neg (fun e => Bool.noConfusion (hm.symm.trans e))
theorem wsub_any (x : T.Wk) (w : World) : Calls Tryz.prog 201 #[wkv x] w (RuleP w x.sub) := by
 have HE := Lib.hid (fun q lo hi => wends_any x lo hi q)
 have HO := Lib.hid (fun q => wboth_any x q)
 have HM := Lib.hid (fun q s => wmixed_any x s q)
 unfold wkv at HE HO HM ⊢
 unfold spv at HE HM
 have BK := bk2 w [W64 x.a.lo,W64 x.a.hi,W64 x.b.lo,W64 x.b.hi,.bool x.narrow,W64 x.most,W64 x.size] 190 [W64 0#64,W64 0#64] 111
 go_enter Tryz.func201,Tryz.ntmps201
 go_upto_region 1 with fail
 generalize w.heap.size = X at *
 refine wp_hid BK (fun w1 BK => ?_)
 obtain ⟨c0,c1,c2,c3,c4,c5,c6,d0,d1,f0,f1⟩ := rl_cells BK.out
 cases hq : x.b.hi.ule x.a.lo
 all_goals
  have HQ := Lib.hid hq
  go_wp2_with fail
  refine (must_any _ _).mono ?_
  rintro e w2 (⟨hm,rfl,hs⟩ | ⟨hm,rfl,hs⟩)
  case inr =>
   have HFIN := Lib.hid (ruleP_none (o := x.sub) (by first | (cases hm; done) | exact sub_n HQ.out hm) (BK.out.call hs).since)
   clear hs BK
   clear c0 c1 c2 c3 c4 c5 c6 d0 d1 f0 f1
   go_wp2
   exact ⟨rfl,HFIN.out⟩
  have BK2 := Lib.hid (BK.out.call hs)
  have HMM := Lib.hid hm
  clear c0 c1 c2 c3 c4 c5 c6 d0 d1 f0 f1
  clear hs BK hm
  obtain ⟨c0,c1,c2,c3,c4,c5,c6,d0,d1,f0,f1⟩ := rl_cells BK2.out
  go_wp2_with fail
  refine (HE.out _ _ _).mono ?_
  rintro e w3 ⟨rfl,hs⟩
  have BK3 := Lib.hid (BK2.out.call hs)
  clear c0 c1 c2 c3 c4 c5 c6 d0 d1 f0 f1
  clear hs BK2
  obtain ⟨c0,c1,c2,c3,c4,c5,c6,d0,d1,f0,f1⟩ := rl_cells BK3.out
  go_wp2
  refine bodyPost_ret (v := .agg #[W64 ((x.ends (x.a.lo - x.b.hi) (x.a.hi - x.b.lo)).lo),W64 ((x.ends (x.a.lo - x.b.hi) (x.a.hi - x.b.lo)).hi)]) ?_ rfl (ruleP_some ((x.ends (x.a.lo - x.b.hi) (x.a.hi - x.b.lo)).lo) ((x.ends (x.a.lo - x.b.hi) (x.a.hi - x.b.lo)).hi) (by first | exact sub_t HQ.out | exact sub_f HQ.out HMM.out) (rl_since BK3.out _ _))
  simp [results,Tryz.results201,go_sem,d0,d1]
theorem mul_ok (a b m : BitVec 64) : ((BitVec.ofNat 64 (a.toNat * b.toNat / 18446744073709551616) == 0#64) && (a * b).ule m) = decide (a.toNat * b.toNat < 18446744073709551616 ∧ a.toNat * b.toNat ≤ m.toNat) := by
 have h1 : a.toNat * b.toNat / 18446744073709551616 < 18446744073709551616 := by
  have := Nat.mul_lt_mul'' a.isLt b.isLt
  omega
 have h2 : (BitVec.ofNat 64 (a.toNat * b.toNat / 18446744073709551616) == 0#64) = decide (a.toNat * b.toNat < 18446744073709551616) := by
  rw [Bool.eq_iff_iff,beq_iff_eq,decide_eq_true_iff]
  constructor
  ·intro e
   have := congrArg BitVec.toNat e
   rw [BitVec.toNat_ofNat,Nat.mod_eq_of_lt h1] at this
   simp at this
   omega
  ·intro e
   rw [Nat.div_eq_of_lt e]
 rw [h2,BitVec.ule,BitVec.toNat_mul]
 by_cases hl : a.toNat * b.toNat < 18446744073709551616
 ·rw [Nat.mod_eq_of_lt hl]; simp [hl]
 ·simp [hl]
theorem mul_n {x : T.Wk} {p q : Bool} (hp : (BitVec.ofNat 64 (x.a.hi.toNat * x.b.hi.toNat / 18446744073709551616) == 0#64) = p) (hq : (p && (x.a.hi * x.b.hi).ule x.most) = q) : x.mul = bif q then some ⟨x.a.lo * x.b.lo,x.a.hi * x.b.hi⟩ else none := by
 have h := mul_ok x.a.hi x.b.hi x.most
 rw [hp,hq] at h
 unfold T.Wk.mul
 cases q
 ·rw [if_neg (of_decide_eq_false h.symm)]; rfl
 ·rw [if_pos (of_decide_eq_true h.symm)]; rfl
theorem wmul_any (x : T.Wk) (w : World) : Calls Tryz.prog 202 #[wkv x] w (RuleP w x.mul) := by
 have HE := Lib.hid (fun q lo hi => wends_any x lo hi q)
 have HO := Lib.hid (fun q => wboth_any x q)
 have HM := Lib.hid (fun q s => wmixed_any x s q)
 unfold wkv at HE HO HM ⊢
 unfold spv at HE HM
 have BK := bk2 w [W64 x.a.lo,W64 x.a.hi,W64 x.b.lo,W64 x.b.hi,.bool x.narrow,W64 x.most,W64 x.size] 190 [W64 0#64,W64 0#64] 111
 go_enter Tryz.func202,Tryz.ntmps202
 go_upto_region 1 with fail
 generalize w.heap.size = X at *
 refine wp_hid BK (fun w1 BK => ?_)
 obtain ⟨c0,c1,c2,c3,c4,c5,c6,d0,d1,f0,f1⟩ := rl_cells BK.out
 go_wp2_with fail
 refine (mul64_any x.a.hi x.b.hi _).mono ?_
 rintro e w3 ⟨rfl,rfl⟩
 cases hq : (BitVec.ofNat 64 (x.a.hi.toNat * x.b.hi.toNat / 18446744073709551616) == 0#64)
 all_goals
  have HQ := Lib.hid hq
  go_wp2_with fail
  refine (must_any _ _).mono ?_
  rintro e w2 (⟨hm,rfl,hs⟩ | ⟨hm,rfl,hs⟩)
  case inr =>
   have HFIN := Lib.hid (ruleP_none (o := x.mul) (by first | (cases hm; done) | exact mul_n HQ.out rfl | exact mul_n HQ.out hm) (BK.out.call hs).since)
   clear hs BK
   clear c0 c1 c2 c3 c4 c5 c6 d0 d1 f0 f1
   go_wp2
   exact ⟨rfl,HFIN.out⟩
  have BK2 := Lib.hid (BK.out.call hs)
  have HMM := Lib.hid hm
  clear c0 c1 c2 c3 c4 c5 c6 d0 d1 f0 f1
  clear hs BK hm
  obtain ⟨c0,c1,c2,c3,c4,c5,c6,d0,d1,f0,f1⟩ := rl_cells BK2.out
  go_wp2
  refine bodyPost_ret (v := .agg #[W64 (x.a.lo * x.b.lo),W64 (x.a.hi * x.b.hi)]) ?_ rfl (ruleP_some (x.a.lo * x.b.lo) (x.a.hi * x.b.hi) (by first | exact mul_n HQ.out HMM.out | (cases HMM.out; done)) (rl_since BK2.out _ _))
  simp [results,Tryz.results202,go_sem,d0,d1]
theorem umax1 (a : BitVec 64) : T.umax a 1#64 ≠ 0#64 := by
 intro e
 have := congrArg BitVec.toNat e
 rw [T.umax_toNat] at this
 have h2 : max a.toNat 1 = 0 := this
 omega
theorem size_ne (x : T.Wk) : x.size ≠ 0#64 := by
 unfold T.Wk.size
 split <;> decide
theorem mod_t {x : T.Wk} (h : x.a.hi.ult (T.umax x.b.lo 1#64) = true) : x.mod = some x.a := by unfold T.Wk.mod; rw [show (1 : T.U) = 1#64 from rfl,h]; rfl
theorem mod_f {x : T.Wk} (h : x.a.hi.ult (T.umax x.b.lo 1#64) = false) : x.mod = some ⟨0#64,T.umin x.a.hi (T.umax x.b.hi 1#64 - 1#64)⟩ := by unfold T.Wk.mod; rw [show (1 : T.U) = 1#64 from rfl,h]; rfl
theorem wmod_any (x : T.Wk) (w : World) : Calls Tryz.prog 204 #[wkv x] w (RuleP w x.mod) := by
 have HE := Lib.hid (fun q lo hi => wends_any x lo hi q)
 have HO := Lib.hid (fun q => wboth_any x q)
 have HM := Lib.hid (fun q s => wmixed_any x s q)
 unfold wkv at HE HO HM ⊢
 unfold spv at HE HM
 have BK := bk2 w [W64 x.a.lo,W64 x.a.hi,W64 x.b.lo,W64 x.b.hi,.bool x.narrow,W64 x.most,W64 x.size] 190 [W64 0#64,W64 0#64] 111
 go_enter Tryz.func204,Tryz.ntmps204
 go_upto_region 1 with fail
 generalize w.heap.size = X at *
 refine wp_hid BK (fun w1 BK => ?_)
 obtain ⟨c0,c1,c2,c3,c4,c5,c6,d0,d1,f0,f1⟩ := rl_cells BK.out
 cases hq : decide (x.a.hi < T.umax x.b.lo 1#64)
 case false =>
  have HQ := Lib.hid hq
  go_wp2
  refine bodyPost_ret (v := .agg #[W64 (0#64),W64 (T.umin x.a.hi (T.umax x.b.hi 1#64 - 1#64))]) ?_ rfl (ruleP_some (0#64) (T.umin x.a.hi (T.umax x.b.hi 1#64 - 1#64)) (mod_f HQ.out) (rl_since BK.out _ _))
  simp [results,Tryz.results204,go_sem,d0,d1]
 case true =>
  have HQ := Lib.hid hq
  go_wp2
  refine bodyPost_ret (v := .agg #[W64 (x.a.lo),W64 (x.a.hi)]) ?_ rfl (ruleP_some (x.a.lo) (x.a.hi) (mod_t HQ.out) (rl_since BK.out _ _))
  simp [results,Tryz.results204,go_sem,d0,d1]
theorem wmov_any (x : T.Wk) (w : World) : Calls Tryz.prog 211 #[wkv x] w (RuleP w (some x.b)) := by
 have HE := Lib.hid (fun q lo hi => wends_any x lo hi q)
 have HO := Lib.hid (fun q => wboth_any x q)
 have HM := Lib.hid (fun q s => wmixed_any x s q)
 unfold wkv at HE HO HM ⊢
 unfold spv at HE HM
 have BK := bk2 w [W64 x.a.lo,W64 x.a.hi,W64 x.b.lo,W64 x.b.hi,.bool x.narrow,W64 x.most,W64 x.size] 190 [W64 0#64,W64 0#64] 111
 go_enter Tryz.func211,Tryz.ntmps211
 go_upto_region 1 with fail
 generalize w.heap.size = X at *
 refine wp_hid BK (fun w1 BK => ?_)
 obtain ⟨c0,c1,c2,c3,c4,c5,c6,d0,d1,f0,f1⟩ := rl_cells BK.out
 go_wp2
 refine bodyPost_ret (v := .agg #[W64 (x.b.lo),W64 (x.b.hi)]) ?_ rfl (ruleP_some (x.b.lo) (x.b.hi) (rfl) (rl_since BK.out _ _))
 simp [results,Tryz.results211,go_sem,d0,d1]
theorem neg_t {x : T.Wk} (h : (x.a.hi == 0#64) = true) : x.neg = some x.a := by unfold T.Wk.neg; exact if_pos h
theorem neg_f {x : T.Wk} {q : Bool} (h : (x.a.hi == 0#64) = false) (hq : decide (0#64 < x.a.lo) = q) : x.neg = bif q then some (x.ends (-x.a.hi) (-x.a.lo)) else none := by
 unfold T.Wk.neg
 rw [show (x.a.hi == (0 : T.U)) = false from h,show BitVec.ult 0 x.a.lo = q from hq]
 cases q <;> rfl
theorem wneg_any (x : T.Wk) (w : World) : Calls Tryz.prog 212 #[wkv x] w (RuleP w x.neg) := by
 have HE := Lib.hid (fun q lo hi => wends_any x lo hi q)
 have HO := Lib.hid (fun q => wboth_any x q)
 have HM := Lib.hid (fun q s => wmixed_any x s q)
 unfold wkv at HE HO HM ⊢
 unfold spv at HE HM
 have BK := bk2 w [W64 x.a.lo,W64 x.a.hi,W64 x.b.lo,W64 x.b.hi,.bool x.narrow,W64 x.most,W64 x.size] 190 [W64 0#64,W64 0#64] 111
 go_enter Tryz.func212,Tryz.ntmps212
 go_upto_region 1 with fail
 generalize w.heap.size = X at *
 refine wp_hid BK (fun w1 BK => ?_)
 obtain ⟨c0,c1,c2,c3,c4,c5,c6,d0,d1,f0,f1⟩ := rl_cells BK.out
 cases hq : x.a.hi == 0#64
 case true =>
  have HQ := Lib.hid hq
  go_wp2
  refine bodyPost_ret (v := .agg #[W64 (x.a.lo),W64 (x.a.hi)]) ?_ rfl (ruleP_some (x.a.lo) (x.a.hi) (neg_t HQ.out) (rl_since BK.out _ _))
  simp [results,Tryz.results212,go_sem,d0,d1]
 case false =>
  have HQ := Lib.hid hq
  go_wp2_with fail
  refine (must_any _ _).mono ?_
  rintro e w2 (⟨hm,rfl,hs⟩ | ⟨hm,rfl,hs⟩)
  case inr =>
   have HFIN := Lib.hid (ruleP_none (o := x.neg) (neg_f HQ.out hm) (BK.out.call hs).since)
   clear hs BK
   clear c0 c1 c2 c3 c4 c5 c6 d0 d1 f0 f1
   go_wp2
   exact ⟨rfl,HFIN.out⟩
  have BK2 := Lib.hid (BK.out.call hs)
  have HMM := Lib.hid hm
  clear c0 c1 c2 c3 c4 c5 c6 d0 d1 f0 f1
  clear hs BK hm
  obtain ⟨c0,c1,c2,c3,c4,c5,c6,d0,d1,f0,f1⟩ := rl_cells BK2.out
  go_wp2_with fail
  refine (HE.out _ _ _).mono ?_
  rintro e w3 ⟨rfl,hs⟩
  have BK3 := Lib.hid (BK2.out.call hs)
  clear c0 c1 c2 c3 c4 c5 c6 d0 d1 f0 f1
  clear hs BK2
  obtain ⟨c0,c1,c2,c3,c4,c5,c6,d0,d1,f0,f1⟩ := rl_cells BK3.out
  go_wp2
  refine bodyPost_ret (v := .agg #[W64 ((x.ends (-x.a.hi) (-x.a.lo)).lo),W64 ((x.ends (-x.a.hi) (-x.a.lo)).hi)]) ?_ rfl (ruleP_some ((x.ends (-x.a.hi) (-x.a.lo)).lo) ((x.ends (-x.a.hi) (-x.a.lo)).hi) (neg_f HQ.out HMM.out) (rl_since BK3.out _ _))
  simp [results,Tryz.results212,go_sem,d0,d1]
end Go.Proofs.YtfeipbgnjainlaaGreat.K
