/- What all servers look at: TKnA -/
import Derived.Test.YtfeipbgnjainlaaGreatTw7
set_option linter.unusedVariables false
set_option linter.unusedSimpArgs false
/- (made by genkind.py) The contracts of kind's functions. -/
set_option maxHeartbeats 2000000
namespace Go.Proofs.YtfeipbgnjainlaaGreat.K
open Go Go.RowKit Go.Maps Go.Sort

def knv (a : T.Kn) : Value := .agg #[.int .u8 a.k,W64 a.s.lo,W64 a.s.hi]
theorem sp_eq0 (lo hi : BitVec 64) : ((⟨lo,hi⟩ : T.Sp) == T.Sp.zero) = (lo == 0#64 && hi == 0#64) := by
 rw [Bool.eq_iff_iff,beq_iff_eq,Bool.and_eq_true,beq_iff_eq,beq_iff_eq,T.Sp.zero,T.Sp.mk.injEq]
 exact Iff.rfl
theorem kright_any (a : T.Kn) (w : World) : Calls Tryz.prog 130 #[knv a] w (Ret w (.bool a.right)) := by
 have HO := Lib.hid (fun w n => spOf_agg n w)
 have HR := Lib.hid (fun w a b => spRight_any ⟨a,b⟩ w)
 unfold spv at HR
 obtain ⟨k,⟨lo,hi⟩⟩ := a
 unfold knv
 have S1 := Lib.hid (Since.alloc (Below.refl w.heap.size w) (.cells #[.int .u8 k,W64 lo,W64 hi] 113))
 by_cases h4 : k = 4
 ·subst h4
  go_enter Tryz.func130,Tryz.ntmps130
  go_wp2
  go_ret
  exact ⟨by rw [T.Kn.right,if_pos (.inl rfl),sp_eq0]; rfl,S1.out⟩
 by_cases h0 : k = 0
 ·subst h0
  go_enter Tryz.func130,Tryz.ntmps130
  go_wp2
  go_ret
  exact ⟨by rw [T.Kn.right,if_pos (.inr rfl),sp_eq0]; rfl,S1.out⟩
 by_cases h12 : k = 1 ∨ k = 2
 ·have HV := Lib.hid (T.Kn.right_12 (a := ⟨k,⟨lo,hi⟩⟩) h12)
  have c0 : (w.alloc (.cells #[.int .u8 k,W64 lo,W64 hi] 113)).cell? ⟨w.heap.size,0,none⟩ = some (.int .u8 k) := by rw [World.cell?_alloc_new]; rfl
  have c1 : (w.alloc (.cells #[.int .u8 k,W64 lo,W64 hi] 113)).cell? ⟨w.heap.size,1,none⟩ = some (W64 lo) := by rw [World.cell?_alloc_new]; rfl
  have c2 : (w.alloc (.cells #[.int .u8 k,W64 lo,W64 hi] 113)).cell? ⟨w.heap.size,2,none⟩ = some (W64 hi) := by rw [World.cell?_alloc_new]; rfl
  go_enter Tryz.func130,Tryz.ntmps130
  go_upto_region 2 with fail
  generalize w.alloc (.cells #[.int .u8 k,W64 lo,W64 hi] 113) = w1 at *
  rcases h12 with rfl | rfl
  all_goals
   go_wp2_with fail
   refine (HR.out _ lo hi).mono ?_
   rintro e w3 ⟨rfl,hs⟩
   have S2 := Lib.hid (S1.out.add hs)
   clear hs
   go_wp2
   go_ret
   exact ⟨by rw [HV.out]; rfl,S2.out⟩
 have h1 : ¬ k = 1 := fun e => h12 (.inl e)
 have h2 : ¬ k = 2 := fun e => h12 (.inr e)
 have HV := Lib.hid (show (⟨k,⟨lo,hi⟩⟩ : T.Kn).right = (decide (k = 3) && (hi == lo)) by
  unfold T.Kn.right
  simp only
  rw [if_neg (by omega),if_neg h12,show ((⟨lo,hi⟩ : T.Sp) == T.Sp.of lo) = (hi == lo) from one_eq lo hi])
 clear h12
 have c0 : (w.alloc (.cells #[.int .u8 k,W64 lo,W64 hi] 113)).cell? ⟨w.heap.size,0,none⟩ = some (.int .u8 k) := by rw [World.cell?_alloc_new]; rfl
 have c1 : (w.alloc (.cells #[.int .u8 k,W64 lo,W64 hi] 113)).cell? ⟨w.heap.size,1,none⟩ = some (W64 lo) := by rw [World.cell?_alloc_new]; rfl
 have c2 : (w.alloc (.cells #[.int .u8 k,W64 lo,W64 hi] 113)).cell? ⟨w.heap.size,2,none⟩ = some (W64 hi) := by rw [World.cell?_alloc_new]; rfl
 go_enter Tryz.func130,Tryz.ntmps130
 go_upto_region 8 with fail
 generalize w.alloc (.cells #[.int .u8 k,W64 lo,W64 hi] 113) = w1 at *
 have r0 := cell_regrown c0
 have r1 := cell_regrown c1
 have r2 := cell_regrown c2
 clear c0 c1 c2
 by_cases h3 : k = 3
 ·subst h3
  refine wp_region_quiet_below (by kernel_rfl) (by kernel_rfl) ?_
  repeat (refine @wpQuiet_step _ _ _ _ _ _ _ ?_; intro K hK; go_simp; first | (refine hK _ ?_; clear hK K) | (apply Exists.intro; refine ⟨fun _ => ?_, hK _ ?_⟩; (first | (with_reducible exact Ret.regrown (spOf_agg _ _)) | fail "no arm"); clear hK K))
  refine wpQuiet_nil ?_
  intro _ hw'
  obtain ⟨⟨dq,osq⟩,hw''⟩ := hw'
  subst hw''
  go_wp2
  go_ret
  exact ⟨by rw [HV.out]; rfl,S1.out.add (below_regrown w1 dq osq)⟩
 ·have HV2 := Lib.hid (show (⟨k,⟨lo,hi⟩⟩ : T.Kn).right = false by rw [HV.out,decide_eq_false h3]; rfl)
  refine wp_region_quiet_below (by kernel_rfl) (by kernel_rfl) ?_
  repeat (refine @wpQuiet_step _ _ _ _ _ _ _ ?_; intro K hK; go_simp; first | (refine hK _ ?_; clear hK K) | (apply Exists.intro; refine ⟨fun _ => ?_, hK _ ?_⟩; (first | (with_reducible exact Ret.regrown (spOf_agg _ _)) | fail "no arm"); clear hK K))
  refine wpQuiet_nil ?_
  intro _ hw'
  obtain ⟨⟨dq,osq⟩,hw''⟩ := hw'
  subst hw''
  go_wp2
  go_ret
  exact ⟨by rw [HV2.out]; rfl,S1.out.add (below_regrown w1 dq osq)⟩
section
variable {w w' : World} {X Y : Nat} {u v k lo hi : Value} (h : Bank w w' [boxAcc Y 111 [u,v],boxAcc X 113 [k,lo,hi]])
include h
theorem kn_k0 : w'.cell? ⟨X,0,none⟩ = some k ∧ w'.cell? ⟨X,1,none⟩ = some lo ∧ w'.cell? ⟨X,2,none⟩ = some hi := ⟨h.cell 1 rfl 0 rfl,h.cell 1 rfl 1 rfl,h.cell 1 rfl 2 rfl⟩
theorem kn_d0 : w'.drew.cell? ⟨X,0,none⟩ = some k ∧ w'.drew.cell? ⟨X,1,none⟩ = some lo ∧ w'.drew.cell? ⟨X,2,none⟩ = some hi := kn_k0 h.drew
theorem kn_s1 (a b : Value) : Bank w ((w'.setCell ⟨Y,0,none⟩ a).setCell ⟨Y,1,none⟩ b) [boxAcc Y 111 [a,b],boxAcc X 113 [k,lo,hi]] := (h.boxSet 0 rfl 0 a).boxSet 0 rfl 1 b
theorem kn_k1 (a b : Value) : ((w'.setCell ⟨Y,0,none⟩ a).setCell ⟨Y,1,none⟩ b).cell? ⟨X,0,none⟩ = some k ∧ ((w'.setCell ⟨Y,0,none⟩ a).setCell ⟨Y,1,none⟩ b).cell? ⟨X,1,none⟩ = some lo ∧ ((w'.setCell ⟨Y,0,none⟩ a).setCell ⟨Y,1,none⟩ b).cell? ⟨X,2,none⟩ = some hi := kn_k0 (kn_s1 h a b)
theorem kn_d1 (a b : Value) : ((w'.setCell ⟨Y,0,none⟩ a).setCell ⟨Y,1,none⟩ b).drew.cell? ⟨X,0,none⟩ = some k ∧ ((w'.setCell ⟨Y,0,none⟩ a).setCell ⟨Y,1,none⟩ b).drew.cell? ⟨X,1,none⟩ = some lo ∧ ((w'.setCell ⟨Y,0,none⟩ a).setCell ⟨Y,1,none⟩ b).drew.cell? ⟨X,2,none⟩ = some hi := kn_k0 (kn_s1 h a b).drew
end
theorem knum_any (a : T.Kn) (w : World) : Calls Tryz.prog 131 #[knv a] w (Ret w (.tuple #[spv a.numS,.bool a.isN])) := by
 obtain ⟨k,⟨lo,hi⟩⟩ := a
 unfold knv
 have BK := bk2 w [.int .u8 k,W64 lo,W64 hi] 113 [W64 0#64,W64 0#64] 111
 go_enter Tryz.func131,Tryz.ntmps131
 go_upto_region 1 with fail
 generalize w.heap.size = X at *
 refine wp_hid BK (fun w1 BK => ?_)
 obtain ⟨c0,c1,c2⟩ := kn_k0 BK.out
 obtain ⟨d0,d1,f0,f1⟩ := BK.out.r2 0 rfl
 by_cases h4 : k = 4
 ·subst h4
  go_wp2
  refine bodyPost_ret (v := .tuple #[.agg #[W64 0#64,W64 65535#64],.bool true]) ?_ rfl ⟨rfl,(kn_s1 BK.out _ _).since⟩
  simp [results,Tryz.results131,go_sem,d0,d1]
 ·have HV := Lib.hid (show (⟨k,⟨lo,hi⟩⟩ : T.Kn).numS = ⟨lo,hi⟩ by unfold T.Kn.numS; rw [if_neg h4])
  have HV2 := Lib.hid (show (⟨k,⟨lo,hi⟩⟩ : T.Kn).isN = (k == 1) by unfold T.Kn.isN; simp only [decide_eq_false h4,Bool.false_or]; rfl)
  go_upto_region 3 with fail
  go_region_held3 (fun w' => w'.cell? ⟨X,0,none⟩ = some (.int .u8 k) ∧ w'.cell? ⟨X,1,none⟩ = some (W64 lo) ∧ w'.cell? ⟨X,2,none⟩ = some (W64 hi))
   (first
    | with_reducible exact kn_k0 BK.out
    | with_reducible exact kn_d0 BK.out
    | with_reducible exact kn_k1 BK.out _ _
    | with_reducible exact kn_d1 BK.out _ _
    | fail "keep")
   (first | fail "arm")
  all_goals
   go_wp2
   refine bodyPost_ret (v := .tuple #[.agg #[W64 lo,W64 hi],.bool (k == 1)]) ?_ rfl ⟨by rw [HV.out,HV2.out]; rfl,by first | exact (kn_s1 BK.out _ _).since | exact (kn_s1 BK.out _ _).since.drew⟩
   simp [results,Tryz.results131,go_sem,d0,d1]
theorem spHas_agg (lo hi n : BitVec 64) (w : World) : Calls Tryz.prog 182 #[.agg #[W64 lo,W64 hi],W64 n] w (Ret w (.bool (T.Sp.has ⟨lo,hi⟩ n))) := spHas_any ⟨lo,hi⟩ n w
theorem spWithin_agg (lo hi lo2 hi2 : BitVec 64) (w : World) : Calls Tryz.prog 183 #[.agg #[W64 lo,W64 hi],.agg #[W64 lo2,W64 hi2]] w (Ret w (.bool (T.Sp.within ⟨lo,hi⟩ ⟨lo2,hi2⟩))) := spWithin_any ⟨lo,hi⟩ ⟨lo2,hi2⟩ w
theorem spAllt_agg (w : World) : Calls Tryz.prog 184 #[.bool true] w (Ret w (.agg #[W64 0#64,W64 4294967295#64])) := spAll_any true w
theorem nought_any (s : T.Sp) (b : Bool) (w : World) : Calls Tryz.prog 132 #[spv s,.bool b] w (Ret w (.bool (T.nought s b))) := by
 obtain ⟨lo,hi⟩ := s
 unfold spv
 have S1 := Lib.hid (Since.alloc (Below.refl w.heap.size w) (.cells #[W64 lo,W64 hi] 111))
 have HV := Lib.hid (show T.nought ⟨lo,hi⟩ b = (T.Sp.has ⟨lo,hi⟩ 0#64 || b && !T.Sp.within ⟨lo,hi⟩ ⟨0#64,4294967295#64⟩) from rfl)
 have c0 : (w.alloc (.cells #[W64 lo,W64 hi] 111)).cell? ⟨w.heap.size,0,none⟩ = some (W64 lo) := by rw [World.cell?_alloc_new]; rfl
 have c1 : (w.alloc (.cells #[W64 lo,W64 hi] 111)).cell? ⟨w.heap.size,1,none⟩ = some (W64 hi) := by rw [World.cell?_alloc_new]; rfl
 go_enter Tryz.func132,Tryz.ntmps132
 go_upto_region 1 with fail
 generalize w.alloc (.cells #[W64 lo,W64 hi] 111) = w1 at *
 have r0 := cell_regrown c0
 have r1 := cell_regrown c1
 clear c0 c1
 generalize hP : T.Sp.has ⟨lo,hi⟩ 0#64 = P at *
 have HP := Lib.hid hP
 clear hP
 generalize hQ : T.Sp.within ⟨lo,hi⟩ ⟨0#64,4294967295#64⟩ = Q at *
 have HQ := Lib.hid hQ
 clear hQ
 cases P <;> cases b <;> cases Q
 all_goals
  refine wp_region_quiet_below (by kernel_rfl) (by kernel_rfl) ?_
  repeat (refine @wpQuiet_step _ _ _ _ _ _ _ ?_; intro K hK; go_simp; first | (refine hK _ ?_; clear hK K) | (apply Exists.intro; refine ⟨fun _ => ?_, hK _ ?_⟩; (first | (with_reducible exact Ret.regrown (HP.out ▸ spHas_agg _ _ _ _)) | (with_reducible exact Ret.regrown (HQ.out ▸ spWithin_agg _ _ _ _ _)) | (with_reducible exact Ret.regrown (spAllt_agg _)) | fail "no arm"); clear hK K))
  refine wpQuiet_nil ?_
  intro _ hw'
  obtain ⟨⟨dq,osq⟩,hw''⟩ := hw'
  subst hw''
  go_wp2
  go_ret
  exact ⟨by rw [HV.out]; rfl,S1.out.add (below_regrown w1 dq osq)⟩
end Go.Proofs.YtfeipbgnjainlaaGreat.K
