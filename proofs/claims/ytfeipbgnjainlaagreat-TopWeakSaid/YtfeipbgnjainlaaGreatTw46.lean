/- What all servers look at: TExI, TRnC, TIrB -/
import Derived.Test.YtfeipbgnjainlaaGreatTw39
import Derived.Test.YtfeipbgnjainlaaGreatTw3
import Derived.Test.YtfeipbgnjainlaaGreatTw45
import Derived.Defers
import Derived.WalkLawsBesides
import Derived.Test.YtfeipbgnjainlaaGreatTw40
set_option linter.unusedVariables false
set_option linter.unusedSimpArgs false
/- (made by genexi.py) exec's does; what an instruction does, whatever it is. -/
set_option maxRecDepth 100000
set_option maxHeartbeats 8000000
namespace Go.Proofs.YtfeipbgnjainlaaGreat.K
open Go Go.RowKit Go.Maps Go.Sort

theorem exDoes_any (op : Int) (h : 1 ≤ op ∧ op ≤ 28) (w : World) : Calls Tryz.prog 14 #[.int .u8 op] w (Ret w (if op = 12 then .func (.func 33) #[] #[] else if op = 13 then .func (.func 34) #[] #[] else if op = 14 then .func (.func 35) #[] #[] else if op = 15 then .func (.func 36) #[] #[] else if op = 16 then .func (.func 37) #[] #[] else if op = 28 then .func (.func 38) #[] #[] else if op < 12 then .func (.func 39) #[] #[] else .func (.func 40) #[] #[])) := by
 have ht := Tryz.underlying96
 have hk := Tryz.underlying29
 obtain ⟨v0,hv0⟩ : ∃ v,v = Value.func (.func 33) #[] #[] := ⟨_,rfl⟩
 obtain ⟨v1,hv1⟩ : ∃ v,v = Value.func (.func 34) #[] #[] := ⟨_,rfl⟩
 obtain ⟨v2,hv2⟩ : ∃ v,v = Value.func (.func 35) #[] #[] := ⟨_,rfl⟩
 obtain ⟨v3,hv3⟩ : ∃ v,v = Value.func (.func 36) #[] #[] := ⟨_,rfl⟩
 obtain ⟨v4,hv4⟩ : ∃ v,v = Value.func (.func 37) #[] #[] := ⟨_,rfl⟩
 obtain ⟨v5,hv5⟩ : ∃ v,v = Value.func (.func 38) #[] #[] := ⟨_,rfl⟩
 have p0 := put_mes ht hk w [] 12 v0 (by decide) (by decide) (by simp)
 have p1 := put_mes ht hk w [(12,v0)] 13 v1 (by decide) (by decide) (by simp)
 have p2 := put_mes ht hk w [(12,v0),(13,v1)] 14 v2 (by decide) (by decide) (by simp)
 have p3 := put_mes ht hk w [(12,v0),(13,v1),(14,v2)] 15 v3 (by decide) (by decide) (by simp)
 have p4 := put_mes ht hk w [(12,v0),(13,v1),(14,v2),(15,v3)] 16 v4 (by decide) (by decide) (by simp)
 have p5 := put_mes ht hk w [(12,v0),(13,v1),(14,v2),(15,v3),(16,v4)] 28 v5 (by decide) (by decide) (by simp)
 simp only [List.cons_append,List.nil_append,List.length_cons,List.length_nil,Nat.reduceAdd] at p0 p1 p2 p3 p4 p5
 have hb0 := heap_alloc_new w (.map (mes [(12,v0),(13,v1),(14,v2),(15,v3),(16,v4),(28,v5)]) 6)
 have l0 := look_mes ht hk hb0 12 v0 (by decide) (by decide) (by simp) (by simp)
 have l1 := look_mes ht hk hb0 13 v1 (by decide) (by decide) (by simp) (by simp)
 have l2 := look_mes ht hk hb0 14 v2 (by decide) (by decide) (by simp) (by simp)
 have l3 := look_mes ht hk hb0 15 v3 (by decide) (by decide) (by simp) (by simp)
 have l4 := look_mes ht hk hb0 16 v4 (by decide) (by decide) (by simp) (by simp)
 have l5 := look_mes ht hk hb0 28 v5 (by decide) (by decide) (by simp) (by simp)
 have hz : ∀ w,(zeroValue 57).run Tryz.prog w = .ok .nilFunc w := fun w => by kernel_rfl
 have ln := fun (h0 : 0 ≤ op) (h1 : op ≤ 255) (hf : ∀ p ∈ [(12,v0),(13,v1),(14,v2),(15,v3),(16,v4),(28,v5)],p.1 ≠ op) => look_none2 ht hk hb0 op .nilFunc (hz _) h0 h1 hf
 have e0 : mes [] = #[] := rfl
 rw [e0] at p0
 clear e0 hb0
 generalize mes [(12,v0)] = E1 at p0 p1
 generalize mes [(12,v0),(13,v1)] = E2 at p1 p2
 generalize mes [(12,v0),(13,v1),(14,v2)] = E3 at p2 p3
 generalize mes [(12,v0),(13,v1),(14,v2),(15,v3)] = E4 at p3 p4
 generalize mes [(12,v0),(13,v1),(14,v2),(15,v3),(16,v4)] = E5 at p4 p5
 generalize mes [(12,v0),(13,v1),(14,v2),(15,v3),(16,v4),(28,v5)] = E6 at p5 l0 l1 l2 l3 l4 l5 ln
 have S1 := Lib.hid (show Since w (w.alloc (.map E6 6)) from (Below.refl _ _).alloc (Nat.le_refl _) _)
 have hmm := run_makeMap (P := Tryz.prog) 96 w
 subst hv0 hv1 hv2 hv3 hv4 hv5
 have hcs : (op = 12 ∨ op = 13 ∨ op = 14 ∨ op = 15 ∨ op = 16 ∨ op = 28) ∨ (op ≠ 12 ∧ op ≠ 13 ∧ op ≠ 14 ∧ op ≠ 15 ∧ op ≠ 16 ∧ op ≠ 28) := by omega
 rcases hcs with (rfl | rfl | rfl | rfl | rfl | rfl) | ⟨n12,n13,n14,n15,n16,n28⟩
 case' inr =>
  have ln := ln (by omega) (by omega) (by intro p hp; simp only [List.mem_cons,List.mem_nil_iff,or_false] at hp; rcases hp with rfl | rfl | rfl | rfl | rfl | rfl <;> simp only <;> omega)
  rw [if_neg n12,if_neg n13,if_neg n14,if_neg n15,if_neg n16,if_neg n28]
  clear n12 n13 n14 n15 n16 n28
  by_cases h13 : op < 12
  case' pos => rw [if_pos h13]
  case' neg => rw [if_neg h13]
 all_goals
  go_enter Tryz.func14,Tryz.ntmps14
  go_wp2
  go_ret
  exact ⟨rfl,S1.out⟩
/-- what every one of them does, the good way -/
def ExStepF (F : FuncId) (i : T.Ins) : Prop := ∀ (M : Nat) (m m' : T.Mc) (A : Option Addr) (n c : Nat) (pkl : List T.B) (vd : Value) (w0 w : World) (L : List Acc),Bank w0 w (boxAcc M 56 (mcL m (.slice A n c) vd) :: L) → Mok m → RowRd w0 ⟨A,n,c⟩ pkl → n ≤ 1000000 → (i.jumps = true → 0 ≤ i.off ∧ (m.at' : Int) + i.off < 100000) → T.estep pkl i m = (0,m') → Calls Tryz.prog F #[.pointer (some ⟨M,0,none⟩),insV i] w (ExP w0 M m' (.slice A n c) (if i.op = 28 then .pointer (some ⟨M,1,none⟩) else vd) L)
theorem unset_no {m : T.Mc} {r : Int} (h : ¬ T.unset m r = true) : (m.reg r).1 ≠ 0 := by
 unfold T.unset at h
 simpa using h
theorem exStep_move (i : T.Ins) (hr : i.right = true) (ho : i.op = 12) : ExStepF 33 i := by
 intro M m m' A n c pkl vd w0 w L hB hok hrow hn hj he
 obtain ⟨hd,hs,_,_,_,hop,_⟩ := T.right_facts hr
 unfold T.estep at he
 rw [if_pos ho] at he
 simp only at he
 by_cases h1 : T.secErr i m ≠ 0
 ·rw [if_pos h1] at he; cases he
 by_cases h2 : (i.narrow && decide ((T.esecond i m).1 ≠ 1)) = true
 ·rw [if_neg h1,if_pos h2] at he; cases he
 rw [if_neg h1,if_neg h2] at he
 have he2 := congrArg Prod.snd he
 simp only at he2
 rw [if_neg (by omega),← he2]
 exact exMove_ok i hB hok hd hs (Decidable.not_not.1 h1) (fun hnr => by
  rw [hnr] at h2
  simpa using h2)
theorem exStep_turn (i : T.Ins) (hr : i.right = true) (ho : i.op = 13) : ExStepF 34 i := by
 intro M m m' A n c pkl vd w0 w L hB hok hrow hn hj he
 obtain ⟨hd,hs,_,_,_,hop,_⟩ := T.right_facts hr
 unfold T.estep at he
 rw [if_neg (by omega),if_pos ho] at he
 simp only at he
 split at he
 ·cases he
 split at he
 ·cases he
 rename_i h1 h2
 cases he
 rw [if_neg (by omega)]
 have h3 := Decidable.not_not.1 h2
 have H := exTurn_ok i hB hok hd ho h3
 rw [← h3] at H
 exact H
theorem exStep_load (i : T.Ins) (hr : i.right = true) (ho : i.op = 14) : ExStepF 35 i := by
 intro M m m' A n c pkl vd w0 w L hB hok hrow hn hj he
 obtain ⟨hd,hs,_,_,hsz,hop,_⟩ := T.right_facts hr
 have hpl : pkl.length = n := hrow.len
 unfold T.estep at he
 rw [if_neg (by omega),if_neg (by omega),if_pos ho] at he
 simp only at he
 split at he
 ·cases he
 split at he
 ·cases he
 rename_i h1 h2
 split at he
 ·rename_i h3
  split at he
  ·rename_i h4
   exact absurd (congrArg Prod.fst he) h4
  rename_i h4
  cases he
  rw [if_neg (by omega)]
  exact exLoadP_ok i hB hok hd hs hrow hn h3 (by rw [← hpl]; exact Decidable.not_not.1 h4)
 ·rename_i h3
  split at he
  ·cases he
  split at he
  ·cases he
  rename_i h4 h5
  cases he
  rw [if_neg (by omega)]
  exact exLoadF_ok i hB hok hd hs ⟨unset_no h1,h2,h3⟩ (Decidable.not_not.1 h4) (hsz (.inl ho)) (by simpa using h5)
theorem or_unset {m : T.Mc} {i : T.Ins} (h : ¬ (T.unset m i.dst || decide (T.secErr i m ≠ 0)) = true) : (m.reg i.dst).1 ≠ 0 ∧ T.secErr i m = 0 := by
 simp only [Bool.or_eq_true,decide_eq_true_eq,not_or,Decidable.not_not] at h
 exact ⟨unset_no h.1,h.2⟩
theorem exStep_put (i : T.Ins) (hr : i.right = true) (ho : i.op = 15) : ExStepF 36 i := by
 intro M m m' A n c pkl vd w0 w L hB hok hrow hn hj he
 obtain ⟨hd,hs,_,_,hsz,hop,_⟩ := T.right_facts hr
 unfold T.estep at he
 rw [if_neg (by omega),if_neg (by omega),if_neg (by omega),if_pos ho] at he
 simp only at he
 split at he
 ·cases he
 split at he
 ·cases he
 split at he
 ·cases he
 split at he
 ·cases he
 rename_i h1 h2 h3 h4
 cases he
 rw [if_neg (by omega)]
 obtain ⟨k1,k2⟩ := or_unset h1
 obtain ⟨k3,k4⟩ := not_or.1 h3
 exact exPut_ok i hB hok hd hs k2 ⟨k1,k3,h2⟩ (Decidable.not_not.1 k4) (Decidable.not_not.1 h4) (hsz (.inr ho))
theorem exStep_jump (i : T.Ins) (hr : i.right = true) (ho : i.op = 16) : ExStepF 37 i := by
 intro M m m' A n c pkl vd w0 w L hB hok hrow hn hj he
 unfold T.estep at he
 rw [if_neg (by omega),if_neg (by omega),if_neg (by omega),if_neg (by omega),if_pos ho] at he
 cases he
 rw [if_neg (by omega)]
 obtain ⟨j1,j2⟩ := hj (by unfold T.Ins.jumps; rw [ho]; decide)
 exact exJump_ok i hB hok j1 j2
theorem exStep_exit (i : T.Ins) (hr : i.right = true) (ho : i.op = 28) : ExStepF 38 i := by
 intro M m m' A n c pkl vd w0 w L hB hok hrow hn hj he
 unfold T.estep at he
 rw [if_neg (by omega),if_neg (by omega),if_neg (by omega),if_neg (by omega),if_neg (by omega),if_pos ho] at he
 split at he
 ·cases he
 split at he
 ·cases he
 rename_i h1 h2
 cases he
 rw [if_pos ho]
 have H := exExit_ok i hB hok (Decidable.not_not.1 h2)
 exact H
theorem exStep_reckon (i : T.Ins) (hr : i.right = true) (ho : i.op < 12) : ExStepF 39 i := by
 intro M m m' A n c pkl vd w0 w L hB hok hrow hn hj he
 obtain ⟨hd,hs,_,_,hsz,hop,_⟩ := T.right_facts hr
 unfold T.estep at he
 rw [if_neg (by omega),if_neg (by omega),if_neg (by omega),if_neg (by omega),if_neg (by omega),if_neg (by omega),if_pos ho] at he
 simp only at he
 split at he
 ·cases he
 split at he
 ·cases he
 split at he
 ·rename_i h4
  exact absurd (congrArg Prod.fst he) h4
 rename_i h1 h2 h4
 cases he
 rw [if_neg (by omega)]
 obtain ⟨k1,k2⟩ := or_unset h1
 obtain ⟨k3,k4⟩ := not_or.1 h2
 refine exReckon_ok i hB hok hd hs ⟨hop.1,ho⟩ k2 k1 (Decidable.not_not.1 k3) ?_ (Decidable.not_not.1 h4)
 by_cases h5 : (m.reg i.dst).1 = 1
 ·exact .inl h5
 ·exact .inr (Decidable.not_not.1 fun h => k4 ⟨h5,h⟩)
theorem exStep_branch (i : T.Ins) (hr : i.right = true) (ho : 17 ≤ i.op ∧ i.op ≤ 27) : ExStepF 40 i := by
 intro M m m' A n c pkl vd w0 w L hB hok hrow hn hj he
 obtain ⟨hd,hs,_,_,hsz,hop,_⟩ := T.right_facts hr
 unfold T.estep at he
 rw [if_neg (by omega),if_neg (by omega),if_neg (by omega),if_neg (by omega),if_neg (by omega),if_neg (by omega),if_neg (by omega)] at he
 simp only at he
 split at he
 ·cases he
 split at he
 ·cases he
 rename_i h1 h2
 obtain ⟨k1,k2⟩ := or_unset h1
 obtain ⟨k3,k4⟩ := not_or.1 h2
 have H := exBranch_ok i hB hok hd hs ho k2 (Decidable.not_not.1 k3) (Decidable.not_not.1 k4) (fun _ => hj (by unfold T.Ins.jumps; simp; omega))
 rw [if_neg (by omega)]
 cases he
 exact H
theorem exDoes_step (i : T.Ins) (hr : i.right = true) : ∃ F : FuncId,(∀ w,Calls Tryz.prog 14 #[.int .u8 i.op] w (Ret w (.func (.func F) #[] #[]))) ∧ (∀ (a b : Value) (w : World),(callFunc F #[a,b]).run Tryz.prog w = .ok (.enter F #[a,b]) w) ∧ ExStepF F i := by
 obtain ⟨_,_,_,_,_,ho,_⟩ := T.right_facts hr
 have hd := fun w => exDoes_any i.op ho w
 by_cases h12 : i.op = 12
 ·refine ⟨33,fun w => ?_,fun a b w => by kernel_rfl,exStep_move i hr h12⟩
  have := hd w
  rwa [if_pos h12] at this
 by_cases h13 : i.op = 13
 ·refine ⟨34,fun w => ?_,fun a b w => by kernel_rfl,exStep_turn i hr h13⟩
  have := hd w
  rwa [if_neg h12,if_pos h13] at this
 by_cases h14 : i.op = 14
 ·refine ⟨35,fun w => ?_,fun a b w => by kernel_rfl,exStep_load i hr h14⟩
  have := hd w
  rwa [if_neg h12,if_neg h13,if_pos h14] at this
 by_cases h15 : i.op = 15
 ·refine ⟨36,fun w => ?_,fun a b w => by kernel_rfl,exStep_put i hr h15⟩
  have := hd w
  rwa [if_neg h12,if_neg h13,if_neg h14,if_pos h15] at this
 by_cases h16 : i.op = 16
 ·refine ⟨37,fun w => ?_,fun a b w => by kernel_rfl,exStep_jump i hr h16⟩
  have := hd w
  rwa [if_neg h12,if_neg h13,if_neg h14,if_neg h15,if_pos h16] at this
 by_cases h28 : i.op = 28
 ·refine ⟨38,fun w => ?_,fun a b w => by kernel_rfl,exStep_exit i hr h28⟩
  have := hd w
  rwa [if_neg h12,if_neg h13,if_neg h14,if_neg h15,if_neg h16,if_pos h28] at this
 by_cases hlt : i.op < 12
 ·refine ⟨39,fun w => ?_,fun a b w => by kernel_rfl,exStep_reckon i hr hlt⟩
  have := hd w
  rwa [if_neg h12,if_neg h13,if_neg h14,if_neg h15,if_neg h16,if_neg h28,if_pos hlt] at this
 ·refine ⟨40,fun w => ?_,fun a b w => by kernel_rfl,exStep_branch i hr (by omega)⟩
  have := hd w
  rwa [if_neg h12,if_neg h13,if_neg h14,if_neg h15,if_neg h16,if_neg h28,if_neg hlt] at this
end Go.Proofs.YtfeipbgnjainlaaGreat.K
/- (made by genrnc.py) run's does; what an instruction of the machine of registers does; the deferred closure of run.Do. -/
set_option maxRecDepth 100000
set_option maxHeartbeats 4000000
namespace Go.Proofs.YtfeipbgnjainlaaGreat.K
open Go Go.RowKit Go.Maps Go.Sort

def rnEnt : List (Int × Value) := [(1,.func (.func 52) #[] #[]),(2,.func (.func 53) #[] #[]),(3,.func (.func 54) #[] #[]),(4,.func (.func 55) #[] #[]),(5,.func (.func 56) #[] #[]),(6,.func (.func 57) #[] #[]),(7,.func (.func 58) #[] #[]),(8,.func (.func 59) #[] #[]),(9,.func (.func 60) #[] #[])]
theorem rnDoes_any (w : World) : Calls Tryz.prog 19 #[] w fun e w' => e = .returned (.map (some w.heap.size)) ∧ w' = w.alloc (.map (mes rnEnt) 9) := by
 have ht := Tryz.underlying75
 have hk := Tryz.underlying65
 obtain ⟨v0,hv0⟩ : ∃ v,v = Value.func (.func 52) #[] #[] := ⟨_,rfl⟩
 obtain ⟨v1,hv1⟩ : ∃ v,v = Value.func (.func 53) #[] #[] := ⟨_,rfl⟩
 obtain ⟨v2,hv2⟩ : ∃ v,v = Value.func (.func 54) #[] #[] := ⟨_,rfl⟩
 obtain ⟨v3,hv3⟩ : ∃ v,v = Value.func (.func 55) #[] #[] := ⟨_,rfl⟩
 obtain ⟨v4,hv4⟩ : ∃ v,v = Value.func (.func 56) #[] #[] := ⟨_,rfl⟩
 obtain ⟨v5,hv5⟩ : ∃ v,v = Value.func (.func 57) #[] #[] := ⟨_,rfl⟩
 obtain ⟨v6,hv6⟩ : ∃ v,v = Value.func (.func 58) #[] #[] := ⟨_,rfl⟩
 obtain ⟨v7,hv7⟩ : ∃ v,v = Value.func (.func 59) #[] #[] := ⟨_,rfl⟩
 obtain ⟨v8,hv8⟩ : ∃ v,v = Value.func (.func 60) #[] #[] := ⟨_,rfl⟩
 have p0 := put_mes ht hk w [] 1 v0 (by decide) (by decide) (by simp)
 have p1 := put_mes ht hk w [(1,v0)] 2 v1 (by decide) (by decide) (by simp)
 have p2 := put_mes ht hk w [(1,v0),(2,v1)] 3 v2 (by decide) (by decide) (by simp)
 have p3 := put_mes ht hk w [(1,v0),(2,v1),(3,v2)] 4 v3 (by decide) (by decide) (by simp)
 have p4 := put_mes ht hk w [(1,v0),(2,v1),(3,v2),(4,v3)] 5 v4 (by decide) (by decide) (by simp)
 have p5 := put_mes ht hk w [(1,v0),(2,v1),(3,v2),(4,v3),(5,v4)] 6 v5 (by decide) (by decide) (by simp)
 have p6 := put_mes ht hk w [(1,v0),(2,v1),(3,v2),(4,v3),(5,v4),(6,v5)] 7 v6 (by decide) (by decide) (by simp)
 have p7 := put_mes ht hk w [(1,v0),(2,v1),(3,v2),(4,v3),(5,v4),(6,v5),(7,v6)] 8 v7 (by decide) (by decide) (by simp)
 have p8 := put_mes ht hk w [(1,v0),(2,v1),(3,v2),(4,v3),(5,v4),(6,v5),(7,v6),(8,v7)] 9 v8 (by decide) (by decide) (by simp)
 simp only [List.cons_append,List.nil_append,List.length_cons,List.length_nil,Nat.reduceAdd] at p0 p1 p2 p3 p4 p5 p6 p7 p8
 have e0 : mes [] = #[] := rfl
 rw [e0] at p0
 clear e0
 generalize mes [(1,v0)] = E1 at p0 p1
 generalize mes [(1,v0),(2,v1)] = E2 at p1 p2
 generalize mes [(1,v0),(2,v1),(3,v2)] = E3 at p2 p3
 generalize mes [(1,v0),(2,v1),(3,v2),(4,v3)] = E4 at p3 p4
 generalize mes [(1,v0),(2,v1),(3,v2),(4,v3),(5,v4)] = E5 at p4 p5
 generalize mes [(1,v0),(2,v1),(3,v2),(4,v3),(5,v4),(6,v5)] = E6 at p5 p6
 generalize mes [(1,v0),(2,v1),(3,v2),(4,v3),(5,v4),(6,v5),(7,v6)] = E7 at p6 p7
 generalize mes [(1,v0),(2,v1),(3,v2),(4,v3),(5,v4),(6,v5),(7,v6),(8,v7)] = E8 at p7 p8
 obtain ⟨E9,hE⟩ : ∃ E,mes [(1,v0),(2,v1),(3,v2),(4,v3),(5,v4),(6,v5),(7,v6),(8,v7),(9,v8)] = E := ⟨_,rfl⟩
 rw [hE] at p8
 have HE := Lib.hid hE
 clear hE
 have hmm := run_makeMap (P := Tryz.prog) 75 w
 subst hv0
 subst hv1
 subst hv2
 subst hv3
 subst hv4
 subst hv5
 subst hv6
 subst hv7
 subst hv8
 have HR := Lib.hid (show mes rnEnt = E9 from HE.out)
 clear HE
 go_enter Tryz.func19,Tryz.ntmps19
 go_wp2
 go_ret
 exact ⟨rfl,by rw [HR.out]⟩
/-- what is found in it -/
theorem rnLook {w : World} {g : Nat} (hb : w.heap[g]? = some (.map (mes rnEnt) 9)) {k : Int} {v : Value} (hm : (k,v) ∈ rnEnt) : (Instr.lookup 75 (.map (some g)) (.int .u8 k) false).run Tryz.prog w = .ok v w := by
 have h : 0 ≤ k ∧ k ≤ 255 := by
  simp only [rnEnt,List.mem_cons,List.mem_nil_iff,or_false,Prod.mk.injEq] at hm
  rcases hm with ⟨rfl,_⟩ | ⟨rfl,_⟩ | ⟨rfl,_⟩ | ⟨rfl,_⟩ | ⟨rfl,_⟩ | ⟨rfl,_⟩ | ⟨rfl,_⟩ | ⟨rfl,_⟩ | ⟨rfl,_⟩ <;> decide
 exact look_mes1 Tryz.underlying75 Tryz.underlying65 hb k v h.1 h.2 hm (by simp [rnEnt])
/-- what every one of them does, where it goes on -/
def RnStepF (F : FuncId) (f : T.Fl) : Prop := ∀ (K : List (Nat × Obj)) (R : Nat) (m m' : T.Fm) (A : Option Addr) (n c : Nat) (pkl : List T.B) (st dn : Value) (w0 w : World) (L : List Acc),BankK K w0 w (boxAcc R 73 (fmL m (.slice A n c) st dn) :: L) → Fok m → RowRd w0 ⟨A,n,c⟩ pkl → n ≤ 1000000 → T.fstep pkl f m = some m' → Calls Tryz.prog F #[.pointer (some ⟨R,0,none⟩),flV f] w (RnP K w0 R m' (.slice A n c) st dn L)
theorem fstep_1 {pk : List T.B} {f : T.Fl} {m m' : T.Fm} (hk : f.do' = 1) (h : T.fstep pk f m = some m') : m' = m.put f.d f.n := by
 unfold T.fstep at h
 rw [if_pos hk] at h
 exact (Option.some.inj h).symm
theorem fstep_2 {pk : List T.B} {f : T.Fl} {m m' : T.Fm} (hk : f.do' = 2) (h : T.fstep pk f m = some m') : m' = m.put f.d (m.reg f.a) := by
 unfold T.fstep at h
 rw [if_neg (by omega),if_pos hk] at h
 exact (Option.some.inj h).symm
theorem fstep_3 {pk : List T.B} {f : T.Fl} {m m' : T.Fm} (hk : f.do' = 3) (h : T.fstep pk f m = some m') : T.aerr f.what f.narrow (m.reg f.b) = 0 ∧ m' = m.put f.d (T.ado f.what f.narrow (m.reg f.a) (m.reg f.b)) := by
 unfold T.fstep at h
 rw [if_neg (by omega),if_neg (by omega),if_pos hk] at h
 split at h
 ·rename_i h1; exact ⟨h1,(Option.some.inj h).symm⟩
 ·cases h
theorem fstep_4 {pk : List T.B} {f : T.Fl} {m m' : T.Fm} (hk : f.do' = 4) (h : T.fstep pk f m = some m') : T.getErr pk.length (m.reg f.a + f.n).toInt f.size = 0 ∧ m' = m.put f.d (T.gets pk (m.reg f.a + f.n).toInt.toNat f.size.toNat) := by
 unfold T.fstep at h
 rw [if_neg (by omega),if_neg (by omega),if_neg (by omega),if_pos hk] at h
 split at h
 ·rename_i h1; exact ⟨h1,(Option.some.inj h).symm⟩
 ·cases h
theorem fstep_5 {pk : List T.B} {f : T.Fl} {m m' : T.Fm} (hk : f.do' = 5) (h : T.fstep pk f m = some m') : T.cellErr (m.reg f.a + f.n).toInt f.size = false ∧ m' = m.put f.d (T.gets m.stk ((m.reg f.a + f.n).toInt + 512).toNat f.size.toNat) := by
 unfold T.fstep at h
 rw [if_neg (by omega),if_neg (by omega),if_neg (by omega),if_neg (by omega),if_pos hk] at h
 split at h
 ·cases h
 ·rename_i h1; exact ⟨by simpa using h1,(Option.some.inj h).symm⟩
theorem fstep_6 {pk : List T.B} {f : T.Fl} {m m' : T.Fm} (hk : f.do' = 6) (h : T.fstep pk f m = some m') : T.cellErr (m.reg f.a + f.n).toInt f.size = false ∧ m' = { m with stk := T.puts m.stk ((m.reg f.a + f.n).toInt + 512).toNat f.size.toNat (m.reg f.b) } := by
 unfold T.fstep at h
 rw [if_neg (by omega),if_neg (by omega),if_neg (by omega),if_neg (by omega),if_neg (by omega),if_pos hk] at h
 split at h
 ·cases h
 ·rename_i h1; exact ⟨by simpa using h1,(Option.some.inj h).symm⟩
theorem fstep_7 {pk : List T.B} {f : T.Fl} {m m' : T.Fm} (hk : f.do' = 7) (h : T.fstep pk f m = some m') : m' = { m with at' := f.to.toNat } := by
 unfold T.fstep at h
 rw [if_neg (by omega),if_neg (by omega),if_neg (by omega),if_neg (by omega),if_neg (by omega),if_neg (by omega),if_pos hk] at h
 exact (Option.some.inj h).symm
theorem fstep_8 {pk : List T.B} {f : T.Fl} {m m' : T.Fm} (hk : f.do' = 8) (h : T.fstep pk f m = some m') : m' = if T.ais f.what f.narrow (m.reg f.a) (m.reg f.b) then { m with at' := f.to.toNat } else m := by
 unfold T.fstep at h
 rw [if_neg (by omega),if_neg (by omega),if_neg (by omega),if_neg (by omega),if_neg (by omega),if_neg (by omega),if_neg (by omega),if_pos hk] at h
 exact (Option.some.inj h).symm
theorem rn_mem {n : Nat} {k : Int} {v : Value} (h : rnEnt[n]? = some (k,v)) : (k,v) ∈ rnEnt := List.mem_of_getElem? h
theorem rnDoes_step (f : T.Fl) {P : Nat → Prop} (hf : f.okP P) (h9 : f.do' ≠ 9) : ∃ F : FuncId,(f.do',Value.func (.func F) #[] #[]) ∈ rnEnt ∧ (∀ (a b : Value) (w : World),(callFunc F #[a,b]).run Tryz.prog w = .ok (.enter F #[a,b]) w) ∧ RnStepF F f := by
 rcases hf with ⟨d,n,rfl,h1⟩ | ⟨d,a,rfl,h1,h2⟩ | ⟨wh,nr,d,a,b,rfl,w1,w2,h1,h2,h3,_⟩ | ⟨k,d,a,n,s,hk,rfl,h1,h2,hs⟩ | ⟨a,b,n,s,rfl,h1,h2,hs⟩ | ⟨t,rfl,_⟩ | ⟨wh,nr,a,b,t,rfl,w1,w2,h1,h2,_⟩ | rfl
 ·refine ⟨_,rn_mem (n := 0) rfl,fun a b w => by kernel_rfl,fun K R m m' A n' c pkl st dn w0 w L hB hok hr hn he => ?_⟩
  rw [fstep_1 rfl he]
  exact rnSet_ok _ hB hok h1
 ·refine ⟨_,rn_mem (n := 1) rfl,fun a b w => by kernel_rfl,fun K R m m' A n' c pkl st dn w0 w L hB hok hr hn he => ?_⟩
  rw [fstep_2 rfl he]
  exact rnMove_ok _ hB hok h1 h2
 ·refine ⟨_,rn_mem (n := 2) rfl,fun a b w => by kernel_rfl,fun K R m m' A n' c pkl st dn w0 w L hB hok hr hn he => ?_⟩
  obtain ⟨e1,e2⟩ := fstep_3 rfl he
  rw [e2]
  exact rnAlu_ok _ hB hok h1 h2 h3 ⟨w1,w2⟩ e1
 ·rcases hk with rfl | rfl
  ·refine ⟨_,rn_mem (n := 3) rfl,fun a b w => by kernel_rfl,fun K R m m' A n' c pkl st dn w0 w L hB hok hr hn he => ?_⟩
   obtain ⟨e1,e2⟩ := fstep_4 rfl he
   rw [e2]
   exact rnLoad_ok _ hB hok h1 h2 hr hn (by have hl : pkl.length = n' := hr.len; rw [← hl]; exact e1)
  ·refine ⟨_,rn_mem (n := 4) rfl,fun a b w => by kernel_rfl,fun K R m m' A n' c pkl st dn w0 w L hB hok hr hn he => ?_⟩
   obtain ⟨e1,e2⟩ := fstep_5 rfl he
   rw [e2]
   exact rnRead_ok _ hB hok h1 h2 hs e1
 ·refine ⟨_,rn_mem (n := 5) rfl,fun a b w => by kernel_rfl,fun K R m m' A n' c pkl st dn w0 w L hB hok hr hn he => ?_⟩
  obtain ⟨e1,e2⟩ := fstep_6 rfl he
  rw [e2]
  exact rnWrite_ok _ hB hok h1 h2 hs e1
 ·refine ⟨_,rn_mem (n := 6) rfl,fun a b w => by kernel_rfl,fun K R m m' A n' c pkl st dn w0 w L hB hok hr hn he => ?_⟩
  rw [fstep_7 rfl he]
  exact rnJump_ok _ hB hok t rfl
 ·refine ⟨_,rn_mem (n := 7) rfl,fun a b w => by kernel_rfl,fun K R m m' A n' c pkl st dn w0 w L hB hok hr hn he => ?_⟩
  rw [fstep_8 rfl he]
  exact rnAsk_ok _ hB hok h1 h2 ⟨w1,w2⟩ t rfl _ rfl
 ·exact absurd rfl h9
theorem rnEnd_mem : (9,Value.func (.func 60) #[] #[]) ∈ rnEnt := rn_mem (n := 8) rfl
theorem tmps24P (a b c x : Value) : (#[a,b,c] ++ ((Array.replicate 21 undef).setIfInBounds 3 x).setIfInBounds 0 x) = #[a,b,c,x,undef,undef,x,undef,undef,undef,undef,undef,undef,undef,undef,undef,undef,undef,undef,undef,undef,undef,undef,undef] := by
 apply Array.toList_inj.1
 simp [List.replicate]
theorem catchDo_idle (p q r : Addr) (w : World) : CallsD Tryz.prog 18 #[.pointer (some p),.pointer (some q),.pointer (some r)] .returning w fun e u' w' => e = .returned (.tuple #[]) ∧ u' = .returning ∧ w' = w := by
 refine callsD_of_wpS Tryz.func18 rfl fun c₀ cs hu => ?_
 apply wpS_seq
 apply wpS_region
 simp [wpOpsS,go_sem,recoverD,hu,Tryz.ntmps18,Exit.thenS]
 refine wpS_of_wp ?_
 rw [tmps24P]
 go_wp2
 cases c₀
 simp_all [bodyPostS,results,Tryz.results18]
end Go.Proofs.YtfeipbgnjainlaaGreat.K
/- (made by genirb.py) ir.Right of a code that is right. -/
set_option maxRecDepth 100000
set_option maxHeartbeats 4000000
namespace Go.Proofs.YtfeipbgnjainlaaGreat.K
open Go Go.RowKit Go.Maps Go.Sort

def irEnt : List (Int × Value) := [(1,.func (.func 83) #[] #[]),(2,.func (.func 84) #[] #[]),(3,.func (.func 85) #[] #[]),(4,.func (.func 86) #[] #[]),(5,.func (.func 86) #[] #[]),(6,.func (.func 87) #[] #[]),(7,.func (.func 88) #[] #[]),(8,.func (.func 89) #[] #[]),(9,.func (.func 90) #[] #[])]
theorem irKinds_any (w : World) : Calls Tryz.prog 51 #[] w fun e w' => e = .returned (.map (some w.heap.size)) ∧ w' = w.alloc (.map (mes irEnt) 9) := by
 have ht := Tryz.underlying102
 have hk := Tryz.underlying65
 obtain ⟨v0,hv0⟩ : ∃ v,v = Value.func (.func 83) #[] #[] := ⟨_,rfl⟩
 obtain ⟨v1,hv1⟩ : ∃ v,v = Value.func (.func 84) #[] #[] := ⟨_,rfl⟩
 obtain ⟨v2,hv2⟩ : ∃ v,v = Value.func (.func 85) #[] #[] := ⟨_,rfl⟩
 obtain ⟨v3,hv3⟩ : ∃ v,v = Value.func (.func 86) #[] #[] := ⟨_,rfl⟩
 obtain ⟨v4,hv4⟩ : ∃ v,v = Value.func (.func 86) #[] #[] := ⟨_,rfl⟩
 obtain ⟨v5,hv5⟩ : ∃ v,v = Value.func (.func 87) #[] #[] := ⟨_,rfl⟩
 obtain ⟨v6,hv6⟩ : ∃ v,v = Value.func (.func 88) #[] #[] := ⟨_,rfl⟩
 obtain ⟨v7,hv7⟩ : ∃ v,v = Value.func (.func 89) #[] #[] := ⟨_,rfl⟩
 obtain ⟨v8,hv8⟩ : ∃ v,v = Value.func (.func 90) #[] #[] := ⟨_,rfl⟩
 have p0 := put_mes ht hk w [] 1 v0 (by decide) (by decide) (by simp)
 have p1 := put_mes ht hk w [(1,v0)] 2 v1 (by decide) (by decide) (by simp)
 have p2 := put_mes ht hk w [(1,v0),(2,v1)] 3 v2 (by decide) (by decide) (by simp)
 have p3 := put_mes ht hk w [(1,v0),(2,v1),(3,v2)] 4 v3 (by decide) (by decide) (by simp)
 have p4 := put_mes ht hk w [(1,v0),(2,v1),(3,v2),(4,v3)] 5 v4 (by decide) (by decide) (by simp)
 have p5 := put_mes ht hk w [(1,v0),(2,v1),(3,v2),(4,v3),(5,v4)] 6 v5 (by decide) (by decide) (by simp)
 have p6 := put_mes ht hk w [(1,v0),(2,v1),(3,v2),(4,v3),(5,v4),(6,v5)] 7 v6 (by decide) (by decide) (by simp)
 have p7 := put_mes ht hk w [(1,v0),(2,v1),(3,v2),(4,v3),(5,v4),(6,v5),(7,v6)] 8 v7 (by decide) (by decide) (by simp)
 have p8 := put_mes ht hk w [(1,v0),(2,v1),(3,v2),(4,v3),(5,v4),(6,v5),(7,v6),(8,v7)] 9 v8 (by decide) (by decide) (by simp)
 simp only [List.cons_append,List.nil_append,List.length_cons,List.length_nil,Nat.reduceAdd] at p0 p1 p2 p3 p4 p5 p6 p7 p8
 have e0 : mes [] = #[] := rfl
 rw [e0] at p0
 clear e0
 generalize mes [(1,v0)] = E1 at p0 p1
 generalize mes [(1,v0),(2,v1)] = E2 at p1 p2
 generalize mes [(1,v0),(2,v1),(3,v2)] = E3 at p2 p3
 generalize mes [(1,v0),(2,v1),(3,v2),(4,v3)] = E4 at p3 p4
 generalize mes [(1,v0),(2,v1),(3,v2),(4,v3),(5,v4)] = E5 at p4 p5
 generalize mes [(1,v0),(2,v1),(3,v2),(4,v3),(5,v4),(6,v5)] = E6 at p5 p6
 generalize mes [(1,v0),(2,v1),(3,v2),(4,v3),(5,v4),(6,v5),(7,v6)] = E7 at p6 p7
 generalize mes [(1,v0),(2,v1),(3,v2),(4,v3),(5,v4),(6,v5),(7,v6),(8,v7)] = E8 at p7 p8
 obtain ⟨E9,hE⟩ : ∃ E,mes [(1,v0),(2,v1),(3,v2),(4,v3),(5,v4),(6,v5),(7,v6),(8,v7),(9,v8)] = E := ⟨_,rfl⟩
 rw [hE] at p8
 have HE := Lib.hid hE
 clear hE
 have hmm := run_makeMap (P := Tryz.prog) 102 w
 subst hv0
 subst hv1
 subst hv2
 subst hv3
 subst hv4
 subst hv5
 subst hv6
 subst hv7
 subst hv8
 have HR := Lib.hid (show mes irEnt = E9 from HE.out)
 clear HE
 go_enter Tryz.func51,Tryz.ntmps51
 go_wp2
 go_ret
 exact ⟨rfl,by rw [HR.out]⟩
theorem irLook {w : World} {g : Nat} (hb : w.heap[g]? = some (.map (mes irEnt) 9)) {k : Int} {v : Value} (hm : (k,v) ∈ irEnt) : (Instr.lookup 102 (.map (some g)) (.int .u8 k) true).run Tryz.prog w = .ok (.tuple #[v,.bool true]) w := by
 have h : 0 ≤ k ∧ k ≤ 255 := by
  simp only [irEnt,List.mem_cons,List.mem_nil_iff,or_false,Prod.mk.injEq] at hm
  rcases hm with ⟨rfl,_⟩ | ⟨rfl,_⟩ | ⟨rfl,_⟩ | ⟨rfl,_⟩ | ⟨rfl,_⟩ | ⟨rfl,_⟩ | ⟨rfl,_⟩ | ⟨rfl,_⟩ | ⟨rfl,_⟩ <;> decide
 exact look_mes Tryz.underlying102 Tryz.underlying65 hb k v h.1 h.2 hm (by simp [irEnt])
def plcL (f : T.Fl) (at_ many : Int) : List Value := [.int .u8 f.do',.int .u8 f.what,.bool f.narrow,.int .i64 f.d,.int .i64 f.a,.int .i64 f.b,W64 f.n,.int .i64 f.size,.int .i64 f.to,.int .i64 at_,.int .i64 many]
theorem ir_mem {n : Nat} {k : Int} {v : Value} (h : irEnt[n]? = some (k,v)) : (k,v) ∈ irEnt := List.mem_of_getElem? h
/-- the answer is yes -/
theorem irStep (f : T.Fl) (x many : Nat) (hf : f.okP fun y => x < y ∧ y < many) : ∃ F : FuncId,(f.do',Value.func (.func F) #[] #[]) ∈ irEnt ∧ (∀ (a : Value) (w : World),(callFunc F #[a]).run Tryz.prog w = .ok (.enter F #[a]) w) ∧ ∀ w,Calls Tryz.prog F #[.agg (plcL f (x : Int) (many : Int)).toArray] w (Ret w (.bool true)) := by
 rcases hf with ⟨d,n,rfl,h1⟩ | ⟨d,a,rfl,h1,h2⟩ | ⟨wh,nr,d,a,b,rfl,w1,w2,h1,h2,h3,h4⟩ | ⟨k,d,a,n,s,hk,rfl,h1,h2,hs⟩ | ⟨a,b,n,s,rfl,h1,h2,hs⟩ | ⟨t,rfl,h1,h2⟩ | ⟨wh,nr,a,b,t,rfl,w1,w2,h1,h2,h3,h4⟩ | rfl
 ·exact ⟨_,ir_mem (n := 0) rfl,fun a w => by kernel_rfl,fun w => irSet_ok 1 d n x many w h1⟩
 ·exact ⟨_,ir_mem (n := 1) rfl,fun a w => by kernel_rfl,fun w => irMove_ok 2 d a x many w h1 h2⟩
 ·refine ⟨_,ir_mem (n := 2) rfl,fun a w => by kernel_rfl,fun w => ?_⟩
  by_cases h13 : wh = 13
  ·subst h13
   obtain rfl := h4 rfl
   exact irNeg_ok 3 nr d a x many w h1 h2 h3
  ·exact irAlu_ok 3 wh nr d a b x many w h1 h2 h3 w1 w2 h13
 ·rcases hk with rfl | rfl
  ·exact ⟨_,ir_mem (n := 3) rfl,fun a w => by kernel_rfl,fun w => irLoad_ok 4 d a n s x many w h1 h2 hs⟩
  ·exact ⟨_,ir_mem (n := 4) rfl,fun a w => by kernel_rfl,fun w => irLoad_ok 5 d a n s x many w h1 h2 hs⟩
 ·exact ⟨_,ir_mem (n := 5) rfl,fun a w => by kernel_rfl,fun w => irWrite_ok 6 a b n s x many w h1 h2 hs⟩
 ·exact ⟨_,ir_mem (n := 6) rfl,fun a w => by kernel_rfl,fun w => irJump_ok 7 t x many w (by omega) (by omega)⟩
 ·exact ⟨_,ir_mem (n := 7) rfl,fun a w => by kernel_rfl,fun w => irAsk_ok 8 wh nr a b t x many w h1 h2 w1 w2 (by omega) (by omega)⟩
 ·exact ⟨_,ir_mem (n := 8) rfl,fun a w => by kernel_rfl,fun w => irEnd_ok 9 0 x many w ⟨by decide,by decide⟩⟩
theorem FlRd.cells {w : World} {b o : Nat} {l : List T.Fl} (h : FlRd w b o l) {j : Nat} {f : T.Fl} (hi : l[j]? = some f) : w.cell? ⟨b,o + j * 9,none⟩ = some (.int .u8 f.do') ∧ w.cell? ⟨b,o + j * 9 + 1,none⟩ = some (.int .u8 f.what) ∧ w.cell? ⟨b,o + j * 9 + 2,none⟩ = some (.bool f.narrow) ∧ w.cell? ⟨b,o + j * 9 + 3,none⟩ = some (.int .i64 f.d) ∧ w.cell? ⟨b,o + j * 9 + 4,none⟩ = some (.int .i64 f.a) ∧ w.cell? ⟨b,o + j * 9 + 5,none⟩ = some (.int .i64 f.b) ∧ w.cell? ⟨b,o + j * 9 + 6,none⟩ = some (W64 f.n) ∧ w.cell? ⟨b,o + j * 9 + 7,none⟩ = some (.int .i64 f.size) ∧ w.cell? ⟨b,o + j * 9 + 8,none⟩ = some (.int .i64 f.to) :=
 ⟨h j f hi 0 _ rfl,h j f hi 1 _ rfl,h j f hi 2 _ rfl,h j f hi 3 _ rfl,h j f hi 4 _ rfl,h j f hi 5 _ rfl,h j f hi 6 _ rfl,h j f hi 7 _ rfl,h j f hi 8 _ rfl⟩
theorem irRight_ok (b o n c : Nat) (l : List T.Fl) (w : World) (hr : FlRd w b o l) (hl : l.length = n) (h : T.FRight l) : Calls Tryz.prog 17 #[.slice (some ⟨b,o,none⟩) n c] w (Ret w (.bool true)) := by
 have HR := Lib.hid hr
 have HL := Lib.hid hl
 have HF := Lib.hid h
 obtain ⟨fl,hfl,hend⟩ := h.last
 obtain ⟨q,hq⟩ : ∃ q,l.length - 1 = q := ⟨_,rfl⟩
 have hn1 : 1 ≤ n := by rw [← hl]; exact List.length_pos_iff.2 h.ne
 have hn2 : n ≤ 16384 := by rw [← hl]; exact h.len
 rw [hq] at hfl
 have c0 := (hr.cells hfl).1
 rw [hend] at c0
 have c0 : w.cell? ⟨b,o + q * 9,none⟩ = some (.int .u8 9) := c0
 have k1 : ¬ (n : Int) < 1 := by omega
 have k2 : ¬ (16384 : Int) < (n : Int) := by omega
 have kw : IntKind.i64.wrap ((n : Int) - 1) = (q : Int) := by rw [IntWalk.i64_in _ (by omega)]; omega
 have q0 : (0 : Int) ≤ (q : Int) := by omega
 have q1 : (q : Int) < (n : Int) := by omega
 clear hr h hl hfl hend hq
 go_enter Tryz.func17,Tryz.ntmps17
 go_wp2_with fail
 refine (irKinds_any _).mono ?_
 rintro e w1 ⟨rfl,rfl⟩
 have HG := Lib.hid (heap_alloc_new w (.map (mes irEnt) 9))
 have HW := Lib.hid (show Since w (w.alloc (.map (mes irEnt) 9)) from (Below.refl _ _).alloc (Nat.le_refl _) _)
 have HR1 := Lib.hid (HR.out.since HW.out)
 clear c0 k1 k2 kw q0 q1
 generalize w.heap.size = g at HG ⊢
 generalize hW1 : w.alloc (.map (mes irEnt) 9) = w1 at *
 clear hW1
 have HLT := Lib.hid (Array.getElem?_eq_some_iff.1 HG.out).1
 go_wp2_with fail
 go_loopw [5,6,7,8,29] (fun _ _ _ _ i wr => ∃ j : Nat,j ≤ n ∧ i = .int .i64 (j : Int) ∧ Since w1 wr) (fun _ _ _ _ i _ => n - (intOf i).toNat)
 case atStart => exact ⟨0,Nat.zero_le _,rfl,Below.refl _ _⟩
 case round =>
  obtain ⟨j,hj,rfl,hs⟩ := hrel
  have HS := Lib.hid hs
  clear hs
  have j0 : (0 : Int) ≤ (j : Int) := by omega
  by_cases hlt : j < n
  ·have i1 : (j : Int) < (n : Int) := by omega
   obtain ⟨f,hf⟩ : ∃ f,l[j]? = some f := ⟨_,List.getElem?_eq_getElem (by have := HL.out; omega)⟩
   obtain ⟨F,hm,hcf,hstep⟩ := irStep f j n (by have := HF.out.all j f hf; rwa [HL.out] at this)
   unfold plcL at hstep
   have HM := Lib.hid hm
   have HST := Lib.hid hstep
   obtain ⟨x0,x1,x2,x3,x4,x5,x6,x7,x8⟩ := (HR1.out.since HS.out).cells hf
   clear hm hstep hf
   go_upto_region 8 with fail
   have BK0 := Lib.hid ((Bank.nil (Below.refl wr.heap.size wr)).boxL [.int .u8 f.do',.int .u8 f.what,.bool f.narrow,.int .i64 f.d,.int .i64 f.a,.int .i64 f.b,W64 f.n,.int .i64 f.size,.int .i64 f.to] 67 (by simp))
   generalize wr.heap.size = X at *
   refine wp_hid BK0 (fun w2 BK0 => ?_)
   clear x0 x1 x2 x3 x4 x5 x6 x7 x8
   obtain ⟨x0,x1,x2,x3,x4,x5,x6,x7,x8⟩ := BK0.out.q9 0 rfl
   have hlk := irLook (((HS.out.add BK0.out.since).block _ HLT.out).trans HG.out) HM.out
   go_wp2_with fail
   refine (HST.out _).mono ?_
   rintro e w3 ⟨rfl,hs⟩
   have HS3 := Lib.hid ((HS.out.add BK0.out.since).add hs)
   clear hs hlk
   go_wp2
   go_round
   case rel => exact ⟨j + 1,by omega,by go_num,HS3.out⟩
   case measure => simp [intOf]; omega
  ·have i1 : ¬ (j : Int) < (n : Int) := by omega
   go_wp2
   go_ret
   exact ⟨rfl,HW.out.add HS.out⟩
end Go.Proofs.YtfeipbgnjainlaaGreat.K
