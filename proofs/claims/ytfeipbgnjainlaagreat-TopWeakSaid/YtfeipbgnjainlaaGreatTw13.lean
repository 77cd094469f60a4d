/- What all servers look at: TInA, TPkA, TCkA, TCkB -/
import Derived.Test.YtfeipbgnjainlaaGreatTw7
import Derived.Test.YtfeipbgnjainlaaGreatTw3
import Derived.Test.YtfeipbgnjainlaaGreatTw10
import Derived.RangeFuncNested
import Derived.RangeFuncBound
import Derived.RangeFuncCalls
import Derived.RangeFuncLeaves
import Derived.RangeFuncFrom
import Derived.Shelf.Abstract
import Derived.Shelf.RegionOpen
import Derived.WalkKit
import Derived.OwnWalkIn
import Derived.TacticsInMore
import Derived.LoopNIn
import Derived.LoopIn
import Derived.Test.YtfeipbgnjainlaaGreatTw9
set_option linter.unusedVariables false
set_option linter.unusedSimpArgs false
/- (made by genins.py) The contracts of ins.fields, within, Jumps. -/
set_option maxHeartbeats 2000000
namespace Go.Proofs.YtfeipbgnjainlaaGreat.K
open Go Go.RowKit Go.Maps Go.Sort

def insL (i : T.Ins) : List Value := [.int .u8 i.op,.bool i.narrow,.int .i64 i.dst,.int .i64 i.src,.bool i.useImm,.int .i64 i.off,.int .i64 i.imm,.int .i64 i.size]
def insV (i : T.Ins) : Value := .agg (insL i).toArray
theorem fields_any (op : Int) (w : World) : Calls Tryz.prog 70 #[.int .u8 op] w fun e w' => e = .returned (.int .i64 (T.fields op : Int)) ∧ w' = w := by
 rcases (show (1 ≤ op ∧ op ≤ 12) ∨ (op = 13) ∨ (op = 14) ∨ (op = 15) ∨ (op = 16) ∨ (17 ≤ op ∧ op ≤ 27) ∨ (op = 28) ∨ (op < 1) ∨ (28 < op) by omega) with ⟨h1,h2⟩ | rfl | rfl | rfl | rfl | ⟨h1,h2⟩ | rfl | h1 | h1
 ·have HV := Lib.hid (show T.fields op = 201 by unfold T.fields; (repeat' split) <;> first | rfl | omega)
  go_enter Tryz.func70,Tryz.ntmps70
  go_wp2
  go_ret
  exact ⟨by rw [HV.out]; rfl,rfl⟩
 ·have HV := Lib.hid (show T.fields 13 = 193 by unfold T.fields; rfl)
  go_enter Tryz.func70,Tryz.ntmps70
  go_wp2
  go_ret
  exact ⟨by rw [HV.out]; rfl,rfl⟩
 ·have HV := Lib.hid (show T.fields 14 = 181 by unfold T.fields; rfl)
  go_enter Tryz.func70,Tryz.ntmps70
  go_wp2
  go_ret
  exact ⟨by rw [HV.out]; rfl,rfl⟩
 ·have HV := Lib.hid (show T.fields 15 = 186 by unfold T.fields; rfl)
  go_enter Tryz.func70,Tryz.ntmps70
  go_wp2
  go_ret
  exact ⟨by rw [HV.out]; rfl,rfl⟩
 ·have HV := Lib.hid (show T.fields 16 = 144 by unfold T.fields; rfl)
  go_enter Tryz.func70,Tryz.ntmps70
  go_wp2
  go_ret
  exact ⟨by rw [HV.out]; rfl,rfl⟩
 ·have HV := Lib.hid (show T.fields op = 218 by unfold T.fields; (repeat' split) <;> first | rfl | omega)
  have g1 : 1 ≤ op := by omega
  have g2 : ¬ op ≤ 12 := by omega
  have e13 : (op == 13) = false := by simp; omega
  have e14 : (op == 14) = false := by simp; omega
  have e15 : (op == 15) = false := by simp; omega
  have e16 : (op == 16) = false := by simp; omega
  go_enter Tryz.func70,Tryz.ntmps70
  go_wp2
  go_ret
  exact ⟨by rw [HV.out]; rfl,rfl⟩
 ·have HV := Lib.hid (show T.fields 28 = 128 by unfold T.fields; rfl)
  go_enter Tryz.func70,Tryz.ntmps70
  go_wp2
  go_ret
  exact ⟨by rw [HV.out]; rfl,rfl⟩
 ·have HV := Lib.hid (show T.fields op = 0 by unfold T.fields; (repeat' split) <;> first | rfl | omega)
  have g1 : ¬ 1 ≤ op := by omega
  have g3 : ¬ 17 ≤ op := by omega
  have e13 : (op == 13) = false := by simp; omega
  have e14 : (op == 14) = false := by simp; omega
  have e15 : (op == 15) = false := by simp; omega
  have e16 : (op == 16) = false := by simp; omega
  have e28 : (op == 28) = false := by simp; omega
  go_enter Tryz.func70,Tryz.ntmps70
  go_wp2
  go_ret
  exact ⟨by rw [HV.out]; rfl,rfl⟩
 ·have HV := Lib.hid (show T.fields op = 0 by unfold T.fields; (repeat' split) <;> first | rfl | omega)
  have g1 : 1 ≤ op := by omega
  have g2 : ¬ op ≤ 12 := by omega
  have g3 : 17 ≤ op := by omega
  have g4 : ¬ op ≤ 27 := by omega
  have e13 : (op == 13) = false := by simp; omega
  have e14 : (op == 14) = false := by simp; omega
  have e15 : (op == 15) = false := by simp; omega
  have e16 : (op == 16) = false := by simp; omega
  have e28 : (op == 28) = false := by simp; omega
  go_enter Tryz.func70,Tryz.ntmps70
  go_wp2
  go_ret
  exact ⟨by rw [HV.out]; rfl,rfl⟩
theorem within_any (n a b : Int) (w : World) : Calls Tryz.prog 72 #[.int .i64 n,.int .i64 a,.int .i64 b] w fun e w' => e = .returned (.bool (T.wi n a b)) ∧ w' = w := by
 by_cases h1 : a ≤ n
 ·by_cases h2 : n ≤ b
  ·have HV := Lib.hid (show T.wi n a b = true by unfold T.wi; rw [decide_eq_true h1,decide_eq_true h2]; rfl)
   go_enter Tryz.func72,Tryz.ntmps72
   go_wp2
   go_ret
   exact ⟨by rw [HV.out]; rfl,rfl⟩
  ·have HV := Lib.hid (show T.wi n a b = false by unfold T.wi; rw [decide_eq_true h1,decide_eq_false h2]; rfl)
   go_enter Tryz.func72,Tryz.ntmps72
   go_wp2
   go_ret
   exact ⟨by rw [HV.out]; first | rfl | simp [h2],rfl⟩
 ·have HV := Lib.hid (show T.wi n a b = false by unfold T.wi; rw [decide_eq_false h1]; rfl)
  go_enter Tryz.func72,Tryz.ntmps72
  go_wp2
  go_ret
  exact ⟨by rw [HV.out]; first | rfl | simp [h1],rfl⟩
theorem jumps_any (i : T.Ins) (w : World) : Calls Tryz.prog 29 #[insV i] w (Ret w (.bool i.jumps)) := by
 have S1 := Lib.hid (Since.alloc (Below.refl w.heap.size w) (.cells (insL i).toArray 31))
 have HV := Lib.hid (show i.jumps = (decide (16 ≤ i.op) && decide (i.op ≤ 27)) by unfold T.Ins.jumps; rw [Bool.decide_and])
 unfold insV
 unfold insL at S1 ⊢
 go_enter Tryz.func29,Tryz.ntmps29
 go_wp2
 all_goals
  go_ret
  refine ⟨?_,S1.out⟩
  rw [HV.out]
  first | (simp_all; done) | (simp_all; omega)
end Go.Proofs.YtfeipbgnjainlaaGreat.K
/- (made by genpk.py) The contracts of packet.sizes, check, places. -/
set_option maxRecDepth 100000
set_option maxHeartbeats 2000000
namespace Go.Proofs.YtfeipbgnjainlaaGreat.K
open Go Go.RowKit Go.Maps Go.Sort Go.Shelf
attribute [local go_sem] Oper.semAt_some

def sizesV : Value := .agg #[.bool false,.bool true,.bool true,.bool false,.bool true,.bool false,.bool false,.bool false,.bool true]
theorem sizes_any (w : World) : Calls Tryz.prog 176 #[] w (Ret w sizesV) := by
 have S1 := Lib.hid (Since.alloc (Below.refl w.heap.size w) (.cells #[.bool false,.bool true,.bool true,.bool false,.bool true,.bool false,.bool false,.bool false,.bool true] 212))
 go_enter Tryz.func176,Tryz.ntmps176
 go_wp2
 refine bodyPost_ret (v := sizesV) ?_ rfl ⟨rfl,S1.out⟩
 simp [results,Tryz.results176,go_sem,sizesV]
theorem getErr_facts {len : Nat} {at' size : Int} (h : T.getErr len at' size = 0) : (size = 1 ∨ size = 2 ∨ size = 4 ∨ size = 8) ∧ 0 ≤ at' ∧ at' ≤ (len : Int) - size := by
 unfold T.getErr at h
 split at h
 ·cases h
 ·rename_i h1
  split at h
  ·cases h
  ·rename_i h2
   refine ⟨?_,by omega,by omega⟩
   exact of_decide_eq_true ((Bool.not_eq_false _).mp h1)
theorem check_ok (A : Option Addr) (n c : Nat) (at' size : Int) (w : World) (hn : n ≤ 1000000) (h : T.getErr n at' size = 0) : Calls Tryz.prog 113 #[.slice A n c,.int .i64 at',.int .i64 size] w (Ret w (.tuple #[])) := by
 obtain ⟨hs,h0,h1⟩ := getErr_facts h
 clear h
 go_enter Tryz.func113,Tryz.ntmps113
 go_wp2_with fail
 refine (sizes_any w).mono ?_
 rintro e w2 ⟨rfl,hs2⟩
 unfold sizesV
 have S2 := Lib.hid (show Since w (w2.alloc (.cells #[.bool false,.bool true,.bool true,.bool false,.bool true,.bool false,.bool false,.bool false,.bool true] 212)) from Since.alloc hs2 _)
 clear hs2
 have n0 : ¬ at' < 0 := by omega
 rcases hs with rfl | rfl | rfl | rfl
 all_goals
  go_wp2
  go_end0
  exact ⟨rfl,S2.out⟩
theorem places_any (at' size : Int) (w : World) : Calls Tryz.prog 114 #[.int .i64 at',.int .i64 size] w fun e w' => ∃ X,e = .returned (.func (.func 177) #[] #[.pointer (some ⟨X + 1,0,none⟩),.pointer (some ⟨X,0,none⟩)]) ∧ Bank w w' [boxAcc (X + 1) 3 [.int .i64 size],boxAcc X 2 [.int .i64 at']] := by
 have hmf : ∀ (fn : Fn) (first cap : Array Value) (w : World),(Instr.makeFunc fn first cap).run Tryz.prog w = .ok (.func fn first cap) w := fun _ _ _ _ => rfl
 have BK := bk2 w [.int .i64 at'] 2 [.int .i64 size] 3
 go_enter Tryz.func114,Tryz.ntmps114
 go_wp2
 go_ret
 exact ⟨w.heap.size,rfl,BK.out⟩
/-- what a round keeps: where the place and the size stand -/
def KpC (Sz At : Nat) (W W' : World) : Prop := W'.cell? ⟨Sz,0,none⟩ = W.cell? ⟨Sz,0,none⟩ ∧ W'.cell? ⟨At,0,none⟩ = W.cell? ⟨At,0,none⟩
theorem kpc_t {Sz At : Nat} {A B C : World} (h : KpC Sz At A B) (k : KpC Sz At B C) : KpC Sz At A C := ⟨k.1.trans h.1,k.2.trans h.2⟩
theorem kpc_b {Sz At : Nat} {w : World} (h1 : Sz < w.heap.size) (h2 : At < w.heap.size) (W : World) (l : Nat) (o o' : Obj) (hl : w.heap.size ≤ l) (_ : W.heap[l]? = some o) (_ : o.isCells = false) (_ : o.isWalk = false) : KpC Sz At W (W.putObj l o') := by
 have hne : ∀ b,b < w.heap.size → (W.putObj l o').cell? ⟨b,0,none⟩ = W.cell? ⟨b,0,none⟩ := fun b hb => by
  have this : (W.putObj l o').heap[b]? = W.heap[b]? := World.putObj_heap_other (by omega)
  simp only [World.cell?,this]
 exact ⟨hne Sz h1,hne At h2⟩
abbrev encsP (at' : Int) (size : Nat) (i : { i : Nat // i < size }) : Array Value := #[.int .i64 (at' + (i.1 : Int)),.int .i64 (8 * ((size : Int) - 1 - (i.1 : Int)))]
theorem places_stops (F : Fence) (n : Nat) (hF : F.fn 177) (hro : F.round = none) (hn : 1 ≤ n) (Sz At : Nat) (at' : Int) (size : Nat) (h8 : size ≤ 8) (h0 : 0 ≤ at') (h1 : at' ≤ 1000000) (w : World) (hS : w.cell? ⟨Sz,0,none⟩ = some (.int .i64 (size : Int))) (hA : w.cell? ⟨At,0,none⟩ = some (.int .i64 at')) :
  SeqStopsK F n Tryz.prog 177 #[.pointer (some ⟨Sz,0,none⟩),.pointer (some ⟨At,0,none⟩)] (encsP at' size) (KpC Sz At) (fun xs => xs.map Subtype.val = List.range size) (fun _ => True) size w := fun l J Jx W hW hJ hJx hY hJ0 => by
 have hS1 := (hW.cell (p := ⟨Sz,0,none⟩) (block_lt_of_cell hS)).trans hS
 have hA1 := (hW.cell (p := ⟨At,0,none⟩) (block_lt_of_cell hA)).trans hA
 clear hS hA hW
 refine callsIn_of_wp Tryz.func177 rfl hF ?_ hro
 simp only [Tryz.ntmps177,List.size_toArray,List.length_cons,List.length_nil,Nat.reduceAdd,Nat.reduceSub,Array.replicate_succ,Array.replicate_zero,List.push_toArray,List.append_toArray,List.nil_append,List.cons_append]
 gi_wp2
 gi_loopw [4,6] (fun v i wr => ∃ pre : List { i : Nat // i < size },pre.map Subtype.val = List.range pre.length ∧ pre.length ≤ size ∧ i = .int .i64 (pre.length : Int) ∧ J pre wr ∧ wr.cell? ⟨Sz,0,none⟩ = some (.int .i64 (size : Int)) ∧ wr.cell? ⟨At,0,none⟩ = some (.int .i64 at')) (fun _ i _ => size - (intOf i).toNat)
 case atStart => exact ⟨[],rfl,Nat.zero_le _,rfl,hJ0,hS1,hA1⟩
 case round =>
  obtain ⟨pre,hp,hl,rfl,hj,hS,hA⟩ := hrel
  have HP := Lib.hid hp
  clear hp
  have j0 : (0 : Int) ≤ (pre.length : Int) := by omega
  by_cases hlt : pre.length < size
  ·have i1 : (pre.length : Int) < (size : Int) := by omega
   obtain ⟨fn,tmps,assign,body,hy,hR⟩ := hY pre ⟨pre.length,hlt⟩ wr hj hlt
   dsimp only [encsP] at hy
   gi_wp2
   refine hR.mono ?_
   rintro e W3 (⟨rfl,hJ3,hk3⟩ | ⟨rfl,hJx3⟩)
   ·have hS3 := hk3.1.trans hS
    have hA3 := hk3.2.trans hA
    have HQ := Lib.hid (show (pre ++ [(⟨pre.length,hlt⟩ : { i : Nat // i < size })]).map Subtype.val = List.range (pre ++ [(⟨pre.length,hlt⟩ : { i : Nat // i < size })]).length by rw [List.map_append,HP.out,List.length_append,List.length_cons,List.length_nil,List.range_succ]; rfl)
    gi_wp2
    go_roundw
    case rel => exact ⟨pre ++ [⟨pre.length,hlt⟩],HQ.out,by rw [List.length_append,List.length_cons,List.length_nil]; omega,by rw [List.length_append]; go_num,hJ3,hS3,hA3⟩
    case measure => simp [intOf]; omega
   ·gi_wp2
    refine bodyPost_ret (results_none rfl _ _ _) rfl ?_
    exact ⟨⟨_,rfl⟩,.inr ⟨_,trivial,hJx3⟩⟩
  ·have i1 : ¬ (pre.length : Int) < (size : Int) := by omega
   have HE := Lib.hid (show pre.map Subtype.val = List.range size by rw [HP.out]; congr 1; omega)
   gi_wp2
   go_end0
   exact ⟨⟨_,rfl⟩,.inl ⟨pre,HE.out,hj⟩⟩
end Go.Proofs.YtfeipbgnjainlaaGreat.K
/- (made by gencka.py) The contracts of check.fail, must and number. -/
set_option maxRecDepth 100000
set_option maxHeartbeats 2000000
namespace Go.Proofs.YtfeipbgnjainlaaGreat.K
open Go Go.RowKit Go.Maps Go.Sort

/-- nothing, or an error is thrown -/
def FailP (w : World) (n : Int) (e : Ending) (w' : World) : Prop := (n = 0 ∧ e = .returned (.tuple #[]) ∧ w' = w) ∨ (n ≠ 0 ∧ e = .panicked (eP n) ∧ w' = w)
theorem fail_no (n : Int) (w : World) : Calls Tryz.prog 97 #[.bool false,.int .i64 n] w fun e w' => e = .returned (.tuple #[]) ∧ w' = w := by
 go_enter Tryz.func97,Tryz.ntmps97
 go_wp2
 go_end0
 exact ⟨rfl,rfl⟩
theorem fail_yes (n : Int) (w : World) : Calls Tryz.prog 97 #[.bool true,.int .i64 n] w fun e w' => e = .panicked (eP n) ∧ w' = w := by
 go_enter Tryz.func97,Tryz.ntmps97
 go_wp2
 exact ⟨rfl,rfl,rfl⟩
theorem mustC_any (n : Int) (w : World) : Calls Tryz.prog 94 #[.int .i64 n] w (FailP w n) := by
 by_cases h : n = 0
 ·subst h
  go_enter Tryz.func94,Tryz.ntmps94
  go_wp2_with fail
  refine (fail_no 0 w).mono ?_
  rintro e w2 ⟨rfl,rfl⟩
  go_wp2
  go_end0
  exact Or.inl ⟨rfl,rfl,rfl⟩
 ·have HN := Lib.hid h
  have e0 : (n != 0) = true := by simpa using h
  clear h
  go_enter Tryz.func94,Tryz.ntmps94
  go_wp2_with fail
  refine (fail_yes n w).mono ?_
  rintro e w2 ⟨rfl,rfl⟩
  exact ⟨rfl,Or.inr ⟨HN.out,rfl,rfl⟩⟩
/-- as a number; or the error -/
def numR (least : Int) (k : T.Kn) : Int × T.Sp := if k.k = 0 then (110,T.Sp.zero) else if k.k = 1 then (0,k.s) else if k.k = 4 then (0,⟨T.wide least,65535#64⟩) else (111,T.Sp.zero)
theorem asN_numR (p : T.Pl) (k : T.Kn) : T.asN p k = numR p.least k := rfl
def NumP (w : World) (r : Int × T.Sp) (e : Ending) (w' : World) : Prop := (r.1 = 0 ∧ e = .returned (spv r.2) ∧ Since w w') ∨ (r.1 ≠ 0 ∧ e = .panicked (eP r.1) ∧ Since w w')
theorem wide_W64 (z : Int) (h0 : 0 ≤ z) (h1 : z ≤ 65535) : Value.int .u64 z = W64 (T.wide z) := by
 unfold W64 T.wide
 congr 1
 rw [BitVec.toNat_ofInt]
 omega
theorem numberC_any (Wk : Nat) (least : Int) (x : T.Kn) (w : World) (hc : w.cell? ⟨Wk,6,none⟩ = some (.int .i64 least)) (h0 : 0 ≤ least) (h1 : least ≤ 65535) : Calls Tryz.prog 98 #[.pointer (some ⟨Wk,0,none⟩),knv x] w (NumP w (numR least x)) := by
 obtain ⟨k,⟨lo,hi⟩⟩ := x
 have HC := Lib.hid hc
 have HW := Lib.hid (wide_W64 least h0 h1)
 clear hc
 unfold knv
 have BK0 := bk2 w [.int .u8 k,W64 lo,W64 hi] 113 [W64 0#64,W64 0#64] 111
 go_enter Tryz.func98,Tryz.ntmps98
 go_upto_region 1 with fail
 generalize w.heap.size = X at *
 refine wp_hid BK0 (fun w1 BK0 => ?_)
 obtain ⟨a0,a1,a2⟩ := BK0.out.q3 1 rfl
 obtain ⟨r0,r1,fr0,fr1⟩ := BK0.out.r2 0 rfl
 by_cases hk0 : k = 0
 ·have HV := Lib.hid (show numR least ⟨k,⟨lo,hi⟩⟩ = (110,T.Sp.zero) from if_pos hk0)
  subst hk0
  go_wp2_with fail
  refine (fail_yes 110 _).mono ?_
  rintro e wq ⟨rfl,rfl⟩
  exact ⟨rfl,Or.inr ⟨by rw [HV.out]; decide,by rw [HV.out],BK0.out.since⟩⟩
 have HV0 := Lib.hid (show numR least ⟨k,⟨lo,hi⟩⟩ = if k = 1 then (0,⟨lo,hi⟩) else if k = 4 then (0,⟨T.wide least,65535#64⟩) else (111,T.Sp.zero) from if_neg hk0)
 have e0 : (k == 0) = false := by simpa using hk0
 by_cases hk1 : k = 1
 ·have HV := Lib.hid (HV0.out.trans (if_pos hk1))
  subst hk1
  go_wp2_with fail
  refine (fail_no 110 _).mono ?_
  rintro e wq ⟨rfl,rfl⟩
  go_wp2_with fail
  refine (fail_no 111 _).mono ?_
  rintro e wq ⟨rfl,rfl⟩
  go_wp2
  refine bodyPost_ret (v := .agg #[W64 lo,W64 hi]) ?_ rfl (Or.inl ⟨by rw [HV.out],by rw [HV.out]; rfl,((BK0.out.boxSet 0 rfl 0 (W64 lo)).boxSet 0 rfl 1 (W64 hi)).since⟩)
  simp [results,Tryz.results98,go_sem,a0,a1,a2,r0,r1]
 by_cases hk4 : k = 4
 ·have HV := Lib.hid (HV0.out.trans ((if_neg hk1).trans (if_pos hk4)))
  subst hk4
  go_wp2_with fail
  refine (fail_no 110 _).mono ?_
  rintro e wq ⟨rfl,rfl⟩
  go_wp2_with fail
  refine (fail_no 111 _).mono ?_
  rintro e wq ⟨rfl,rfl⟩
  have c6 := BK0.out.since.keep HC.out
  go_wp2
  refine bodyPost_ret (v := .agg #[.int .u64 least,W64 65535#64]) ?_ rfl (Or.inl ⟨by rw [HV.out],by rw [HV.out,HW.out]; rfl,((BK0.out.boxSet 0 rfl 0 (.int .u64 least)).boxSet 0 rfl 1 (W64 65535#64)).since⟩)
  simp [results,Tryz.results98,go_sem,a0,a1,a2,r0,r1]
 have HV := Lib.hid (HV0.out.trans ((if_neg hk1).trans (if_neg hk4)))
 have e1 : (k != 1) = true := by simpa using hk1
 have e4 : (k != 4) = true := by simpa using hk4
 go_wp2_with fail
 refine (fail_no 110 _).mono ?_
 rintro e wq ⟨rfl,rfl⟩
 go_wp2_with fail
 refine (fail_yes 111 _).mono ?_
 rintro e wq ⟨rfl,rfl⟩
 exact ⟨rfl,Or.inr ⟨by rw [HV.out]; decide,by rw [HV.out],BK0.out.since⟩⟩
end Go.Proofs.YtfeipbgnjainlaaGreat.K
/- (made by gencka.py) The contract of check.frame. -/
set_option maxHeartbeats 2000000
namespace Go.Proofs.YtfeipbgnjainlaaGreat.K
open Go Go.RowKit Go.Maps Go.Sort

theorem wrap_wide (z : Int) : Value.int .u64 (IntKind.u64.wrap z) = W64 (T.wide z) := by
 unfold W64
 rw [wrap_u64_int]
theorem frameC_any (x : T.Kn) (i : T.Ins) (w : World) : Calls Tryz.prog 96 #[knv x,insV i] w (Ret w (.int .i64 (T.frameAt x i))) := by
 obtain ⟨k,⟨lo,hi⟩⟩ := x
 unfold knv insV insL
 have BK0 := bk2 w [.int .u8 k,W64 lo,W64 hi] 113 [.int .u8 i.op,.bool i.narrow,.int .i64 i.dst,.int .i64 i.src,.bool i.useImm,.int .i64 i.off,.int .i64 i.imm,.int .i64 i.size] 31
 go_enter Tryz.func96,Tryz.ntmps96
 go_upto_region 1 with fail
 generalize w.heap.size = X at *
 refine wp_hid BK0 (fun w1 BK0 => ?_)
 obtain ⟨a0,a1,a2⟩ := BK0.out.q3 1 rfl
 obtain ⟨b0,b1,b2,b3,b4,b5,b6,b7⟩ := BK0.out.q8 0 rfl
 have hw : Value.int .u64 (IntKind.u64.wrap i.off) = W64 (T.wide i.off) := wrap_wide i.off
 have hcv := fun w (y : BitVec 64) => conv_W64_S64 (P := Tryz.prog) (src := 34) (dst := 2) (w := w) y Tryz.underlying34 Tryz.underlying2
 go_wp2
 go_ret
 exact ⟨rfl,BK0.out.since⟩
end Go.Proofs.YtfeipbgnjainlaaGreat.K
