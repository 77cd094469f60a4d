/- What all servers look at: TSpM -/
import Derived.Test.YtfeipbgnjainlaaGreatTw27
set_option linter.unusedVariables false
set_option linter.unusedSimpArgs false
/- (made by genif.py) The contract of span.If. -/
set_option maxRecDepth 100000
set_option maxHeartbeats 8000000
namespace Go.Proofs.YtfeipbgnjainlaaGreat.K
open Go Go.RowKit Go.Maps Go.Sort

theorem tmps19 (a b c x : Value) : (#[a,b,c] ++ ((Array.replicate 16 undef).setIfInBounds 3 x).setIfInBounds 0 x) = #[a,b,c,x,undef,undef,x,undef,undef,undef,undef,undef,undef,undef,undef,undef,undef,undef,undef] := by
 apply Array.toList_inj.1
 simp [List.replicate]
theorem catchI_idle (p q r : Addr) (w : World) :
  CallsD Tryz.prog 135 #[.pointer (some p),.pointer (some q),.pointer (some r)] .returning w fun e u' w' => e = .returned (.tuple #[]) ∧ u' = .returning ∧ w' = w := by
 refine callsD_of_wpS Tryz.func135 rfl fun c₀ cs hu => ?_
 apply wpS_seq
 apply wpS_region
 simp [wpOpsS,go_sem,recoverD,hu,Tryz.ntmps135,Exit.thenS]
 refine wpS_of_wp ?_
 rw [tmps19]
 go_wp2
 cases c₀
 simp_all [bodyPostS,results,Tryz.results135]
theorem catchI_panicking (A B M : Nat) (u v u2 v2 m : Value) (w : World) (hA : w.heap[A]? = some (.cells #[u,v] 111 (0,0))) (hB : w.heap[B]? = some (.cells #[u2,v2] 111 (0,0))) (hM : w.heap[M]? = some (.cells #[m] 4 (0,0))) (hAB : A ≠ B) (hAM : A ≠ M) (hBM : B ≠ M) :
  CallsD Tryz.prog 135 #[.pointer (some ⟨A,0,none⟩),.pointer (some ⟨B,0,none⟩),.pointer (some ⟨M,0,none⟩)] (.panicking nothingP) w fun e u' w' =>
   e = .returned (.tuple #[]) ∧ u' = .panicking [{ v := .iface 187 (.agg #[]),recovered := true }] ∧ w' = (((((w.alloc (.cells #[] 187)).setCell ⟨A,0,none⟩ (W64 0#64)).setCell ⟨A,1,none⟩ (W64 0#64)).setCell ⟨B,0,none⟩ (W64 0#64)).setCell ⟨B,1,none⟩ (W64 0#64)).setCell ⟨M,0,none⟩ (.bool false) := by
 have hta : ∀ w,(Instr.typeAssert (.iface 187 (.agg #[])) 20 187 true).run Tryz.prog w = .ok (.tuple #[.agg #[],.bool true]) w := fun _ => by kernel_rfl
 have S1 := Since.alloc (Below.refl w.heap.size w) (.cells #[] 187)
 have h1 := S1.at hA
 have h2 := S1.at hB
 have h3 := S1.at hM
 have a0 := block_cell (xs := [u,v]) (i := 0) h1 rfl
 have a1 := block_cell (xs := [u,v]) (i := 1) h1 rfl
 have b0 := block_cell (xs := [u2,v2]) (i := 0) h2 rfl
 have b1 := block_cell (xs := [u2,v2]) (i := 1) h2 rfl
 have m0 := block_cell (xs := [m]) (i := 0) h3 rfl
 have f0 := frozen_of_row _ A 0 _ _ h1
 have f1 := frozen_of_row _ A 1 _ _ h1
 have g0 := frozen_of_row _ B 0 _ _ h2
 have g1 := frozen_of_row _ B 1 _ _ h2
 have k0 := frozen_of_row _ M 0 _ _ h3
 have hBA := hAB.symm
 have hMA := hAM.symm
 have hMB := hBM.symm
 refine callsD_of_wpS Tryz.func135 rfl fun c₀ cs hu => ?_
 unfold nothingP at hu
 clear hA hB hM h1 h2 h3 S1
 apply wpS_seq
 apply wpS_region
 simp [wpOpsS,go_sem,recoverD,hu,Tryz.ntmps135,Exit.thenS]
 refine wpS_of_wp ?_
 rw [tmps19]
 go_wp2
 cases c₀
 simp_all [bodyPostS,results,Tryz.results135]
theorem if_four {w w' : World} {R1 R2 M : Nat} {a b c d : BitVec 64} {m : Value} {L : List Acc} (h : Bank w w' (boxAcc M 4 [m] :: boxAcc R2 111 [W64 c,W64 d] :: boxAcc R1 111 [W64 a,W64 b] :: L)) : w'.cell? ⟨R1,0,none⟩ = some (W64 a) ∧ w'.cell? ⟨R1,1,none⟩ = some (W64 b) ∧ w'.cell? ⟨R2,0,none⟩ = some (W64 c) ∧ w'.cell? ⟨R2,1,none⟩ = some (W64 d) := ⟨h.cell 2 rfl 0 rfl,h.cell 2 rfl 1 rfl,h.cell 1 rfl 0 rfl,h.cell 1 rfl 1 rfl⟩
theorem if_free {w w' : World} {R1 R2 M : Nat} {a b c d : BitVec 64} {m : Value} {L : List Acc} (h : Bank w w' (boxAcc M 4 [m] :: boxAcc R2 111 [W64 c,W64 d] :: boxAcc R1 111 [W64 a,W64 b] :: L)) : w'.frozen? ⟨R1,0,none⟩ = false ∧ w'.frozen? ⟨R1,1,none⟩ = false ∧ w'.frozen? ⟨R2,0,none⟩ = false ∧ w'.frozen? ⟨R2,1,none⟩ = false ∧ w'.frozen? ⟨M,0,none⟩ = false ∧ w'.cell? ⟨M,0,none⟩ = some m := ⟨h.free 2 rfl 0,h.free 2 rfl 1,h.free 1 rfl 0,h.free 1 rfl 1,h.free 0 rfl 0,h.cell 0 rfl 0 rfl⟩
theorem if_p1 {w w' : World} {R1 R2 M : Nat} {a b c d : BitVec 64} {m : Value} {L : List Acc} (h : Bank w w' (boxAcc M 4 [m] :: boxAcc R2 111 [W64 c,W64 d] :: boxAcc R1 111 [W64 a,W64 b] :: L)) : Bank w ((w'.setCell ⟨R1,0,none⟩ (W64 a)).setCell ⟨R1,1,none⟩ (W64 b)) (boxAcc M 4 [m] :: boxAcc R2 111 [W64 c,W64 d] :: boxAcc R1 111 [W64 a,W64 b] :: L) := (h.boxSet 2 rfl 0 (W64 a)).boxSet 2 rfl 1 (W64 b)
theorem if_p2 {w w' : World} {R1 R2 M : Nat} {a b c d : BitVec 64} {m : Value} {L : List Acc} (h : Bank w w' (boxAcc M 4 [m] :: boxAcc R2 111 [W64 c,W64 d] :: boxAcc R1 111 [W64 a,W64 b] :: L)) : Bank w ((w'.setCell ⟨R2,0,none⟩ (W64 c)).setCell ⟨R2,1,none⟩ (W64 d)) (boxAcc M 4 [m] :: boxAcc R2 111 [W64 c,W64 d] :: boxAcc R1 111 [W64 a,W64 b] :: L) := (h.boxSet 1 rfl 0 (W64 c)).boxSet 1 rfl 1 (W64 d)
theorem if_p3 {w w' : World} {R1 R2 M : Nat} {a b c d : BitVec 64} {m : Value} {L : List Acc} (h : Bank w w' (boxAcc M 4 [m] :: boxAcc R2 111 [W64 c,W64 d] :: boxAcc R1 111 [W64 a,W64 b] :: L)) : Bank w (w'.setCell ⟨M,0,none⟩ (.bool true)) (boxAcc M 4 [.bool true] :: boxAcc R2 111 [W64 c,W64 d] :: boxAcc R1 111 [W64 a,W64 b] :: L) := h.boxSet 0 rfl 0 (.bool true)
theorem if_d {w w' : World} {R1 R2 M : Nat} {a b c d : BitVec 64} {m : Value} {L : List Acc} (h : Bank w w' (boxAcc M 4 [m] :: boxAcc R2 111 [W64 c,W64 d] :: boxAcc R1 111 [W64 a,W64 b] :: L)) : w'.drew.cell? ⟨R1,0,none⟩ = some (W64 a) ∧ w'.drew.cell? ⟨R1,1,none⟩ = some (W64 b) ∧ w'.drew.cell? ⟨R2,0,none⟩ = some (W64 c) ∧ w'.drew.cell? ⟨R2,1,none⟩ = some (W64 d) := if_four h.drew
theorem if_k1 {w w' : World} {R1 R2 M : Nat} {a b c d : BitVec 64} {m : Value} {L : List Acc} (h : Bank w w' (boxAcc M 4 [m] :: boxAcc R2 111 [W64 c,W64 d] :: boxAcc R1 111 [W64 a,W64 b] :: L)) : ((w'.setCell ⟨R1,0,none⟩ (W64 a)).setCell ⟨R1,1,none⟩ (W64 b)).cell? ⟨R1,0,none⟩ = some (W64 a) ∧ ((w'.setCell ⟨R1,0,none⟩ (W64 a)).setCell ⟨R1,1,none⟩ (W64 b)).cell? ⟨R1,1,none⟩ = some (W64 b) ∧ ((w'.setCell ⟨R1,0,none⟩ (W64 a)).setCell ⟨R1,1,none⟩ (W64 b)).cell? ⟨R2,0,none⟩ = some (W64 c) ∧ ((w'.setCell ⟨R1,0,none⟩ (W64 a)).setCell ⟨R1,1,none⟩ (W64 b)).cell? ⟨R2,1,none⟩ = some (W64 d) := if_four (if_p1 h)
theorem if_k1d {w w' : World} {R1 R2 M : Nat} {a b c d : BitVec 64} {m : Value} {L : List Acc} (h : Bank w w' (boxAcc M 4 [m] :: boxAcc R2 111 [W64 c,W64 d] :: boxAcc R1 111 [W64 a,W64 b] :: L)) : ((w'.setCell ⟨R1,0,none⟩ (W64 a)).setCell ⟨R1,1,none⟩ (W64 b)).drew.cell? ⟨R1,0,none⟩ = some (W64 a) ∧ ((w'.setCell ⟨R1,0,none⟩ (W64 a)).setCell ⟨R1,1,none⟩ (W64 b)).drew.cell? ⟨R1,1,none⟩ = some (W64 b) ∧ ((w'.setCell ⟨R1,0,none⟩ (W64 a)).setCell ⟨R1,1,none⟩ (W64 b)).drew.cell? ⟨R2,0,none⟩ = some (W64 c) ∧ ((w'.setCell ⟨R1,0,none⟩ (W64 a)).setCell ⟨R1,1,none⟩ (W64 b)).drew.cell? ⟨R2,1,none⟩ = some (W64 d) := if_four (if_p1 h).drew
theorem if_k2 {w w' : World} {R1 R2 M : Nat} {a b c d : BitVec 64} {m : Value} {L : List Acc} (h : Bank w w' (boxAcc M 4 [m] :: boxAcc R2 111 [W64 c,W64 d] :: boxAcc R1 111 [W64 a,W64 b] :: L)) : ((((w'.setCell ⟨R1,0,none⟩ (W64 a)).setCell ⟨R1,1,none⟩ (W64 b)).setCell ⟨R2,0,none⟩ (W64 c)).setCell ⟨R2,1,none⟩ (W64 d)).cell? ⟨R1,0,none⟩ = some (W64 a) ∧ ((((w'.setCell ⟨R1,0,none⟩ (W64 a)).setCell ⟨R1,1,none⟩ (W64 b)).setCell ⟨R2,0,none⟩ (W64 c)).setCell ⟨R2,1,none⟩ (W64 d)).cell? ⟨R1,1,none⟩ = some (W64 b) ∧ ((((w'.setCell ⟨R1,0,none⟩ (W64 a)).setCell ⟨R1,1,none⟩ (W64 b)).setCell ⟨R2,0,none⟩ (W64 c)).setCell ⟨R2,1,none⟩ (W64 d)).cell? ⟨R2,0,none⟩ = some (W64 c) ∧ ((((w'.setCell ⟨R1,0,none⟩ (W64 a)).setCell ⟨R1,1,none⟩ (W64 b)).setCell ⟨R2,0,none⟩ (W64 c)).setCell ⟨R2,1,none⟩ (W64 d)).cell? ⟨R2,1,none⟩ = some (W64 d) := if_four (if_p2 (if_p1 h))
theorem if_k2d {w w' : World} {R1 R2 M : Nat} {a b c d : BitVec 64} {m : Value} {L : List Acc} (h : Bank w w' (boxAcc M 4 [m] :: boxAcc R2 111 [W64 c,W64 d] :: boxAcc R1 111 [W64 a,W64 b] :: L)) : ((((w'.setCell ⟨R1,0,none⟩ (W64 a)).setCell ⟨R1,1,none⟩ (W64 b)).setCell ⟨R2,0,none⟩ (W64 c)).setCell ⟨R2,1,none⟩ (W64 d)).drew.cell? ⟨R1,0,none⟩ = some (W64 a) ∧ ((((w'.setCell ⟨R1,0,none⟩ (W64 a)).setCell ⟨R1,1,none⟩ (W64 b)).setCell ⟨R2,0,none⟩ (W64 c)).setCell ⟨R2,1,none⟩ (W64 d)).drew.cell? ⟨R1,1,none⟩ = some (W64 b) ∧ ((((w'.setCell ⟨R1,0,none⟩ (W64 a)).setCell ⟨R1,1,none⟩ (W64 b)).setCell ⟨R2,0,none⟩ (W64 c)).setCell ⟨R2,1,none⟩ (W64 d)).drew.cell? ⟨R2,0,none⟩ = some (W64 c) ∧ ((((w'.setCell ⟨R1,0,none⟩ (W64 a)).setCell ⟨R1,1,none⟩ (W64 b)).setCell ⟨R2,0,none⟩ (W64 c)).setCell ⟨R2,1,none⟩ (W64 d)).drew.cell? ⟨R2,1,none⟩ = some (W64 d) := if_four (if_p2 (if_p1 h)).drew
theorem if_k3 {w w' : World} {R1 R2 M : Nat} {a b c d : BitVec 64} {m : Value} {L : List Acc} (h : Bank w w' (boxAcc M 4 [m] :: boxAcc R2 111 [W64 c,W64 d] :: boxAcc R1 111 [W64 a,W64 b] :: L)) : (((((w'.setCell ⟨R1,0,none⟩ (W64 a)).setCell ⟨R1,1,none⟩ (W64 b)).setCell ⟨R2,0,none⟩ (W64 c)).setCell ⟨R2,1,none⟩ (W64 d)).setCell ⟨M,0,none⟩ (.bool true)).cell? ⟨R1,0,none⟩ = some (W64 a) ∧ (((((w'.setCell ⟨R1,0,none⟩ (W64 a)).setCell ⟨R1,1,none⟩ (W64 b)).setCell ⟨R2,0,none⟩ (W64 c)).setCell ⟨R2,1,none⟩ (W64 d)).setCell ⟨M,0,none⟩ (.bool true)).cell? ⟨R1,1,none⟩ = some (W64 b) ∧ (((((w'.setCell ⟨R1,0,none⟩ (W64 a)).setCell ⟨R1,1,none⟩ (W64 b)).setCell ⟨R2,0,none⟩ (W64 c)).setCell ⟨R2,1,none⟩ (W64 d)).setCell ⟨M,0,none⟩ (.bool true)).cell? ⟨R2,0,none⟩ = some (W64 c) ∧ (((((w'.setCell ⟨R1,0,none⟩ (W64 a)).setCell ⟨R1,1,none⟩ (W64 b)).setCell ⟨R2,0,none⟩ (W64 c)).setCell ⟨R2,1,none⟩ (W64 d)).setCell ⟨M,0,none⟩ (.bool true)).cell? ⟨R2,1,none⟩ = some (W64 d) := if_four (if_p3 (if_p2 (if_p1 h)))
theorem if_k3d {w w' : World} {R1 R2 M : Nat} {a b c d : BitVec 64} {m : Value} {L : List Acc} (h : Bank w w' (boxAcc M 4 [m] :: boxAcc R2 111 [W64 c,W64 d] :: boxAcc R1 111 [W64 a,W64 b] :: L)) : (((((w'.setCell ⟨R1,0,none⟩ (W64 a)).setCell ⟨R1,1,none⟩ (W64 b)).setCell ⟨R2,0,none⟩ (W64 c)).setCell ⟨R2,1,none⟩ (W64 d)).setCell ⟨M,0,none⟩ (.bool true)).drew.cell? ⟨R1,0,none⟩ = some (W64 a) ∧ (((((w'.setCell ⟨R1,0,none⟩ (W64 a)).setCell ⟨R1,1,none⟩ (W64 b)).setCell ⟨R2,0,none⟩ (W64 c)).setCell ⟨R2,1,none⟩ (W64 d)).setCell ⟨M,0,none⟩ (.bool true)).drew.cell? ⟨R1,1,none⟩ = some (W64 b) ∧ (((((w'.setCell ⟨R1,0,none⟩ (W64 a)).setCell ⟨R1,1,none⟩ (W64 b)).setCell ⟨R2,0,none⟩ (W64 c)).setCell ⟨R2,1,none⟩ (W64 d)).setCell ⟨M,0,none⟩ (.bool true)).drew.cell? ⟨R2,0,none⟩ = some (W64 c) ∧ (((((w'.setCell ⟨R1,0,none⟩ (W64 a)).setCell ⟨R1,1,none⟩ (W64 b)).setCell ⟨R2,0,none⟩ (W64 c)).setCell ⟨R2,1,none⟩ (W64 d)).setCell ⟨M,0,none⟩ (.bool true)).drew.cell? ⟨R2,1,none⟩ = some (W64 d) := if_four (if_p3 (if_p2 (if_p1 h))).drew
/-- what If answers -/
def ifV (op : Int) (nr yes : Bool) (s t : T.Sp) : T.Sp × T.Sp × Bool := match T.sif op nr yes s t with
 | some (a,b) => (a,b,true)
 | none => (⟨0#64,0#64⟩,⟨0#64,0#64⟩,false)
def ifVal (v : T.Sp × T.Sp × Bool) : Value := .tuple #[spv v.1,spv v.2.1,.bool v.2.2]
theorem sif_ask {op : Int} {nr yes : Bool} {s t : T.Sp} (ho : 17 ≤ op ∧ op ≤ 27) (hs : s.right = true) (ht : t.right = true) : T.sif op nr yes s t = ((T.Wk.over nr s t).ask op yes).map fun p => (if (T.Wk.over nr s t).most.ult s.hi then s else p.1,if (T.Wk.over nr s t).most.ult t.hi then t else p.2) := by
 unfold T.sif
 exact if_pos ⟨ho.1,ho.2,hs,ht⟩
theorem spIf_right (op : Int) (nr yes : Bool) (s t : T.Sp) (w : World) (hop : 17 ≤ op ∧ op ≤ 27) (hs : s.right = true) (ht : t.right = true) : Calls Tryz.prog 104 #[.int .u8 op,.bool nr,.bool yes,spv s,spv t] w (Ret w (ifVal (ifV op nr yes s t))) := by
 have hmf : ∀ (fn : Fn) (first cap : Array Value) (w : World),(Instr.makeFunc fn first cap).run Tryz.prog w = .ok (.func fn first cap) w := fun _ _ _ _ => rfl
 obtain ⟨lo,hi⟩ := s
 obtain ⟨lo2,hi2⟩ := t
 have HSI := Lib.hid (sif_ask (nr := nr) (yes := yes) hop hs ht)
 have ho1 : ¬ op < 17 := by omega
 have ho2 : ¬ 27 < op := by omega
 have HA := Lib.hid (fun q x => wask_any x op yes hop q)
 unfold wkv at HA
 have RA := Lib.hid hs
 have RB := Lib.hid ht
 clear hop hs ht
 unfold spv
 have BK0 := (((((Bank.nil (Below.refl w.heap.size w)).boxL [W64 lo,W64 hi] 111 (by simp)).boxL [W64 lo2,W64 hi2] 111 (by simp)).boxL [W64 0#64,W64 0#64] 111 (by simp)).boxL [W64 0#64,W64 0#64] 111 (by simp)).boxL [.bool false] 4 (by simp)
 simp only [World.size_alloc] at BK0
 have BK := Lib.hid BK0
 clear BK0
 go_enter_defers Tryz.func104,Tryz.ntmps104
 go_upto_region 1 with fail
 generalize w.heap.size = X at *
 refine wp_hid BK (fun w1 BK => ?_)
 obtain ⟨a0,a1⟩ := BK.out.q2 4 rfl
 go_wp2_with fail
 refine (spRight_agg lo hi _).mono ?_
 rintro e w2 ⟨rfl,hs⟩
 clear a0 a1
 rw [RA.out]
 have BK2 := Lib.hid (BK.out.call hs)
 clear hs BK
 obtain ⟨b0,b1⟩ := BK2.out.q2 3 rfl
 go_wp2_with fail
 refine (spRight_agg lo2 hi2 _).mono ?_
 rintro e w3 ⟨rfl,hs⟩
 clear b0 b1
 rw [RB.out]
 have BK3 := Lib.hid (BK2.out.call hs)
 clear hs BK2
 obtain ⟨a0,a1⟩ := BK3.out.q2 4 rfl
 obtain ⟨b0,b1⟩ := BK3.out.q2 3 rfl
 go_wp2_with fail
 refine (spover_agg nr lo hi lo2 hi2 _).mono ?_
 rintro e w4 ⟨rfl,hs⟩
 have BK4 := Lib.hid (BK3.out.call hs)
 clear hs BK3 a0 a1 b0 b1
 have HSJ := HSI.out
 clear HSI
 generalize T.Wk.over nr ⟨lo,hi⟩ ⟨lo2,hi2⟩ = x at *
 have HSI := Lib.hid HSJ
 clear HSJ
 unfold wkv
 go_upto_region 5 with fail
 change Code.wp _ _ _ _ (w4.alloc (.cells #[W64 x.a.lo,W64 x.a.hi,W64 x.b.lo,W64 x.b.hi,.bool x.narrow,W64 x.most,W64 x.size] 190))
 have BK5 := Lib.hid (BK4.out.boxL [W64 x.a.lo,W64 x.a.hi,W64 x.b.lo,W64 x.b.hi,.bool x.narrow,W64 x.most,W64 x.size] 190 (by simp))
 obtain ⟨D,hD⟩ : ∃ D,D = w4.heap.size := ⟨_,rfl⟩
 rw [← hD] at BK5 ⊢
 generalize w4.alloc (.cells #[W64 x.a.lo,W64 x.a.hi,W64 x.b.lo,W64 x.b.hi,.bool x.narrow,W64 x.most,W64 x.size] 190) = w5 at *
 clear hD BK4
 obtain ⟨c0,c1,c2,c3,c4,c5,c6⟩ := BK5.out.q7 0 rfl
 go_wp2_with fail
 refine (HA.out _ x).mono ?_
 rintro e w6 (⟨⟨⟨a,b⟩,⟨c,d⟩⟩,hr,rfl,hs⟩ | ⟨hr,rfl,hs⟩)
 case inr =>
  have HIV := Lib.hid (show ifV op nr yes ⟨lo,hi⟩ ⟨lo2,hi2⟩ = (⟨0#64,0#64⟩,⟨0#64,0#64⟩,false) by unfold ifV; rw [HSI.out,hr]; rfl)
  have BK6 := Lib.hid (BK5.out.call hs)
  clear hs hr BK5 c0 c1 c2 c3 c4 c5 c6
  have h1 := Lib.hid (BK6.out.boxAt 3 rfl).2
  have h2 := Lib.hid (BK6.out.boxAt 2 rfl).2
  have h3 := Lib.hid (BK6.out.boxAt 1 rfl).2
  go_wp2
  refine leaves_cons (f := 135) (args := #[.pointer (some ⟨X + 1 + 1,0,none⟩),.pointer (some ⟨X + 1 + 1 + 1,0,none⟩),.pointer (some ⟨X + 1 + 1 + 1 + 1,0,none⟩)]) (by simp) (by simp [go_sem]) ?_
  refine (catchI_panicking _ _ _ _ _ _ _ _ _ h1.out h2.out h3.out (by omega) (by omega) (by omega)).mono ?_
  rintro e u' w'' ⟨rfl,rfl,rfl⟩
  have HFIN := Lib.hid ((((((BK6.out.alloc (.cells #[] 187)).boxSet 3 rfl 0 (W64 0#64)).boxSet 3 rfl 1 (W64 0#64)).boxSet 2 rfl 0 (W64 0#64)).boxSet 2 rfl 1 (W64 0#64)).boxSet 1 rfl 0 (.bool false))
  obtain ⟨r0,r1⟩ := HFIN.out.q2 3 rfl
  obtain ⟨r2,r3⟩ := HFIN.out.q2 2 rfl
  have r4 := HFIN.out.cell 1 rfl 0 rfl
  exact ⟨.tuple #[.agg #[W64 0#64,W64 0#64],.agg #[W64 0#64,W64 0#64],.bool false],by simp [results,Tryz.results104,go_sem,r0,r1,r2,r3,r4],⟨by rw [HIV.out]; rfl,HFIN.out.since⟩⟩
 case inl =>
  have HRR := Lib.hid hr
  have BK6 := Lib.hid (BK5.out.call hs)
  clear hs hr BK5 c0 c1 c2 c3 c4 c5 c6
  have c5 := BK6.out.cell 0 rfl 5 rfl
  obtain ⟨a0,a1⟩ := BK6.out.q2 5 rfl
  obtain ⟨b0,b1⟩ := BK6.out.q2 4 rfl
  obtain ⟨d0,d1⟩ := BK6.out.q2 3 rfl
  obtain ⟨d2,d3⟩ := BK6.out.q2 2 rfl
  have f0 := BK6.out.free 3 rfl 0
  have f1 := BK6.out.free 3 rfl 1
  have f2 := BK6.out.free 2 rfl 0
  have f3 := BK6.out.free 2 rfl 1
  have n1 : X + 1 + 1 ≠ D := BK6.out.ne (i := 3) (j := 0) rfl rfl (by decide)
  have n2 : X + 1 + 1 + 1 ≠ D := BK6.out.ne (i := 2) (j := 0) rfl rfl (by decide)
  have n3 := n1.symm
  have n4 := n2.symm
  unfold spv
  dsimp only
  cases m1 : decide (x.most < hi) <;> cases m2 : decide (x.most < hi2)
  ·have HIV := Lib.hid (show ifV op nr yes ⟨lo,hi⟩ ⟨lo2,hi2⟩ = (⟨a,b⟩,⟨c,d⟩,true) by unfold ifV; rw [HSI.out,HRR.out]; simp only [Option.map]; rw [show x.most.ult hi = false from m1,show x.most.ult hi2 = false from m2]; rfl)
   go_upto_region 10 with fail
   change Code.wp _ _ _ _ (((((w6.setCell ⟨X + 1 + 1,0,none⟩ (W64 a)).setCell ⟨X + 1 + 1,1,none⟩ (W64 b)).setCell ⟨X + 1 + 1 + 1,0,none⟩ (W64 c)).setCell ⟨X + 1 + 1 + 1,1,none⟩ (W64 d)))
   have BK7 : Bank w (((((w6.setCell ⟨X + 1 + 1,0,none⟩ (W64 a)).setCell ⟨X + 1 + 1,1,none⟩ (W64 b)).setCell ⟨X + 1 + 1 + 1,0,none⟩ (W64 c)).setCell ⟨X + 1 + 1 + 1,1,none⟩ (W64 d))) [boxAcc D 190 [W64 x.a.lo,W64 x.a.hi,W64 x.b.lo,W64 x.b.hi,.bool x.narrow,W64 x.most,W64 x.size],boxAcc (X + 1 + 1 + 1 + 1) 4 [.bool false],boxAcc (X + 1 + 1 + 1) 111 [W64 c,W64 d],boxAcc (X + 1 + 1) 111 [W64 a,W64 b],boxAcc (X + 1) 111 [W64 lo2,W64 hi2],boxAcc X 111 [W64 lo,W64 hi]] := ((((BK6.out.boxSet 3 rfl 0 (W64 a)).boxSet 3 rfl 1 (W64 b)).boxSet 2 rfl 0 (W64 c)).boxSet 2 rfl 1 (W64 d))
   have BK8 := Lib.hid (BK7.sub (List.sublist_cons_self _ _))
   generalize ((((w6.setCell ⟨X + 1 + 1,0,none⟩ (W64 a)).setCell ⟨X + 1 + 1,1,none⟩ (W64 b)).setCell ⟨X + 1 + 1 + 1,0,none⟩ (W64 c)).setCell ⟨X + 1 + 1 + 1,1,none⟩ (W64 d)) = w7 at *
   clear BK7 BK6 c5 a0 a1 b0 b1 d0 d1 d2 d3 f0 f1 f2 f3
   obtain ⟨d0,d1,d2,d3⟩ := if_four BK8.out
   obtain ⟨f0,f1,f2,f3,f4,d4⟩ := if_free BK8.out
   go_region_held3 (fun w' => w'.cell? ⟨X + 1 + 1,0,none⟩ = some (W64 a) ∧ w'.cell? ⟨X + 1 + 1,1,none⟩ = some (W64 b) ∧ w'.cell? ⟨X + 1 + 1 + 1,0,none⟩ = some (W64 c) ∧ w'.cell? ⟨X + 1 + 1 + 1,1,none⟩ = some (W64 d))
    (first
     | with_reducible exact if_four BK8.out
     | with_reducible exact if_d BK8.out
     | with_reducible exact if_k3 BK8.out
     | with_reducible exact if_k3d BK8.out
     | with_reducible exact if_k2 BK8.out
     | with_reducible exact if_k2d BK8.out
     | with_reducible exact if_k1 BK8.out
     | with_reducible exact if_k1d BK8.out
     | fail "keep")
    (first | fail "arm")
   all_goals
    have HFIN := Lib.hid (if_p3 (if_p2 (if_p1 BK8.out)))
    go_wp2_with fail
    refine leaves_cons (f := 135) (args := #[.pointer (some ⟨X + 1 + 1,0,none⟩),.pointer (some ⟨X + 1 + 1 + 1,0,none⟩),.pointer (some ⟨X + 1 + 1 + 1 + 1,0,none⟩)]) (by simp) (by simp [go_sem]) ?_
    refine (catchI_idle _ _ _ _).mono ?_
    rintro e u' w'' ⟨rfl,rfl,rfl⟩
    obtain ⟨r0,r1⟩ := HFIN.out.q2 2 rfl
    obtain ⟨r2,r3⟩ := HFIN.out.q2 1 rfl
    have r4 := HFIN.out.cell 0 rfl 0 rfl
    exact ⟨.tuple #[.agg #[W64 a,W64 b],.agg #[W64 c,W64 d],.bool true],by simp [results,Tryz.results104,go_sem,r0,r1,r2,r3,r4],⟨by rw [HIV.out]; rfl,by first | exact HFIN.out.since | exact HFIN.out.since.drew⟩⟩
  ·have HIV := Lib.hid (show ifV op nr yes ⟨lo,hi⟩ ⟨lo2,hi2⟩ = (⟨a,b⟩,⟨lo2,hi2⟩,true) by unfold ifV; rw [HSI.out,HRR.out]; simp only [Option.map]; rw [show x.most.ult hi = false from m1,show x.most.ult hi2 = true from m2]; rfl)
   go_upto_region 10 with fail
   change Code.wp _ _ _ _ (((((((w6.setCell ⟨X + 1 + 1,0,none⟩ (W64 a)).setCell ⟨X + 1 + 1,1,none⟩ (W64 b)).setCell ⟨X + 1 + 1 + 1,0,none⟩ (W64 c)).setCell ⟨X + 1 + 1 + 1,1,none⟩ (W64 d)).setCell ⟨X + 1 + 1 + 1,0,none⟩ (W64 lo2)).setCell ⟨X + 1 + 1 + 1,1,none⟩ (W64 hi2)))
   have BK7 : Bank w (((((((w6.setCell ⟨X + 1 + 1,0,none⟩ (W64 a)).setCell ⟨X + 1 + 1,1,none⟩ (W64 b)).setCell ⟨X + 1 + 1 + 1,0,none⟩ (W64 c)).setCell ⟨X + 1 + 1 + 1,1,none⟩ (W64 d)).setCell ⟨X + 1 + 1 + 1,0,none⟩ (W64 lo2)).setCell ⟨X + 1 + 1 + 1,1,none⟩ (W64 hi2))) [boxAcc D 190 [W64 x.a.lo,W64 x.a.hi,W64 x.b.lo,W64 x.b.hi,.bool x.narrow,W64 x.most,W64 x.size],boxAcc (X + 1 + 1 + 1 + 1) 4 [.bool false],boxAcc (X + 1 + 1 + 1) 111 [W64 lo2,W64 hi2],boxAcc (X + 1 + 1) 111 [W64 a,W64 b],boxAcc (X + 1) 111 [W64 lo2,W64 hi2],boxAcc X 111 [W64 lo,W64 hi]] := ((((((BK6.out.boxSet 3 rfl 0 (W64 a)).boxSet 3 rfl 1 (W64 b)).boxSet 2 rfl 0 (W64 c)).boxSet 2 rfl 1 (W64 d)).boxSet 2 rfl 0 (W64 lo2)).boxSet 2 rfl 1 (W64 hi2))
   have BK8 := Lib.hid (BK7.sub (List.sublist_cons_self _ _))
   generalize ((((((w6.setCell ⟨X + 1 + 1,0,none⟩ (W64 a)).setCell ⟨X + 1 + 1,1,none⟩ (W64 b)).setCell ⟨X + 1 + 1 + 1,0,none⟩ (W64 c)).setCell ⟨X + 1 + 1 + 1,1,none⟩ (W64 d)).setCell ⟨X + 1 + 1 + 1,0,none⟩ (W64 lo2)).setCell ⟨X + 1 + 1 + 1,1,none⟩ (W64 hi2)) = w7 at *
   clear BK7 BK6 c5 a0 a1 b0 b1 d0 d1 d2 d3 f0 f1 f2 f3
   obtain ⟨d0,d1,d2,d3⟩ := if_four BK8.out
   obtain ⟨f0,f1,f2,f3,f4,d4⟩ := if_free BK8.out
   go_region_held3 (fun w' => w'.cell? ⟨X + 1 + 1,0,none⟩ = some (W64 a) ∧ w'.cell? ⟨X + 1 + 1,1,none⟩ = some (W64 b) ∧ w'.cell? ⟨X + 1 + 1 + 1,0,none⟩ = some (W64 lo2) ∧ w'.cell? ⟨X + 1 + 1 + 1,1,none⟩ = some (W64 hi2))
    (first
     | with_reducible exact if_four BK8.out
     | with_reducible exact if_d BK8.out
     | with_reducible exact if_k3 BK8.out
     | with_reducible exact if_k3d BK8.out
     | with_reducible exact if_k2 BK8.out
     | with_reducible exact if_k2d BK8.out
     | with_reducible exact if_k1 BK8.out
     | with_reducible exact if_k1d BK8.out
     | fail "keep")
    (first | fail "arm")
   all_goals
    have HFIN := Lib.hid (if_p3 (if_p2 (if_p1 BK8.out)))
    go_wp2_with fail
    refine leaves_cons (f := 135) (args := #[.pointer (some ⟨X + 1 + 1,0,none⟩),.pointer (some ⟨X + 1 + 1 + 1,0,none⟩),.pointer (some ⟨X + 1 + 1 + 1 + 1,0,none⟩)]) (by simp) (by simp [go_sem]) ?_
    refine (catchI_idle _ _ _ _).mono ?_
    rintro e u' w'' ⟨rfl,rfl,rfl⟩
    obtain ⟨r0,r1⟩ := HFIN.out.q2 2 rfl
    obtain ⟨r2,r3⟩ := HFIN.out.q2 1 rfl
    have r4 := HFIN.out.cell 0 rfl 0 rfl
    exact ⟨.tuple #[.agg #[W64 a,W64 b],.agg #[W64 lo2,W64 hi2],.bool true],by simp [results,Tryz.results104,go_sem,r0,r1,r2,r3,r4],⟨by rw [HIV.out]; rfl,by first | exact HFIN.out.since | exact HFIN.out.since.drew⟩⟩
  ·have HIV := Lib.hid (show ifV op nr yes ⟨lo,hi⟩ ⟨lo2,hi2⟩ = (⟨lo,hi⟩,⟨c,d⟩,true) by unfold ifV; rw [HSI.out,HRR.out]; simp only [Option.map]; rw [show x.most.ult hi = true from m1,show x.most.ult hi2 = false from m2]; rfl)
   go_upto_region 10 with fail
   change Code.wp _ _ _ _ (((((((w6.setCell ⟨X + 1 + 1,0,none⟩ (W64 a)).setCell ⟨X + 1 + 1,1,none⟩ (W64 b)).setCell ⟨X + 1 + 1 + 1,0,none⟩ (W64 c)).setCell ⟨X + 1 + 1 + 1,1,none⟩ (W64 d)).setCell ⟨X + 1 + 1,0,none⟩ (W64 lo)).setCell ⟨X + 1 + 1,1,none⟩ (W64 hi)))
   have BK7 : Bank w (((((((w6.setCell ⟨X + 1 + 1,0,none⟩ (W64 a)).setCell ⟨X + 1 + 1,1,none⟩ (W64 b)).setCell ⟨X + 1 + 1 + 1,0,none⟩ (W64 c)).setCell ⟨X + 1 + 1 + 1,1,none⟩ (W64 d)).setCell ⟨X + 1 + 1,0,none⟩ (W64 lo)).setCell ⟨X + 1 + 1,1,none⟩ (W64 hi))) [boxAcc D 190 [W64 x.a.lo,W64 x.a.hi,W64 x.b.lo,W64 x.b.hi,.bool x.narrow,W64 x.most,W64 x.size],boxAcc (X + 1 + 1 + 1 + 1) 4 [.bool false],boxAcc (X + 1 + 1 + 1) 111 [W64 c,W64 d],boxAcc (X + 1 + 1) 111 [W64 lo,W64 hi],boxAcc (X + 1) 111 [W64 lo2,W64 hi2],boxAcc X 111 [W64 lo,W64 hi]] := ((((((BK6.out.boxSet 3 rfl 0 (W64 a)).boxSet 3 rfl 1 (W64 b)).boxSet 2 rfl 0 (W64 c)).boxSet 2 rfl 1 (W64 d)).boxSet 3 rfl 0 (W64 lo)).boxSet 3 rfl 1 (W64 hi))
   have BK8 := Lib.hid (BK7.sub (List.sublist_cons_self _ _))
   generalize ((((((w6.setCell ⟨X + 1 + 1,0,none⟩ (W64 a)).setCell ⟨X + 1 + 1,1,none⟩ (W64 b)).setCell ⟨X + 1 + 1 + 1,0,none⟩ (W64 c)).setCell ⟨X + 1 + 1 + 1,1,none⟩ (W64 d)).setCell ⟨X + 1 + 1,0,none⟩ (W64 lo)).setCell ⟨X + 1 + 1,1,none⟩ (W64 hi)) = w7 at *
   clear BK7 BK6 c5 a0 a1 b0 b1 d0 d1 d2 d3 f0 f1 f2 f3
   obtain ⟨d0,d1,d2,d3⟩ := if_four BK8.out
   obtain ⟨f0,f1,f2,f3,f4,d4⟩ := if_free BK8.out
   go_region_held3 (fun w' => w'.cell? ⟨X + 1 + 1,0,none⟩ = some (W64 lo) ∧ w'.cell? ⟨X + 1 + 1,1,none⟩ = some (W64 hi) ∧ w'.cell? ⟨X + 1 + 1 + 1,0,none⟩ = some (W64 c) ∧ w'.cell? ⟨X + 1 + 1 + 1,1,none⟩ = some (W64 d))
    (first
     | with_reducible exact if_four BK8.out
     | with_reducible exact if_d BK8.out
     | with_reducible exact if_k3 BK8.out
     | with_reducible exact if_k3d BK8.out
     | with_reducible exact if_k2 BK8.out
     | with_reducible exact if_k2d BK8.out
     | with_reducible exact if_k1 BK8.out
     | with_reducible exact if_k1d BK8.out
     | fail "keep")
    (first | fail "arm")
   all_goals
    have HFIN := Lib.hid (if_p3 (if_p2 (if_p1 BK8.out)))
    go_wp2_with fail
    refine leaves_cons (f := 135) (args := #[.pointer (some ⟨X + 1 + 1,0,none⟩),.pointer (some ⟨X + 1 + 1 + 1,0,none⟩),.pointer (some ⟨X + 1 + 1 + 1 + 1,0,none⟩)]) (by simp) (by simp [go_sem]) ?_
    refine (catchI_idle _ _ _ _).mono ?_
    rintro e u' w'' ⟨rfl,rfl,rfl⟩
    obtain ⟨r0,r1⟩ := HFIN.out.q2 2 rfl
    obtain ⟨r2,r3⟩ := HFIN.out.q2 1 rfl
    have r4 := HFIN.out.cell 0 rfl 0 rfl
    exact ⟨.tuple #[.agg #[W64 lo,W64 hi],.agg #[W64 c,W64 d],.bool true],by simp [results,Tryz.results104,go_sem,r0,r1,r2,r3,r4],⟨by rw [HIV.out]; rfl,by first | exact HFIN.out.since | exact HFIN.out.since.drew⟩⟩
  ·have HIV := Lib.hid (show ifV op nr yes ⟨lo,hi⟩ ⟨lo2,hi2⟩ = (⟨lo,hi⟩,⟨lo2,hi2⟩,true) by unfold ifV; rw [HSI.out,HRR.out]; simp only [Option.map]; rw [show x.most.ult hi = true from m1,show x.most.ult hi2 = true from m2]; rfl)
   go_upto_region 10 with fail
   change Code.wp _ _ _ _ (((((((((w6.setCell ⟨X + 1 + 1,0,none⟩ (W64 a)).setCell ⟨X + 1 + 1,1,none⟩ (W64 b)).setCell ⟨X + 1 + 1 + 1,0,none⟩ (W64 c)).setCell ⟨X + 1 + 1 + 1,1,none⟩ (W64 d)).setCell ⟨X + 1 + 1,0,none⟩ (W64 lo)).setCell ⟨X + 1 + 1,1,none⟩ (W64 hi)).setCell ⟨X + 1 + 1 + 1,0,none⟩ (W64 lo2)).setCell ⟨X + 1 + 1 + 1,1,none⟩ (W64 hi2)))
   have BK7 : Bank w (((((((((w6.setCell ⟨X + 1 + 1,0,none⟩ (W64 a)).setCell ⟨X + 1 + 1,1,none⟩ (W64 b)).setCell ⟨X + 1 + 1 + 1,0,none⟩ (W64 c)).setCell ⟨X + 1 + 1 + 1,1,none⟩ (W64 d)).setCell ⟨X + 1 + 1,0,none⟩ (W64 lo)).setCell ⟨X + 1 + 1,1,none⟩ (W64 hi)).setCell ⟨X + 1 + 1 + 1,0,none⟩ (W64 lo2)).setCell ⟨X + 1 + 1 + 1,1,none⟩ (W64 hi2))) [boxAcc D 190 [W64 x.a.lo,W64 x.a.hi,W64 x.b.lo,W64 x.b.hi,.bool x.narrow,W64 x.most,W64 x.size],boxAcc (X + 1 + 1 + 1 + 1) 4 [.bool false],boxAcc (X + 1 + 1 + 1) 111 [W64 lo2,W64 hi2],boxAcc (X + 1 + 1) 111 [W64 lo,W64 hi],boxAcc (X + 1) 111 [W64 lo2,W64 hi2],boxAcc X 111 [W64 lo,W64 hi]] := ((((((((BK6.out.boxSet 3 rfl 0 (W64 a)).boxSet 3 rfl 1 (W64 b)).boxSet 2 rfl 0 (W64 c)).boxSet 2 rfl 1 (W64 d)).boxSet 3 rfl 0 (W64 lo)).boxSet 3 rfl 1 (W64 hi)).boxSet 2 rfl 0 (W64 lo2)).boxSet 2 rfl 1 (W64 hi2))
   have BK8 := Lib.hid (BK7.sub (List.sublist_cons_self _ _))
   generalize ((((((((w6.setCell ⟨X + 1 + 1,0,none⟩ (W64 a)).setCell ⟨X + 1 + 1,1,none⟩ (W64 b)).setCell ⟨X + 1 + 1 + 1,0,none⟩ (W64 c)).setCell ⟨X + 1 + 1 + 1,1,none⟩ (W64 d)).setCell ⟨X + 1 + 1,0,none⟩ (W64 lo)).setCell ⟨X + 1 + 1,1,none⟩ (W64 hi)).setCell ⟨X + 1 + 1 + 1,0,none⟩ (W64 lo2)).setCell ⟨X + 1 + 1 + 1,1,none⟩ (W64 hi2)) = w7 at *
   clear BK7 BK6 c5 a0 a1 b0 b1 d0 d1 d2 d3 f0 f1 f2 f3
   obtain ⟨d0,d1,d2,d3⟩ := if_four BK8.out
   obtain ⟨f0,f1,f2,f3,f4,d4⟩ := if_free BK8.out
   go_region_held3 (fun w' => w'.cell? ⟨X + 1 + 1,0,none⟩ = some (W64 lo) ∧ w'.cell? ⟨X + 1 + 1,1,none⟩ = some (W64 hi) ∧ w'.cell? ⟨X + 1 + 1 + 1,0,none⟩ = some (W64 lo2) ∧ w'.cell? ⟨X + 1 + 1 + 1,1,none⟩ = some (W64 hi2))
    (first
     | with_reducible exact if_four BK8.out
     | with_reducible exact if_d BK8.out
     | with_reducible exact if_k3 BK8.out
     | with_reducible exact if_k3d BK8.out
     | with_reducible exact if_k2 BK8.out
     | with_reducible exact if_k2d BK8.out
     | with_reducible exact if_k1 BK8.out
     | with_reducible exact if_k1d BK8.out
     | fail "keep")
    (first | fail "arm")
   all_goals
    have HFIN := Lib.hid (if_p3 (if_p2 (if_p1 BK8.out)))
    go_wp2_with fail
    refine leaves_cons (f := 135) (args := #[.pointer (some ⟨X + 1 + 1,0,none⟩),.pointer (some ⟨X + 1 + 1 + 1,0,none⟩),.pointer (some ⟨X + 1 + 1 + 1 + 1,0,none⟩)]) (by simp) (by simp [go_sem]) ?_
    refine (catchI_idle _ _ _ _).mono ?_
    rintro e u' w'' ⟨rfl,rfl,rfl⟩
    obtain ⟨r0,r1⟩ := HFIN.out.q2 2 rfl
    obtain ⟨r2,r3⟩ := HFIN.out.q2 1 rfl
    have r4 := HFIN.out.cell 0 rfl 0 rfl
    exact ⟨.tuple #[.agg #[W64 lo,W64 hi],.agg #[W64 lo2,W64 hi2],.bool true],by simp [results,Tryz.results104,go_sem,r0,r1,r2,r3,r4],⟨by rw [HIV.out]; rfl,by first | exact HFIN.out.since | exact HFIN.out.since.drew⟩⟩
end Go.Proofs.YtfeipbgnjainlaaGreat.K
