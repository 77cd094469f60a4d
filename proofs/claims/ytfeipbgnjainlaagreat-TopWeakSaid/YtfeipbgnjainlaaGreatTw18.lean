/- What all servers look at: TSrt, TSpE, TSpF, TSpO -/
import Derived.Test.YtfeipbgnjainlaaGreatTw3
import Derived.Test.YtfeipbgnjainlaaGreatTw6
import Derived.Test.YtfeipbgnjainlaaGreatTw17
import Derived.Deep.DeepCutAuto
import Derived.Laws.Pointers
set_option linter.unusedVariables false
set_option linter.unusedSimpArgs false
/- slices.Sort and slices.Compact where nothing moves. -/
namespace Go.Proofs.YtfeipbgnjainlaaGreat.K
open Go Go.RowKit Go.Maps Go.Sort

theorem holds_ahead {w : World} {blk off n : Nat} {d : Array Int} (h : Holds (Value.int .i64) w blk off d) : Holds (Value.int .i64) (Sort.ahead w n) blk off d := h
theorem since_ahead (w : World) (n : Nat) (os : Array Obj) : Since w (grow (Sort.ahead w n) os) :=
 ⟨rfl,rfl,rfl,by show w.heap.size ≤ (w.heap ++ os).size; rw [Array.size_append]; omega,fun _ hj => Sort.heap_grow_old (Sort.ahead w n) os hj⟩
theorem since_ahead0 (w : World) (n : Nat) : Since w (Sort.ahead w n) := ⟨rfl,rfl,rfl,Nat.le_refl _,fun _ _ => rfl⟩
theorem sort_sorted (blk off cap : Nat) (zs : List Int) (w : World) (hH : Holds (Value.int .i64) w blk off zs.toArray) (hblk : blk < w.heap.size) (hsz : zs.length < 4611686018427387904) (hs : zs.mergeSort (fun x y => decide (x ≤ y)) = zs) :
  Calls Tryz.prog 73 #[.slice (some ⟨blk,off,none⟩) zs.length cap] w (Ret w (.tuple #[])) := by
 refine (Tryz.slices_Sort_int blk off cap zs w hH hblk hsz).mono ?_
 rintro e w' ⟨rfl,n,os,rfl⟩
 refine ⟨rfl,?_⟩
 rw [hs,putRow_self _ _ _ _ _ (holds_ahead hH)]
 exact since_ahead w n os
theorem compact_self (blk off cap : Nat) (zs : List Int) (w : World) (hH : Holds (Value.int .i64) w blk off zs.toArray) (hsz : zs.length ≤ 9223372036854775807) (hcap : zs.length ≤ cap) (hs : Lib.compact zs = zs) :
  Calls Tryz.prog 74 #[.slice (some ⟨blk,off,none⟩) zs.length cap] w (Ret w (.slice (some ⟨blk,off,none⟩) zs.length cap)) := by
 refine (Tryz.slices_Compact_int blk off cap zs w hH hsz hcap).mono ?_
 rintro e w' ⟨rfl,n,rfl⟩
 rw [hs,Nat.sub_self,List.replicate_zero,List.append_nil,putRow_self _ _ _ _ _ (holds_ahead hH)]
 exact ⟨rfl,since_ahead0 w n⟩
end Go.Proofs.YtfeipbgnjainlaaGreat.K
/- (made by genspdo.py) The contracts of span.rules and span.Do. -/
set_option maxRecDepth 100000
set_option maxHeartbeats 4000000
namespace Go.Proofs.YtfeipbgnjainlaaGreat.K
open Go Go.RowKit Go.Maps Go.Sort

/-- the rules' table -/
def ruleL : List (Int × Value) := [(1,fnC 200 #[]),(2,fnC 201 #[]),(3,fnC 202 #[]),(4,fnC 203 #[]),(5,fnC 204 #[]),(6,fnC 205 #[]),(7,fnC 206 #[]),(8,fnC 207 #[]),(9,fnC 208 #[]),(10,fnC 209 #[]),(11,fnC 210 #[]),(12,fnC 211 #[]),(13,fnC 212 #[])]
theorem rules_any (w : World) : Calls Tryz.prog 185 #[] w fun e w' => e = .returned (.map (some w.heap.size)) ∧ w' = w.alloc (.map (mes ruleL) 13) := by
 have ht := Tryz.underlying222
 have hk := Tryz.underlying29
 obtain ⟨v1,hv1⟩ : ∃ v,v = fnC 200 #[] := ⟨_,rfl⟩
 obtain ⟨v2,hv2⟩ : ∃ v,v = fnC 201 #[] := ⟨_,rfl⟩
 obtain ⟨v3,hv3⟩ : ∃ v,v = fnC 202 #[] := ⟨_,rfl⟩
 obtain ⟨v4,hv4⟩ : ∃ v,v = fnC 203 #[] := ⟨_,rfl⟩
 obtain ⟨v5,hv5⟩ : ∃ v,v = fnC 204 #[] := ⟨_,rfl⟩
 obtain ⟨v6,hv6⟩ : ∃ v,v = fnC 205 #[] := ⟨_,rfl⟩
 obtain ⟨v7,hv7⟩ : ∃ v,v = fnC 206 #[] := ⟨_,rfl⟩
 obtain ⟨v8,hv8⟩ : ∃ v,v = fnC 207 #[] := ⟨_,rfl⟩
 obtain ⟨v9,hv9⟩ : ∃ v,v = fnC 208 #[] := ⟨_,rfl⟩
 obtain ⟨v10,hv10⟩ : ∃ v,v = fnC 209 #[] := ⟨_,rfl⟩
 obtain ⟨v11,hv11⟩ : ∃ v,v = fnC 210 #[] := ⟨_,rfl⟩
 obtain ⟨v12,hv12⟩ : ∃ v,v = fnC 211 #[] := ⟨_,rfl⟩
 obtain ⟨v13,hv13⟩ : ∃ v,v = fnC 212 #[] := ⟨_,rfl⟩
 have p1 := put_mes ht hk w [] 1 v1 (by decide) (by decide) (by simp)
 have p2 := put_mes ht hk w [(1,v1)] 2 v2 (by decide) (by decide) (by simp)
 have p3 := put_mes ht hk w [(1,v1),(2,v2)] 3 v3 (by decide) (by decide) (by simp)
 have p4 := put_mes ht hk w [(1,v1),(2,v2),(3,v3)] 4 v4 (by decide) (by decide) (by simp)
 have p5 := put_mes ht hk w [(1,v1),(2,v2),(3,v3),(4,v4)] 5 v5 (by decide) (by decide) (by simp)
 have p6 := put_mes ht hk w [(1,v1),(2,v2),(3,v3),(4,v4),(5,v5)] 6 v6 (by decide) (by decide) (by simp)
 have p7 := put_mes ht hk w [(1,v1),(2,v2),(3,v3),(4,v4),(5,v5),(6,v6)] 7 v7 (by decide) (by decide) (by simp)
 have p8 := put_mes ht hk w [(1,v1),(2,v2),(3,v3),(4,v4),(5,v5),(6,v6),(7,v7)] 8 v8 (by decide) (by decide) (by simp)
 have p9 := put_mes ht hk w [(1,v1),(2,v2),(3,v3),(4,v4),(5,v5),(6,v6),(7,v7),(8,v8)] 9 v9 (by decide) (by decide) (by simp)
 have p10 := put_mes ht hk w [(1,v1),(2,v2),(3,v3),(4,v4),(5,v5),(6,v6),(7,v7),(8,v8),(9,v9)] 10 v10 (by decide) (by decide) (by simp)
 have p11 := put_mes ht hk w [(1,v1),(2,v2),(3,v3),(4,v4),(5,v5),(6,v6),(7,v7),(8,v8),(9,v9),(10,v10)] 11 v11 (by decide) (by decide) (by simp)
 have p12 := put_mes ht hk w [(1,v1),(2,v2),(3,v3),(4,v4),(5,v5),(6,v6),(7,v7),(8,v8),(9,v9),(10,v10),(11,v11)] 12 v12 (by decide) (by decide) (by simp)
 have p13 := put_mes ht hk w [(1,v1),(2,v2),(3,v3),(4,v4),(5,v5),(6,v6),(7,v7),(8,v8),(9,v9),(10,v10),(11,v11),(12,v12)] 13 v13 (by decide) (by decide) (by simp)
 simp only [List.cons_append,List.nil_append,List.length_cons,List.length_nil,Nat.reduceAdd] at p1 p2 p3 p4 p5 p6 p7 p8 p9 p10 p11 p12 p13
 have HF : Hid (ruleL = [(1,v1),(2,v2),(3,v3),(4,v4),(5,v5),(6,v6),(7,v7),(8,v8),(9,v9),(10,v10),(11,v11),(12,v12),(13,v13)]) := Lib.hid (by unfold ruleL; subst hv1 hv2 hv3 hv4 hv5 hv6 hv7 hv8 hv9 hv10 hv11 hv12 hv13; rfl)
 have e0 : mes [] = #[] := rfl
 rw [e0] at p1
 clear e0
 generalize hE1 : mes [(1,v1)] = E1 at p1 p2
 clear hE1
 generalize hE2 : mes [(1,v1),(2,v2)] = E2 at p2 p3
 clear hE2
 generalize hE3 : mes [(1,v1),(2,v2),(3,v3)] = E3 at p3 p4
 clear hE3
 generalize hE4 : mes [(1,v1),(2,v2),(3,v3),(4,v4)] = E4 at p4 p5
 clear hE4
 generalize hE5 : mes [(1,v1),(2,v2),(3,v3),(4,v4),(5,v5)] = E5 at p5 p6
 clear hE5
 generalize hE6 : mes [(1,v1),(2,v2),(3,v3),(4,v4),(5,v5),(6,v6)] = E6 at p6 p7
 clear hE6
 generalize hE7 : mes [(1,v1),(2,v2),(3,v3),(4,v4),(5,v5),(6,v6),(7,v7)] = E7 at p7 p8
 clear hE7
 generalize hE8 : mes [(1,v1),(2,v2),(3,v3),(4,v4),(5,v5),(6,v6),(7,v7),(8,v8)] = E8 at p8 p9
 clear hE8
 generalize hE9 : mes [(1,v1),(2,v2),(3,v3),(4,v4),(5,v5),(6,v6),(7,v7),(8,v8),(9,v9)] = E9 at p9 p10
 clear hE9
 generalize hE10 : mes [(1,v1),(2,v2),(3,v3),(4,v4),(5,v5),(6,v6),(7,v7),(8,v8),(9,v9),(10,v10)] = E10 at p10 p11
 clear hE10
 generalize hE11 : mes [(1,v1),(2,v2),(3,v3),(4,v4),(5,v5),(6,v6),(7,v7),(8,v8),(9,v9),(10,v10),(11,v11)] = E11 at p11 p12
 clear hE11
 generalize hE12 : mes [(1,v1),(2,v2),(3,v3),(4,v4),(5,v5),(6,v6),(7,v7),(8,v8),(9,v9),(10,v10),(11,v11),(12,v12)] = E12 at p12 p13
 clear hE12
 generalize hE13 : mes [(1,v1),(2,v2),(3,v3),(4,v4),(5,v5),(6,v6),(7,v7),(8,v8),(9,v9),(10,v10),(11,v11),(12,v12),(13,v13)] = E13 at p13
 have HE := Lib.hid hE13
 clear hE13
 subst hv1
 subst hv2
 subst hv3
 subst hv4
 subst hv5
 subst hv6
 subst hv7
 subst hv8
 subst hv9
 subst hv10
 subst hv11
 subst hv12
 subst hv13
 unfold fnC at p1 p2 p3 p4 p5 p6 p7 p8 p9 p10 p11 p12 p13
 have hmm := run_makeMap (P := Tryz.prog) 222 w
 clear ht hk
 go_enter Tryz.func185,Tryz.ntmps185
 go_wp2
 go_ret
 exact ⟨rfl,by rw [HF.out,← HE.out]⟩
/-- each rule's function, with what it answers -/
theorem rule_of (op : Int) (h : 1 ≤ op ∧ op ≤ 13) : ∃ f,(op,fnC f #[]) ∈ ruleL ∧ (∀ args w,(callFunc f args).run Tryz.prog w = .ok (.enter f args) w) ∧ ∀ (x : T.Wk) (w : World),Calls Tryz.prog f #[wkv x] w (RuleP w (x.rule op)) := by
 have hc : op = 1 ∨ op = 2 ∨ op = 3 ∨ op = 4 ∨ op = 5 ∨ op = 6 ∨ op = 7 ∨ op = 8 ∨ op = 9 ∨ op = 10 ∨ op = 11 ∨ op = 12 ∨ op = 13 := by omega
 rcases hc with rfl | rfl | rfl | rfl | rfl | rfl | rfl | rfl | rfl | rfl | rfl | rfl | rfl
 ·exact ⟨200,by simp [ruleL],fun _ _ => by kernel_rfl,fun x w => wadd_any x w⟩
 ·exact ⟨201,by simp [ruleL],fun _ _ => by kernel_rfl,fun x w => wsub_any x w⟩
 ·exact ⟨202,by simp [ruleL],fun _ _ => by kernel_rfl,fun x w => wmul_any x w⟩
 ·exact ⟨203,by simp [ruleL],fun _ _ => by kernel_rfl,fun x w => wdiv_any x w⟩
 ·exact ⟨204,by simp [ruleL],fun _ _ => by kernel_rfl,fun x w => wmod_any x w⟩
 ·exact ⟨205,by simp [ruleL],fun _ _ => by kernel_rfl,fun x w => wand_any x w⟩
 ·exact ⟨206,by simp [ruleL],fun _ _ => by kernel_rfl,fun x w => wor_any x w⟩
 ·exact ⟨207,by simp [ruleL],fun _ _ => by kernel_rfl,fun x w => wxor_any x w⟩
 ·exact ⟨208,by simp [ruleL],fun _ _ => by kernel_rfl,fun x w => wshl_any x w⟩
 ·exact ⟨209,by simp [ruleL],fun _ _ => by kernel_rfl,fun x w => wshr_any x w⟩
 ·exact ⟨210,by simp [ruleL],fun _ _ => by kernel_rfl,fun x w => wsar_any x w⟩
 ·exact ⟨211,by simp [ruleL],fun _ _ => by kernel_rfl,fun x w => wmov_any x w⟩
 ·exact ⟨212,by simp [ruleL],fun _ _ => by kernel_rfl,fun x w => wneg_any x w⟩
theorem tmps18 (a b x : Value) : (#[a,b] ++ ((Array.replicate 16 undef).setIfInBounds 3 x).setIfInBounds 0 x) = #[a,b,x,undef,undef,x,undef,undef,undef,undef,undef,undef,undef,undef,undef,undef,undef,undef] := by
 apply Array.toList_inj.1
 simp [List.replicate]
theorem catchS_idle (p q : Addr) (w : World) :
  CallsD Tryz.prog 186 #[.pointer (some p),.pointer (some q)] .returning w fun e u' w' => e = .returned (.tuple #[]) ∧ u' = .returning ∧ w' = w := by
 refine callsD_of_wpS Tryz.func186 rfl fun c₀ cs hu => ?_
 apply wpS_seq
 apply wpS_region
 simp [wpOpsS,go_sem,recoverD,hu,Tryz.ntmps186,Exit.thenS]
 refine wpS_of_wp ?_
 rw [tmps18]
 go_wp2
 cases c₀
 simp_all [bodyPostS,results,Tryz.results186]
theorem spAll_agg (b : Bool) (w : World) : Calls Tryz.prog 184 #[.bool b] w (Ret w (.agg #[W64 (T.Sp.all b).lo,W64 (T.Sp.all b).hi])) := spAll_any b w
theorem catchS_panicking (B R : Nat) (nr : Bool) (u v : Value) (w : World) (hb : w.cell? ⟨B,0,none⟩ = some (.bool nr)) (hr : w.heap[R]? = some (.cells #[u,v] 111 (0,0))) :
  CallsD Tryz.prog 186 #[.pointer (some ⟨B,0,none⟩),.pointer (some ⟨R,0,none⟩)] (.panicking nothingP) w fun e u' w' =>
   e = .returned (.tuple #[]) ∧ u' = .panicking [{ v := .iface 187 (.agg #[]),recovered := true }] ∧ ∃ w1,Since w w1 ∧ w' = (w1.setCell ⟨R,0,none⟩ (W64 (T.Sp.all nr).lo)).setCell ⟨R,1,none⟩ (W64 (T.Sp.all nr).hi) := by
 have hta : ∀ w,(Instr.typeAssert (.iface 187 (.agg #[])) 20 187 true).run Tryz.prog w = .ok (.tuple #[.agg #[],.bool true]) w := fun _ => by kernel_rfl
 have S1 := Lib.hid (Since.alloc (Below.refl w.heap.size w) (.cells #[] 187))
 have hbc := cell_old (.cells #[] 187) hb
 have hrw := Lib.hid (S1.out.at hr)
 refine callsD_of_wpS Tryz.func186 rfl fun c₀ cs hu => ?_
 unfold nothingP at hu
 clear hb hr
 apply wpS_seq
 apply wpS_region
 simp [wpOpsS,go_sem,recoverD,hu,Tryz.ntmps186,Exit.thenS]
 refine wpS_of_wp ?_
 rw [tmps18]
 go_wp2_with fail
 generalize w.alloc (.cells #[] 187) = w1 at *
 refine (spAll_agg nr w1).mono ?_
 rintro e w2 ⟨rfl,hs⟩
 have h2 := hs.at hrw.out
 have d0 : w2.cell? ⟨R,0,none⟩ = some u := block_cell (xs := [u,v]) h2 rfl
 have d1 : w2.cell? ⟨R,1,none⟩ = some v := block_cell (xs := [u,v]) h2 rfl
 have f0 : w2.frozen? ⟨R,0,none⟩ = false := frozen_of_row w2 R 0 _ _ h2
 have f1 : w2.frozen? ⟨R,1,none⟩ = false := frozen_of_row w2 R 1 _ _ h2
 have S2 := Lib.hid (S1.out.add hs)
 clear hs h2 hrw S1 hbc hta
 go_wp2
 cases c₀
 have HS := S2.out
 simp_all [bodyPostS,results,Tryz.results186]
 exact ⟨w2,HS,rfl⟩
theorem spRight_agg (lo hi : BitVec 64) (w : World) : Calls Tryz.prog 134 #[.agg #[W64 lo,W64 hi]] w (Ret w (.bool (T.Sp.right ⟨lo,hi⟩))) := spRight_any ⟨lo,hi⟩ w
theorem do_cells {w w' : World} {nr : Bool} {X Y Z R : Nat} {lo hi lo2 hi2 : BitVec 64} {u v : Value} (h : Bank w w' [boxAcc R 111 [u,v],boxAcc Z 111 [W64 lo2,W64 hi2],boxAcc Y 111 [W64 lo,W64 hi],boxAcc X 4 [.bool nr]]) :
  w'.cell? ⟨X,0,none⟩ = some (.bool nr) ∧ w'.cell? ⟨Y,0,none⟩ = some (W64 lo) ∧ w'.cell? ⟨Y,1,none⟩ = some (W64 hi) ∧ w'.cell? ⟨Z,0,none⟩ = some (W64 lo2) ∧ w'.cell? ⟨Z,1,none⟩ = some (W64 hi2) ∧
  w'.cell? ⟨R,0,none⟩ = some u ∧ w'.cell? ⟨R,1,none⟩ = some v ∧ w'.frozen? ⟨R,0,none⟩ = false ∧ w'.frozen? ⟨R,1,none⟩ = false :=
 ⟨h.cell 3 rfl 0 rfl,h.cell 2 rfl 0 rfl,h.cell 2 rfl 1 rfl,h.cell 1 rfl 0 rfl,h.cell 1 rfl 1 rfl,h.cell 0 rfl 0 rfl,h.cell 0 rfl 1 rfl,h.free 0 rfl 0,h.free 0 rfl 1⟩
theorem do_since {w w' : World} {g : Nat} {t : TypeId} {L : List Acc} {u v : Value} (h : Bank w w' (boxAcc g t [u,v] :: L)) (a b : Value) : Bank w ((w'.setCell ⟨g,0,none⟩ a).setCell ⟨g,1,none⟩ b) (boxAcc g t [a,b] :: L) := (h.boxSet 0 rfl 0 a).boxSet 0 rfl 1 b
theorem spover_agg (nr : Bool) (lo hi lo2 hi2 : BitVec 64) (w : World) : Calls Tryz.prog 136 #[.bool nr,.agg #[W64 lo,W64 hi],.agg #[W64 lo2,W64 hi2]] w (Ret w (wkv (T.Wk.over nr ⟨lo,hi⟩ ⟨lo2,hi2⟩))) := spover_any nr ⟨lo,hi⟩ ⟨lo2,hi2⟩ w
theorem spDo_any (op : Int) (nr : Bool) (s t : T.Sp) (w : World) (hop : 1 ≤ op ∧ op ≤ 13) : Calls Tryz.prog 133 #[.int .u8 op,.bool nr,spv s,spv t] w (Ret w (spv (T.sdo op nr s t))) := by
 have hmf : ∀ (fn : Fn) (first cap : Array Value) (w : World),(Instr.makeFunc fn first cap).run Tryz.prog w = .ok (.func fn first cap) w := fun _ _ _ _ => rfl
 obtain ⟨lo,hi⟩ := s
 obtain ⟨lo2,hi2⟩ := t
 have HOP := Lib.hid hop
 obtain ⟨fr,hmem,hcf,hrule⟩ := rule_of op hop
 have HR := Lib.hid hrule
 clear hrule hop
 unfold spv
 have BK := bk4 w [.bool nr] 4 [W64 lo,W64 hi] 111 [W64 lo2,W64 hi2] 111 [W64 0#64,W64 0#64] 111
 go_enter_defers Tryz.func133,Tryz.ntmps133
 go_upto_region 1 with fail
 generalize w.heap.size = X at *
 refine wp_hid BK (fun w1 BK => ?_)
 go_wp2_with fail
 refine (rules_any w1).mono ?_
 rintro e w2 ⟨rfl,rfl⟩
 have hl := look_mes Tryz.underlying222 Tryz.underlying29 (heap_alloc_new w1 (.map (mes ruleL) 13)) op (fnC fr #[]) (by have := HOP.out; omega) (by have := HOP.out; omega) hmem (by simp [ruleL])
 unfold fnC at hl
 have BK2 := Lib.hid (BK.out.alloc (.map (mes ruleL) 13))
 clear BK hmem
 generalize w1.alloc (.map (mes ruleL) 13) = w2 at *
 obtain ⟨c0,c1,c2,c3,c4,d0,d1,f0,f1⟩ := do_cells BK2.out
 go_wp2_with fail
 refine (spRight_agg lo hi _).mono ?_
 rintro e w3 ⟨rfl,hs⟩
 have BK3 := Lib.hid (BK2.out.call hs)
 clear c0 c1 c2 c3 c4 d0 d1 f0 f1
 clear hs BK2
 obtain ⟨c0,c1,c2,c3,c4,d0,d1,f0,f1⟩ := do_cells BK3.out
 clear hl
 cases hq : T.Sp.right ⟨lo,hi⟩
 case false =>
  go_wp2_with fail
  refine (spAll_agg nr _).mono ?_
  rintro e w4 ⟨rfl,hs⟩
  have BK4 := Lib.hid (BK3.out.call hs)
  clear c0 c1 c2 c3 c4 d0 d1 f0 f1
  clear hs BK3
  obtain ⟨c0,c1,c2,c3,c4,d0,d1,f0,f1⟩ := do_cells BK4.out
  have HFIN := Lib.hid (do_since BK4.out (W64 (T.Sp.all nr).lo) (W64 (T.Sp.all nr).hi))
  have HSD := Lib.hid (show T.sdo op nr ⟨lo,hi⟩ ⟨lo2,hi2⟩ = T.Sp.all nr by unfold T.sdo; exact if_neg (fun e => Bool.noConfusion (hq.symm.trans e.2.1)))
  go_wp2
  obtain ⟨r0,r1⟩ := HFIN.out.q2 0 rfl
  exact ⟨.agg #[W64 (T.Sp.all nr).lo,W64 (T.Sp.all nr).hi],by simp [results,Tryz.results133,go_sem,r0,r1],⟨by rw [HSD.out],HFIN.out.since⟩⟩
 case true =>
  go_wp2_with fail
  refine (spRight_agg lo2 hi2 _).mono ?_
  rintro e w4 ⟨rfl,hs⟩
  have BK4 := Lib.hid (BK3.out.call hs)
  clear c0 c1 c2 c3 c4 d0 d1 f0 f1
  clear hs BK3
  obtain ⟨c0,c1,c2,c3,c4,d0,d1,f0,f1⟩ := do_cells BK4.out
  cases hq2 : T.Sp.right ⟨lo2,hi2⟩
  case false =>
   have HSD := Lib.hid (show T.sdo op nr ⟨lo,hi⟩ ⟨lo2,hi2⟩ = T.Sp.all nr by unfold T.sdo; exact if_neg (fun e => Bool.noConfusion (hq2.symm.trans e.2.2)))
   go_wp2_with fail
   refine (spAll_agg nr _).mono ?_
   rintro e w5 ⟨rfl,hs⟩
   have BK5 := Lib.hid (BK4.out.call hs)
   clear c0 c1 c2 c3 c4 d0 d1 f0 f1
   clear hs BK4
   obtain ⟨c0,c1,c2,c3,c4,d0,d1,f0,f1⟩ := do_cells BK5.out
   have HFIN := Lib.hid (do_since BK5.out (W64 (T.Sp.all nr).lo) (W64 (T.Sp.all nr).hi))
   go_wp2
   obtain ⟨r0,r1⟩ := HFIN.out.q2 0 rfl
   exact ⟨.agg #[W64 (T.Sp.all nr).lo,W64 (T.Sp.all nr).hi],by simp [results,Tryz.results133,go_sem,r0,r1],⟨by rw [HSD.out],HFIN.out.since⟩⟩
  case true =>
   have HSD := Lib.hid (show T.sdo op nr ⟨lo,hi⟩ ⟨lo2,hi2⟩ = ((T.Wk.over nr ⟨lo,hi⟩ ⟨lo2,hi2⟩).rule op).getD (T.Sp.all nr) by unfold T.sdo; exact if_pos ⟨HOP.out,hq,hq2⟩)
   go_wp2_with fail
   refine (spover_agg nr lo hi lo2 hi2 _).mono ?_
   rintro e w5 ⟨rfl,hs⟩
   have BK5 := Lib.hid (BK4.out.call hs)
   clear c0 c1 c2 c3 c4 d0 d1 f0 f1
   clear hs BK4
   obtain ⟨c0,c1,c2,c3,c4,d0,d1,f0,f1⟩ := do_cells BK5.out
   go_wp2_with fail
   refine (HR.out (T.Wk.over nr ⟨lo,hi⟩ ⟨lo2,hi2⟩) _).mono ?_
   rintro e w6 (⟨r,hr,rfl,hs⟩ | ⟨hr,rfl,hs⟩)
   case inl =>
    have HRR := Lib.hid hr
    clear hr
    have BK6 := Lib.hid (BK5.out.call hs)
    clear c0 c1 c2 c3 c4 d0 d1 f0 f1
    clear hs BK5
    obtain ⟨c0,c1,c2,c3,c4,d0,d1,f0,f1⟩ := do_cells BK6.out
    have HFIN := Lib.hid (do_since BK6.out (W64 r.lo) (W64 r.hi))
    unfold spv
    go_wp2
    refine leaves_cons (f := 186) (args := #[.pointer (some ⟨X,0,none⟩),.pointer (some ⟨X + 1 + 1 + 1,0,none⟩)]) (by simp) (by simp [go_sem]) ?_
    refine (catchS_idle _ _ _).mono ?_
    rintro e u' w'' ⟨rfl,rfl,rfl⟩
    obtain ⟨r0,r1⟩ := HFIN.out.q2 0 rfl
    exact ⟨.agg #[W64 r.lo,W64 r.hi],by simp [results,Tryz.results133,go_sem,r0,r1],⟨by rw [HSD.out,HRR.out]; rfl,HFIN.out.since⟩⟩
   case inr =>
    have HRR := Lib.hid hr
    clear hr
    have BK6 := Lib.hid (BK5.out.call hs)
    clear c0 c1 c2 c3 c4 d0 d1 f0 f1
    clear hs BK5
    obtain ⟨c0,c1,c2,c3,c4,d0,d1,f0,f1⟩ := do_cells BK6.out
    have hrow := Lib.hid (BK6.out.boxAt 0 rfl).2
    go_wp2
    refine leaves_cons (f := 186) (args := #[.pointer (some ⟨X,0,none⟩),.pointer (some ⟨X + 1 + 1 + 1,0,none⟩)]) (by simp) (by simp [go_sem]) ?_
    refine (catchS_panicking _ _ nr _ _ _ c0 hrow.out).mono ?_
    rintro e u' w'' ⟨rfl,rfl,w7,hs,rfl⟩
    have HFIN := Lib.hid (do_since (BK6.out.call hs) (W64 (T.Sp.all nr).lo) (W64 (T.Sp.all nr).hi))
    obtain ⟨r0,r1⟩ := HFIN.out.q2 0 rfl
    exact ⟨.agg #[W64 (T.Sp.all nr).lo,W64 (T.Sp.all nr).hi],by simp [results,Tryz.results133,go_sem,r0,r1],⟨by rw [HSD.out,HRR.out]; rfl,HFIN.out.since⟩⟩
end Go.Proofs.YtfeipbgnjainlaaGreat.K
/- (made by genspif.py) The contracts of span.Meet, without, turned, opposites. -/
set_option maxHeartbeats 4000000
namespace Go.Proofs.YtfeipbgnjainlaaGreat.K
open Go Go.RowKit Go.Maps Go.Sort

theorem b4_cells {w w' : World} {X Y R : Nat} {a b c d u v : Value} (h : Bank w w' [boxAcc R 111 [u,v],boxAcc Y 111 [c,d],boxAcc X 111 [a,b]]) :
  w'.cell? ⟨X,0,none⟩ = some a ∧ w'.cell? ⟨X,1,none⟩ = some b ∧ w'.cell? ⟨Y,0,none⟩ = some c ∧ w'.cell? ⟨Y,1,none⟩ = some d ∧ w'.cell? ⟨R,0,none⟩ = some u ∧ w'.cell? ⟨R,1,none⟩ = some v ∧ w'.frozen? ⟨R,0,none⟩ = false ∧ w'.frozen? ⟨R,1,none⟩ = false :=
 ⟨h.cell 2 rfl 0 rfl,h.cell 2 rfl 1 rfl,h.cell 1 rfl 0 rfl,h.cell 1 rfl 1 rfl,h.cell 0 rfl 0 rfl,h.cell 0 rfl 1 rfl,h.free 0 rfl 0,h.free 0 rfl 1⟩
/-- what Meet answers -/
def meetV (s t : T.Sp) : T.Sp × Bool := match s.meet t with
 | some m => (m,true)
 | none => (⟨0#64,0#64⟩,false)
theorem meetV_t {lo hi lo2 hi2 : BitVec 64} (h : T.Sp.right ⟨T.umax lo lo2,T.umin hi hi2⟩ = true) : meetV ⟨lo,hi⟩ ⟨lo2,hi2⟩ = (⟨T.umax lo lo2,T.umin hi hi2⟩,true) := by unfold meetV T.Sp.meet; rw [if_pos h]
theorem meetV_f {lo hi lo2 hi2 : BitVec 64} (h : T.Sp.right ⟨T.umax lo lo2,T.umin hi hi2⟩ = false) : meetV ⟨lo,hi⟩ ⟨lo2,hi2⟩ = (⟨0#64,0#64⟩,false) := by unfold meetV T.Sp.meet; rw [if_neg (fun e => Bool.noConfusion (h.symm.trans e))]
theorem spMeet_any (s t : T.Sp) (w : World) : Calls Tryz.prog 217 #[spv s,spv t] w (Ret w (.tuple #[spv (meetV s t).1,.bool (meetV s t).2])) := by
 obtain ⟨lo,hi⟩ := s
 obtain ⟨lo2,hi2⟩ := t
 unfold spv
 have BK := bk4 w [W64 lo,W64 hi] 111 [W64 lo2,W64 hi2] 111 [W64 0#64,W64 0#64] 111 [W64 (T.umax lo lo2),W64 (T.umin hi hi2)] 111
 go_enter Tryz.func217,Tryz.ntmps217
 go_upto_region 2 with fail
 generalize w.heap.size = X at *
 refine wp_hid BK (fun w1 BK => ?_)
 obtain ⟨c0,c1⟩ := BK.out.q2 0 rfl
 go_wp2_with fail
 refine (spRight_agg _ _ _).mono ?_
 rintro e w2 ⟨rfl,hs⟩
 clear c0 c1
 have BK2 := Lib.hid (BK.out.call hs)
 clear BK hs
 obtain ⟨c0,c1⟩ := BK2.out.q2 0 rfl
 obtain ⟨d0,d1,f0,f1⟩ := BK2.out.r2 1 rfl
 cases hq : T.Sp.right ⟨T.umax lo lo2,T.umin hi hi2⟩
 case false =>
  have HM := Lib.hid (meetV_f hq)
  go_wp2
  refine bodyPost_ret (v := .tuple #[.agg #[W64 0#64,W64 0#64],.bool false]) ?_ rfl ⟨by rw [HM.out],((BK2.out.boxSet 1 rfl 0 _).boxSet 1 rfl 1 _).since⟩
  simp [results,Tryz.results217,go_sem,d0,d1]
 case true =>
  have HM := Lib.hid (meetV_t hq)
  go_wp2
  refine bodyPost_ret (v := .tuple #[.agg #[W64 (T.umax lo lo2),W64 (T.umin hi hi2)],.bool true]) ?_ rfl ⟨by rw [HM.out],((BK2.out.boxSet 1 rfl 0 _).boxSet 1 rfl 1 _).since⟩
  simp [results,Tryz.results217,go_sem,d0,d1]
theorem without_s {lo hi lo2 hi2 : BitVec 64} (h : T.Sp.one ⟨lo,hi⟩ = true) : T.Sp.without ⟨lo,hi⟩ ⟨lo2,hi2⟩ = ⟨lo,hi⟩ := by unfold T.Sp.without; rw [h]; rfl
theorem without_n {lo hi lo2 hi2 : BitVec 64} (h2 : T.Sp.one ⟨lo2,hi2⟩ = false) : T.Sp.without ⟨lo,hi⟩ ⟨lo2,hi2⟩ = ⟨lo,hi⟩ := by unfold T.Sp.without; rw [h2]; simp
theorem without_w {lo hi lo2 hi2 : BitVec 64} {p q : Bool} (h : T.Sp.one ⟨lo,hi⟩ = false) (h2 : T.Sp.one ⟨lo2,hi2⟩ = true) (hp : (lo == lo2) = p) (hq : (hi == lo2) = q) : T.Sp.without ⟨lo,hi⟩ ⟨lo2,hi2⟩ = ⟨bif p then lo + 1#64 else lo,bif q then hi - 1#64 else hi⟩ := by
 unfold T.Sp.without
 rw [h,h2,hp,hq]
 cases p <;> cases q <;> rfl
theorem spwithout_any (s t : T.Sp) (w : World) : Calls Tryz.prog 218 #[spv s,spv t] w (Ret w (spv (s.without t))) := by
 obtain ⟨lo,hi⟩ := s
 obtain ⟨lo2,hi2⟩ := t
 unfold spv
 have BK := bk3 w [W64 lo,W64 hi] 111 [W64 lo2,W64 hi2] 111 [W64 0#64,W64 0#64] 111
 go_enter Tryz.func218,Tryz.ntmps218
 go_upto_region 1 with fail
 generalize w.heap.size = X at *
 refine wp_hid BK (fun w1 BK => ?_)
 obtain ⟨c0,c1,c2,c3,d0,d1,f0,f1⟩ := b4_cells BK.out
 go_wp2_with fail
 refine (spone_agg _ _ _).mono ?_
 rintro e w2 ⟨rfl,hs⟩
 have BK2 := Lib.hid (BK.out.call hs)
 clear c0 c1 c2 c3 d0 d1 f0 f1
 clear BK hs
 obtain ⟨c0,c1,c2,c3,d0,d1,f0,f1⟩ := b4_cells BK2.out
 cases hq : T.Sp.one ⟨lo,hi⟩
 case true =>
  have HQ := Lib.hid hq
  go_wp2
  refine bodyPost_ret (v := .agg #[W64 (lo),W64 (hi)]) ?_ rfl ⟨by rw [without_s HQ.out],((BK2.out.boxSet 0 rfl 0 _).boxSet 0 rfl 1 _).since⟩
  simp [results,Tryz.results218,go_sem,d0,d1]
 case false =>
  have HQ := Lib.hid hq
  go_wp2_with fail
  refine (spone_agg _ _ _).mono ?_
  rintro e w3 ⟨rfl,hs⟩
  have BK3 := Lib.hid (BK2.out.call hs)
  clear c0 c1 c2 c3 d0 d1 f0 f1
  clear BK2 hs
  obtain ⟨c0,c1,c2,c3,d0,d1,f0,f1⟩ := b4_cells BK3.out
  have g0 := BK3.out.free 2 rfl 0
  have g1 := BK3.out.free 2 rfl 1
  cases hq2 : T.Sp.one ⟨lo2,hi2⟩
  case false =>
   have HQ2 := Lib.hid hq2
   go_wp2
   refine bodyPost_ret (v := .agg #[W64 (lo),W64 (hi)]) ?_ rfl ⟨by rw [without_n HQ2.out],((BK3.out.boxSet 0 rfl 0 _).boxSet 0 rfl 1 _).since⟩
   simp [results,Tryz.results218,go_sem,d0,d1]
  case true =>
   have HQ2 := Lib.hid hq2
   cases hp : lo == lo2 <;> cases hp2 : hi == lo2
   all_goals
    have HP := Lib.hid hp
    have HP2 := Lib.hid hp2
    go_wp2_with fail
    iterate 2
     try (rw [run_storeCells_W64]; go_simp; go_wp2)
   ·refine bodyPost_ret (v := .agg #[W64 lo,W64 hi]) ?_ rfl ⟨by first | (rw [without_w HQ.out HQ2.out HP.out HP2.out]; done) | (rw [without_w HQ.out HQ2.out HP.out HP2.out]; rfl),((BK3.out.boxSet 0 rfl 0 _).boxSet 0 rfl 1 _).since⟩
    simp [results,Tryz.results218,go_sem,d0,d1]
   ·refine bodyPost_ret (v := .agg #[W64 lo,W64 (hi - 1#64)]) ?_ rfl ⟨by first | (rw [without_w HQ.out HQ2.out HP.out HP2.out]; done) | (rw [without_w HQ.out HQ2.out HP.out HP2.out]; rfl),(((BK3.out.boxSet 2 rfl 1 _).boxSet 0 rfl 0 _).boxSet 0 rfl 1 _).since⟩
    simp [results,Tryz.results218,go_sem,d0,d1]
   ·refine bodyPost_ret (v := .agg #[W64 (lo + 1#64),W64 hi]) ?_ rfl ⟨by first | (rw [without_w HQ.out HQ2.out HP.out HP2.out]; done) | (rw [without_w HQ.out HQ2.out HP.out HP2.out]; rfl),(((BK3.out.boxSet 2 rfl 0 _).boxSet 0 rfl 0 _).boxSet 0 rfl 1 _).since⟩
    simp [results,Tryz.results218,go_sem,d0,d1]
   ·refine bodyPost_ret (v := .agg #[W64 (lo + 1#64),W64 (hi - 1#64)]) ?_ rfl ⟨by first | (rw [without_w HQ.out HQ2.out HP.out HP2.out]; done) | (rw [without_w HQ.out HQ2.out HP.out HP2.out]; rfl),((((BK3.out.boxSet 2 rfl 0 _).boxSet 2 rfl 1 _).boxSet 0 rfl 0 _).boxSet 0 rfl 1 _).since⟩
    simp [results,Tryz.results218,go_sem,d0,d1]
end Go.Proofs.YtfeipbgnjainlaaGreat.K
/- (made by genspif.py) The contract of span.opposites. -/
namespace Go.Proofs.YtfeipbgnjainlaaGreat.K
open Go Go.RowKit Go.Maps Go.Sort

theorem results_cell1 {fn : Func} {p : Tmp} {ty : TypeId} {P : Program} (h : fn.results = #[.cell p ty]) (tmps : Array Value) (w : World) (g : Nat) (u : Value)
  (hp : tmps.getD p undef = .pointer (some ⟨g,0,none⟩)) (hrun : (loadVar ty ⟨g,0,none⟩).run P w = .ok u w) : (results fn tmps).run P w = .ok u w := by
 have hp' : tmps[p]?.getD undef = .pointer (some ⟨g,0,none⟩) := by simpa using hp
 simp [results,h,hp',asAddr,hrun]
/-- the table of opposites -/
def oppA : Array Value := #[.int .u8 0,.int .u8 0,.int .u8 0,.int .u8 0,.int .u8 0,.int .u8 0,.int .u8 0,.int .u8 0,.int .u8 0,.int .u8 0,.int .u8 0,.int .u8 0,.int .u8 0,.int .u8 0,.int .u8 0,.int .u8 0,.int .u8 0,.int .u8 18,.int .u8 17,.int .u8 22,.int .u8 21,.int .u8 20,.int .u8 19,.int .u8 26,.int .u8 25,.int .u8 24,.int .u8 23,.int .u8 27]
theorem opposites_any (w : World) : Calls Tryz.prog 189 #[] w (Ret w (.agg oppA)) := by
 have BK0 := (Bank.nil (Below.refl w.heap.size w)).box #[.int .u8 0,.int .u8 0,.int .u8 0,.int .u8 0,.int .u8 0,.int .u8 0,.int .u8 0,.int .u8 0,.int .u8 0,.int .u8 0,.int .u8 0,.int .u8 0,.int .u8 0,.int .u8 0,.int .u8 0,.int .u8 0,.int .u8 0,.int .u8 0,.int .u8 0,.int .u8 0,.int .u8 0,.int .u8 0,.int .u8 0,.int .u8 0,.int .u8 0,.int .u8 0,.int .u8 0,.int .u8 0] 226 (by decide)
 have S1 := Lib.hid (BK0.boxRow 0 rfl oppA.toList rfl (by decide)).since
 clear BK0
 go_enter Tryz.func189,Tryz.ntmps189
 go_upto_region 1 with fail
 have hg := heap_alloc_new w (.cells #[.int .u8 0,.int .u8 0,.int .u8 0,.int .u8 0,.int .u8 0,.int .u8 0,.int .u8 0,.int .u8 0,.int .u8 0,.int .u8 0,.int .u8 0,.int .u8 0,.int .u8 0,.int .u8 0,.int .u8 0,.int .u8 0,.int .u8 0,.int .u8 0,.int .u8 0,.int .u8 0,.int .u8 0,.int .u8 0,.int .u8 0,.int .u8 0,.int .u8 0,.int .u8 0,.int .u8 0,.int .u8 0] 226)
 have hg2 : ((w.alloc (.cells #[.int .u8 0,.int .u8 0,.int .u8 0,.int .u8 0,.int .u8 0,.int .u8 0,.int .u8 0,.int .u8 0,.int .u8 0,.int .u8 0,.int .u8 0,.int .u8 0,.int .u8 0,.int .u8 0,.int .u8 0,.int .u8 0,.int .u8 0,.int .u8 0,.int .u8 0,.int .u8 0,.int .u8 0,.int .u8 0,.int .u8 0,.int .u8 0,.int .u8 0,.int .u8 0,.int .u8 0,.int .u8 0] 226)).setRow w.heap.size oppA).heap[w.heap.size]? = some (.cells oppA 226 (0,0)) := setRow_heap _ _ _ _ _ _ hg
 go_wp2_with (refine wpList_store_row rfl 226 (.tmp 0) (.tmp 1) rfl w.heap.size oppA rfl rfl 226 _ hg (by kernel_rfl) rfl (by kernel_rfl) ?_)
 refine bodyPost_ret (v := .agg oppA) ?_ rfl ⟨rfl,S1.out⟩
 exact results_cell1 rfl _ _ w.heap.size _ rfl (run_loadVar_row _ w.heap.size _ _ _ (0,0) _ hg2 Tryz.underlying226 rfl (by kernel_rfl))
end Go.Proofs.YtfeipbgnjainlaaGreat.K
