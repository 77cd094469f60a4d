/- What all servers look at: TStA, TStB, TStC, TStD -/
import Derived.Test.YtfeipbgnjainlaaGreatTw7
import Derived.Deep.MidRow
import Derived.Deep.RegionHeld3
import Derived.Laws.Pointers
import Derived.Deep.WholeRow
set_option linter.unusedVariables false
set_option linter.unusedSimpArgs false
/- (made by genstk.py) The contracts of stack's small functions. -/
set_option maxRecDepth 100000
set_option maxHeartbeats 1000000
namespace Go.Proofs.YtfeipbgnjainlaaGreat.K
open Go Go.RowKit Go.Maps Go.Sort

def eP (n : Int) : List PanicEntry := [{ v := .iface 25 (.int .i64 n),recovered := false }]
theorem tr_from (a : Addr) (k : Nat) (hk : k < 512) (w : World) : (Instr.sliceAt 179 (.pointer (some a)) (some (.int .i64 (k : Int))) none none).run Tryz.prog w = .ok (.slice (some (a.add k)) (512 - k) (512 - k)) w := by
 have h : (Instr.sliceBound (.int .i64 (k : Int)) 512 BoundsCode.sliceB).run Tryz.prog w = .ok k w := by
  have h0 := run_sliceBound (P := Tryz.prog) (w := w) IntKind.i64 (k : Int) 512 BoundsCode.sliceB (by omega) (by omega)
  rwa [Int.toNat_natCast] at h0
 have hk' : ¬ 512 = k := by omega
 simp [Instr.sliceAt,run_underlying Tryz.underlying179,Instr.sureAddr,Instr.sliceBounds,h,Tryz.sizeOf4,hk']
theorem tr_all (a : Addr) (w : World) : (Instr.sliceAt 179 (.pointer (some a)) none none none).run Tryz.prog w = .ok (.slice (some a) 512 512) w := by
 have h0 : a.add 0 = a := by cases a; rfl
 simp [Instr.sliceAt,run_underlying Tryz.underlying179,Instr.sureAddr,Instr.sliceBounds,Tryz.sizeOf4,h0]
theorem tr_at (a : Option Addr) (c : Nat) (w : World) : (Instr.arrayAt 179 (.slice a 512 c)).run Tryz.prog w = .ok (.pointer a) w := by
 simp [Instr.arrayAt,run_underlying Tryz.underlying179]
theorem stkOf_any (b o c : Nat) (hc : 512 ≤ c) (w : World) : Calls Tryz.prog 124 #[.slice (some ⟨b,o,none⟩) 512 c] w fun e w' => e = .returned (.pointer (some ⟨b,o,none⟩)) ∧ w' = w := by
 have hat := fun w => tr_at (some ⟨b,o,none⟩) c w
 go_enter Tryz.func124,Tryz.ntmps124
 go_wp2
 go_ret
 exact ⟨rfl,rfl⟩
def PartP (w : World) (b o : Nat) (at' size : Int) (e : Ending) (w' : World) : Prop := (T.partErr at' size = 0 ∧ (∃ c,e = .returned (.slice (some ⟨b,o + (512 + at').toNat,none⟩) size.toNat c)) ∧ w' = w) ∨ (T.partErr at' size ≠ 0 ∧ e = .panicked (eP (T.partErr at' size)) ∧ w' = w)
theorem stkPart_any (b o : Nat) (at' size : Int) (w : World) (h1 : -9223372036854775808 ≤ at') (h2 : at' < 9223372036854775808) : Calls Tryz.prog 125 #[.pointer (some ⟨b,o,none⟩),.int .i64 at',.int .i64 size] w (PartP w b o at' size) := by
 by_cases hs : size = 1 ∨ size = 2 ∨ size = 4 ∨ size = 8
 case neg =>
  have n1 : (size == 1) = false := by simp; omega
  have n2 : (size == 2) = false := by simp; omega
  have n4 : (size == 4) = false := by simp; omega
  have n8 : (size == 8) = false := by simp; omega
  have HE := Lib.hid (show T.partErr at' size = 2 by unfold T.partErr T.sized; rw [decide_eq_false hs,if_pos rfl])
  clear hs
  go_enter Tryz.func125,Tryz.ntmps125
  go_wp2
  exact ⟨rfl,.inr ⟨by rw [HE.out]; decide,by rw [HE.out]; rfl,rfl⟩⟩
 case pos =>
  have HE := Lib.hid (show T.partErr at' size = if at' < -512 ∨ -size < at' then 112 else 0 by unfold T.partErr T.sized; rw [decide_eq_true hs,if_neg (by simp)])
  by_cases ha : at' < -512
  ·rcases hs with rfl | rfl | rfl | rfl
   all_goals
    have HE2 := Lib.hid (HE.out.trans (if_pos (.inl ha)))
    go_enter Tryz.func125,Tryz.ntmps125
    go_wp2
    exact ⟨rfl,.inr ⟨by rw [HE2.out]; decide,by rw [HE2.out]; rfl,rfl⟩⟩
  by_cases hb : -size < at'
  ·rcases hs with rfl | rfl | rfl | rfl
   all_goals
    have HE2 := Lib.hid (HE.out.trans (if_pos (.inr hb)))
    go_enter Tryz.func125,Tryz.ntmps125
    go_wp2
    exact ⟨rfl,.inr ⟨by rw [HE2.out]; decide,by rw [HE2.out]; rfl,rfl⟩⟩
  ·have HE2 := Lib.hid (HE.out.trans (if_neg (by omega)))
   obtain ⟨k,hk⟩ : ∃ k : Nat,(512 + at') = k := ⟨(512 + at').toNat,by omega⟩
   rcases hs with rfl | rfl | rfl | rfl
   all_goals
    have hsl := fun w => tr_from ⟨b,o,none⟩ k (by omega) w
    go_enter Tryz.func125,Tryz.ntmps125
    go_wp2
    go_ret
    exact .inl ⟨HE2.out,⟨512 - k,by rw [hk]; rfl⟩,rfl⟩
end Go.Proofs.YtfeipbgnjainlaaGreat.K
/- (made by genstk2.py) The contract of stack.Read's closure. -/
set_option maxRecDepth 100000
set_option maxHeartbeats 2000000
namespace Go.Proofs.YtfeipbgnjainlaaGreat.K
open Go Go.RowKit Go.Maps Go.Sort

/-- a row of truths lies there -/
def BoRd (w : World) (b o : Nat) (bs : List Bool) : Prop := ∀ j u,bs[j]? = some u → w.cell? ⟨b,o + j,none⟩ = some (.bool u)
def BoolP (w : World) (n : Int) (e : Ending) (w' : World) : Prop := (n = 0 ∧ e = .returned (.bool true) ∧ Since w w') ∨ (n ≠ 0 ∧ e = .panicked (eP n) ∧ Since w w')
theorem stkPart_ok (b o : Nat) (at' size : Int) (w : World) (h1 : -9223372036854775808 ≤ at') (h2 : at' < 9223372036854775808) (hz : T.partErr at' size = 0) : Calls Tryz.prog 125 #[.pointer (some ⟨b,o,none⟩),.int .i64 at',.int .i64 size] w fun e w' => (∃ c,e = .returned (.slice (some ⟨b,o + (512 + at').toNat,none⟩) size.toNat c)) ∧ w' = w := by
 refine (stkPart_any b o at' size w h1 h2).mono ?_
 rintro e w' (⟨_,h,hw⟩ | ⟨hn,_⟩)
 ·exact ⟨h,hw⟩
 ·exact absurd hz hn
theorem stkPart_bad (b o : Nat) (at' size : Int) (w : World) (h1 : -9223372036854775808 ≤ at') (h2 : at' < 9223372036854775808) (hz : T.partErr at' size ≠ 0) : Calls Tryz.prog 125 #[.pointer (some ⟨b,o,none⟩),.int .i64 at',.int .i64 size] w fun e w' => e = .panicked (eP (T.partErr at' size)) ∧ w' = w := by
 refine (stkPart_any b o at' size w h1 h2).mono ?_
 rintro e w' (⟨hn,_⟩ | ⟨_,h,hw⟩)
 ·exact absurd hn hz
 ·exact ⟨h,hw⟩
theorem part_facts {at' size : Int} (h : T.partErr at' size = 0) : (size = 1 ∨ size = 2 ∨ size = 4 ∨ size = 8) ∧ -512 ≤ at' ∧ at' ≤ -size := by
 unfold T.partErr at h
 split at h
 ·cases h
 ·rename_i h1
  split at h
  ·cases h
  ·rename_i h2
   refine ⟨?_,by omega,by omega⟩
   exact of_decide_eq_true ((Bool.not_eq_false _).mp h1)
theorem allSet_succ (bs : List Bool) (k j : Nat) (h : k + j < bs.length) : T.allSet bs k (j + 1) = (T.allSet bs k j && bs[k + j]) := by
 unfold T.allSet
 rw [List.range_succ,List.all_append]
 simp [List.getD_eq_getElem?_getD,List.getElem?_eq_getElem h]
theorem allSet_mono {bs : List Bool} {k j n : Nat} (h : j ≤ n) (hs : T.allSet bs k n = true) : T.allSet bs k j = true := by
 unfold T.allSet at hs ⊢
 rw [List.all_eq_true] at hs ⊢
 exact fun x hx => hs x (List.mem_range.2 (Nat.lt_of_lt_of_le (List.mem_range.1 hx) h))
theorem stkRead1_any (A B C b o c : Nat) (at' size : Int) (bs : List Bool) (w : World) (h1 : -9223372036854775808 ≤ at') (h2 : at' < 9223372036854775808) (hl : bs.length = 512) (hc : 512 ≤ c) (hr : BoRd w b o bs)
  (hA : w.cell? ⟨A,0,none⟩ = some (.slice (some ⟨b,o,none⟩) 512 c)) (hB : w.cell? ⟨B,0,none⟩ = some (.int .i64 at')) (hC : w.cell? ⟨C,0,none⟩ = some (.int .i64 size)) :
  Calls Tryz.prog 123 #[.pointer (some ⟨A,0,none⟩),.pointer (some ⟨B,0,none⟩),.pointer (some ⟨C,0,none⟩)] w (BoolP w (T.readErr bs at' size)) := by
 have HR := Lib.hid hr
 have HL := Lib.hid hl
 clear hr hl
 by_cases hz : T.partErr at' size = 0
 case neg =>
  have HZ := Lib.hid hz
  have HE := Lib.hid (show T.readErr bs at' size = T.partErr at' size from if_pos hz)
  clear hz
  go_enter Tryz.func123,Tryz.ntmps123
  go_upto_region 1 with fail
  refine wp_region_held_drew (S := fun w' => w'.cell? ⟨A,0,none⟩ = some (.slice (some ⟨b,o,none⟩) 512 c) ∧ w'.cell? ⟨B,0,none⟩ = some (.int .i64 at') ∧ w'.cell? ⟨C,0,none⟩ = some (.int .i64 size) ∧ Since w w') (by kernel_rfl) ⟨hA,hB,hC,(Below.refl w.heap.size w).drew⟩ (fun hHeld => ?_)
  refine wpAnyH_take (i := 0) (v := .slice (some ⟨b,o,none⟩) 512 c) rfl (by kernel_rfl) (by kernel_rfl) (by kernel_rfl) (fun _ _ _ h => h) (Or.inl ⟨by rfl,?_⟩) (by assumption) ?_
  ·intro w hSw
   obtain ⟨s1,s2,s3,_⟩ := hSw
   go_simp
  (try simp only [Act.put,sA,sZ,sS])
  refine wpAnyH_take (i := 2) (v := .int .i64 at') rfl (by kernel_rfl) (by kernel_rfl) (by kernel_rfl) (fun _ _ _ h => h) (Or.inl ⟨by rfl,?_⟩) (by assumption) ?_
  ·intro w hSw
   obtain ⟨s1,s2,s3,_⟩ := hSw
   go_simp
  (try simp only [Act.put,sA,sZ,sS])
  refine wpAnyH_take (i := 3) (v := .int .i64 size) rfl (by kernel_rfl) (by kernel_rfl) (by kernel_rfl) (fun _ _ _ h => h) (Or.inl ⟨by rfl,?_⟩) (by assumption) ?_
  ·intro w hSw
   obtain ⟨s1,s2,s3,_⟩ := hSw
   go_simp
  (try simp only [Act.put,sA,sZ,sS])
  refine wpAnyH_take (i := 6) (v := .int .i64 0) rfl (by kernel_rfl) (by kernel_rfl) (by kernel_rfl) (fun _ _ _ h => h) (Or.inl ⟨by rfl,?_⟩) (by assumption) ?_
  ·intro w hSw
   obtain ⟨s1,s2,s3,_⟩ := hSw
   go_simp
  (try simp only [Act.put,sA,sZ,sS])
  refine wpAnyH_ready (rs := [1]) (by kernel_rfl) (by simp) ?_
  refine AllReadyH.cons rfl (fun K hK => ?_) AllReadyH.nil
  go_simp
  refine (stkOf_any b o c hc _).mono ?_
  rintro e wh ⟨rfl,rfl⟩
  refine hK.out _ _ (by assumption) (fun hHeld => ?_)
  clear hK K
  (try simp only [Act.put,sA,sZ,sS])
  refine wpAnyH_ready (rs := [4]) (by kernel_rfl) (by simp) ?_
  refine AllReadyH.cons rfl (fun K hK => ?_) AllReadyH.nil
  go_simp
  refine (stkPart_bad b o at' size _ h1 h2 HZ.out).mono ?_
  rintro e wh ⟨rfl,rfl⟩
  exact ⟨rfl,.inr ⟨by rw [HE.out]; exact HZ.out,by rw [HE.out],hHeld.2.2.2⟩⟩
 case pos =>
  have HE := Lib.hid (show T.readErr bs at' size = if T.allSet bs (512 + at').toNat size.toNat then 0 else 110 from if_neg (not_not_intro hz))
  obtain ⟨k,hk⟩ : ∃ k,(512 + at').toNat = k := ⟨_,rfl⟩
  obtain ⟨n,hn⟩ : ∃ n : Nat,size = n := ⟨size.toNat,by have := part_facts hz; omega⟩
  have hn8 : n ≤ 8 := by have := part_facts hz; omega
  have HKN := Lib.hid (show k + n ≤ 512 by have := part_facts hz; omega)
  have HZ := Lib.hid hz
  clear hz
  have HE2 := Lib.hid (show T.readErr bs at' size = if T.allSet bs k n then 0 else 110 by rw [HE.out,hk,hn,Int.toNat_natCast])
  clear HE
  subst hn
  have HK := Lib.hid hk
  clear hk
  go_enter Tryz.func123,Tryz.ntmps123
  go_upto_region 1 with fail
  go_region_held3 (fun w' => w'.cell? ⟨A,0,none⟩ = some (.slice (some ⟨b,o,none⟩) 512 c) ∧ w'.cell? ⟨B,0,none⟩ = some (.int .i64 at') ∧ w'.cell? ⟨C,0,none⟩ = some (.int .i64 (n : Int)))
   (first | with_reducible exact ⟨hA, hB, hC⟩ | with_reducible exact ⟨cell_drew hA, cell_drew hB, cell_drew hC⟩ | fail "keep")
   (first | (go_at_call 124; refine (stkOf_any b o c hc _).mono ?_; rintro e wh ⟨rfl, rfl⟩) | (go_at_call 125; refine (stkPart_ok b o at' n _ h1 h2 HZ.out).mono ?_; rintro e wh ⟨⟨cc, rfl⟩, rfl⟩; rw [HK.out, Int.toNat_natCast]) | fail "arm")
  go_wp2
  go_loop [5,12] (fun v i => ∃ j : Nat,j ≤ n ∧ i = .int .i64 (j : Int) ∧ T.allSet bs k j = true) (fun _ i => n - (intOf i).toNat)
  case atStart => exact ⟨0,by omega,rfl,rfl⟩
  case round =>
   obtain ⟨j,hj,rfl,hset⟩ := hrel
   have HS := Lib.hid hset
   clear hset
   have j0 : (0 : Int) ≤ (j : Int) := by omega
   by_cases hlt : j < n
   ·have i1 : (j : Int) < (n : Int) := by omega
    have hkl : k + j < bs.length := by rw [HL.out]; have := HKN.out; omega
    have hcell := cell_drew (HR.out (k + j) bs[k + j] (List.getElem?_eq_getElem hkl))
    have HNX := Lib.hid (allSet_succ bs k j hkl)
    rw [← Nat.add_assoc] at hcell
    cases hy : bs[k + j] with
    | false =>
     have HE3 := Lib.hid (show T.readErr bs at' (n : Int) = 110 by rw [HE2.out,if_neg]; exact fun e => by have e2 := allSet_mono (show j + 1 ≤ n by omega) e; rw [HNX.out,hy,Bool.and_false] at e2; cases e2)
     rw [hy] at hcell
     clear hy
     go_wp2
     exact ⟨rfl,.inr ⟨by rw [HE3.out]; decide,by rw [HE3.out]; rfl,(Below.refl w.heap.size w).drew⟩⟩
    | true =>
     have HN2 := Lib.hid (show T.allSet bs k (j + 1) = true by rw [HNX.out,hy,HS.out]; rfl)
     rw [hy] at hcell
     clear hy
     go_wp2
     go_round
     case rel => exact ⟨j + 1,by omega,by go_num,HN2.out⟩
     case measure => simp [intOf]; omega
   ·have i1 : ¬ (j : Int) < (n : Int) := by omega
    obtain rfl : j = n := by omega
    have HE3 := Lib.hid (show T.readErr bs at' (j : Int) = 0 by rw [HE2.out,HS.out]; rfl)
    go_wp2
    go_ret
    exact .inl ⟨HE3.out,rfl,(Below.refl w.heap.size w).drew⟩
end Go.Proofs.YtfeipbgnjainlaaGreat.K
/- (made by genstk3.py) The contracts of stack.tried and stack.Read. -/
set_option maxRecDepth 100000
set_option maxHeartbeats 4000000
namespace Go.Proofs.YtfeipbgnjainlaaGreat.K
open Go Go.RowKit Go.Maps Go.Sort

theorem tmps14 (a x : Value) : (#[a] ++ ((Array.replicate 13 undef).setIfInBounds 2 x).setIfInBounds 0 x) = #[a,x,undef,x,undef,undef,undef,undef,undef,undef,undef,undef,undef,undef] := by
 apply Array.toList_inj.1
 simp [List.replicate]
theorem catchT_idle (p : Addr) (w : World) :
  CallsD Tryz.prog 178 #[.pointer (some p)] .returning w fun e u' w' => e = .returned (.tuple #[]) ∧ u' = .returning ∧ w' = w := by
 refine callsD_of_wpS Tryz.func178 rfl fun c₀ cs hu => ?_
 apply wpS_seq
 apply wpS_region
 simp [wpOpsS,go_sem,recoverD,hu,Tryz.ntmps178,Exit.thenS]
 refine wpS_of_wp ?_
 rw [tmps14]
 go_wp2
 cases c₀
 simp_all [bodyPostS,results,Tryz.results178]
theorem catchT_panicking (E : Nat) (n y : Int) (w : World) (he : w.cell? ⟨E,0,none⟩ = some (.int .i64 y)) (hef : w.frozen? ⟨E,0,none⟩ = false) :
  CallsD Tryz.prog 178 #[.pointer (some ⟨E,0,none⟩)] (.panicking (eP n)) w fun e u' w' =>
   e = .returned (.tuple #[]) ∧ u' = .panicking [{ v := .iface 25 (.int .i64 n),recovered := true }] ∧ w' = w.setCell ⟨E,0,none⟩ (.int .i64 n) := by
 have hta : ∀ w,(Instr.typeAssert (.iface 25 (.int .i64 n)) 20 25 true).run Tryz.prog w = .ok (.tuple #[.int .i64 n,.bool true]) w := fun _ => by kernel_rfl
 refine callsD_of_wpS Tryz.func178 rfl fun c₀ cs hu => ?_
 unfold eP at hu
 apply wpS_seq
 apply wpS_region
 simp [wpOpsS,go_sem,recoverD,hu,Tryz.ntmps178,Exit.thenS]
 refine wpS_of_wp ?_
 rw [tmps14]
 go_wp2
 cases c₀
 simp_all [bodyPostS,results,Tryz.results178]
theorem triedRead_any (A B C : Nat) (n : Int) (w : World) (hc : Calls Tryz.prog 123 #[.pointer (some ⟨A,0,none⟩),.pointer (some ⟨B,0,none⟩),.pointer (some ⟨C,0,none⟩)] (w.alloc (.cells #[.int .i64 0] 25)) (BoolP (w.alloc (.cells #[.int .i64 0] 25)) n)) :
  Calls Tryz.prog 122 #[.func (.func 123) #[] #[.pointer (some ⟨A,0,none⟩),.pointer (some ⟨B,0,none⟩),.pointer (some ⟨C,0,none⟩)]] w fun e w' => (∃ x,e = .returned (.tuple #[.bool x,.int .i64 n])) ∧ Since w w' := by
 have hmf : ∀ (fn : Fn) (first cap : Array Value) (w : World),(Instr.makeFunc fn first cap).run Tryz.prog w = .ok (.func fn first cap) w := fun _ _ _ _ => rfl
 have BK0 := Lib.hid ((Bank.nil (Below.refl w.heap.size w)).boxL [.int .i64 0] 25 (by simp))
 have HC := Lib.hid hc
 clear hc
 go_enter_defers Tryz.func122,Tryz.ntmps122
 go_wp2_with fail
 generalize hw1 : w.alloc (.cells #[.int .i64 0] 25) = w1 at *
 clear hw1
 refine HC.out.mono ?_
 rintro e w2 (⟨rfl,rfl,hs⟩ | ⟨hn,rfl,hs⟩)
 ·have BK2 := Lib.hid (BK0.out.call hs)
  obtain ⟨c0,f0⟩ := BK2.out.r1 0 rfl
  have BK3 := Lib.hid (BK2.out.boxSet 0 rfl 0 (.int .i64 0))
  clear hs BK0 BK2
  go_wp2
  refine leaves_cons (f := 178) (args := #[.pointer (some ⟨w.heap.size,0,none⟩)]) (by simp) (by simp [go_sem]) ?_
  refine (catchT_idle _ _).mono ?_
  rintro e u' w'' ⟨rfl,rfl,rfl⟩
  have r0 := BK3.out.cell 0 rfl 0 rfl
  exact ⟨.tuple #[.bool true,.int .i64 0],by simp [results,Tryz.results122,go_sem,r0],⟨⟨true,rfl⟩,BK3.out.since⟩⟩
 ·have BK2 := Lib.hid (BK0.out.call hs)
  obtain ⟨c0,f0⟩ := BK2.out.r1 0 rfl
  have BK3 := Lib.hid (BK2.out.boxSet 0 rfl 0 (.int .i64 n))
  have HC0 := Lib.hid c0; have HF0 := Lib.hid f0
  clear hs BK0 BK2 c0 f0
  go_wp2
  refine leaves_cons (f := 178) (args := #[.pointer (some ⟨w.heap.size,0,none⟩)]) (by simp) (by simp [go_sem]) ?_
  refine (catchT_panicking w.heap.size _ _ _ HC0.out HF0.out).mono ?_
  rintro e u' w'' ⟨rfl,rfl,rfl⟩
  have r0 := BK3.out.cell 0 rfl 0 rfl
  exact ⟨.tuple #[.bool false,.int .i64 n],by simp [results,Tryz.results122,go_sem,r0],⟨⟨false,rfl⟩,BK3.out.since⟩⟩
theorem BoRd.since {w w' : World} {b o : Nat} {bs : List Bool} (h : BoRd w b o bs) (hs : Since w w') : BoRd w' b o bs := fun j u hj => hs.keep (h j u hj)
theorem stkRead_any (b o c : Nat) (at' size : Int) (bs : List Bool) (w : World) (h1 : -9223372036854775808 ≤ at') (h2 : at' < 9223372036854775808) (hl : bs.length = 512) (hc : 512 ≤ c) (hr : BoRd w b o bs) :
  Calls Tryz.prog 95 #[.slice (some ⟨b,o,none⟩) 512 c,.int .i64 at',.int .i64 size] w (Ret w (.int .i64 (T.readErr bs at' size))) := by
 have hmf : ∀ (fn : Fn) (first cap : Array Value) (w : World),(Instr.makeFunc fn first cap).run Tryz.prog w = .ok (.func fn first cap) w := fun _ _ _ _ => rfl
 have HR := Lib.hid hr
 have HL := Lib.hid hl
 clear hr hl
 have BK0 := bk3 w [.slice (some ⟨b,o,none⟩) 512 c] 80 [.int .i64 at'] 2 [.int .i64 size] 3
 go_enter Tryz.func95,Tryz.ntmps95
 go_upto_region 1 with fail
 generalize w.heap.size = X at *
 refine wp_hid BK0 (fun w1 BK0 => ?_)
 have a0 := BK0.out.cell 2 rfl 0 rfl
 have b0 := BK0.out.cell 1 rfl 0 rfl
 have c0 := BK0.out.cell 0 rfl 0 rfl
 have BKE := Lib.hid (BK0.out.boxL [.int .i64 0] 25 (by simp))
 have a9 := BKE.out.cell 3 rfl 0 rfl
 have b9 := BKE.out.cell 2 rfl 0 rfl
 have c9 := BKE.out.cell 1 rfl 0 rfl
 have HCL := Lib.hid (stkRead1_any X (X + 1) (X + 1 + 1) b o c at' size bs _ h1 h2 HL.out hc (HR.out.since BKE.out.since) a9 b9 c9)
 clear a9 b9 c9 BKE
 go_wp2_with fail
 refine (triedRead_any X (X + 1) (X + 1 + 1) _ _ HCL.out).mono ?_
 rintro e w2 ⟨⟨x,rfl⟩,hs⟩
 have S2 := Lib.hid (BK0.out.call hs).since
 clear hs HCL
 go_wp2
 go_ret
 exact ⟨rfl,S2.out⟩
end Go.Proofs.YtfeipbgnjainlaaGreat.K
/- (made by genstk4.py) The contracts of stack.Set and its closure. -/
set_option maxRecDepth 100000
set_option maxHeartbeats 2000000
namespace Go.Proofs.YtfeipbgnjainlaaGreat.K
open Go Go.RowKit Go.Maps Go.Sort

/-- a row of truths is made, or an error thrown -/
def CloRow (w : World) (bs : List Bool) (n : Int) (e : Ending) (w' : World) : Prop := (n = 0 ∧ ∃ g,e = .returned (.slice (some ⟨g,0,none⟩) 512 512) ∧ Bank w w' [boxAcc g 179 (bs.map Value.bool)]) ∨ (n ≠ 0 ∧ e = .panicked (eP n) ∧ Since w w')
theorem BoRd.range {w : World} {b o : Nat} {bs : List Bool} (h : BoRd w b o bs) : w.rangeAt b o (bs.map Value.bool) := fun j v hv => by
 rw [List.getElem?_map] at hv
 cases hx : bs[j]? with
 | none => rw [hx] at hv; cases hv
 | some x => rw [hx] at hv; cases hv; exact h j x hx
theorem zc_size : Tryz.zeroCells179.size = 512 := by kernel_rfl
theorem tr_store (w : World) (bs : List Bool) (hl : bs.length = 512) : (storeCells ⟨w.heap.size,0,none⟩ (bs.map Value.bool)).run Tryz.prog (w.alloc (.cells Tryz.zeroCells179 179)) = .ok () (w.alloc (.cells (bs.map Value.bool).toArray 179)) := by
 have h := run_storeCells_new (P := Tryz.prog) w 179 Tryz.zeroCells179 (bs.map Value.bool).toArray (by rw [List.size_toArray,List.length_map,hl]; kernel_rfl) (zc_size.trans (by rw [List.size_toArray,List.length_map,hl])) (all_oneCell_toArray (fun v hv => by obtain ⟨x,_,rfl⟩ := List.mem_map.1 hv; rfl))
 rwa [List.toList_toArray] at h
theorem setAll_zero (bs : List Bool) (k : Nat) : T.setAll bs k 0 = bs := by
 apply List.ext_getElem?
 intro j
 unfold T.setAll
 rw [List.getElem?_mapIdx]
 cases bs[j]? with
 | none => rfl
 | some x =>
  simp only [Option.map]
  congr 1
  have : (decide (k ≤ j) && decide (j < k + 0)) = false := by
   rw [Bool.and_eq_false_iff,decide_eq_false_iff_not,decide_eq_false_iff_not]; omega
  rw [this,Bool.or_false]
theorem setAll_succ (bs : List Bool) (k j : Nat) : ((T.setAll bs k j).map Value.bool).set (k + j) (.bool true) = (T.setAll bs k (j + 1)).map Value.bool := by
 rw [show (Value.bool true) = Value.bool (true) from rfl,← List.map_set]
 congr 1
 apply List.ext_getElem?
 intro i
 unfold T.setAll
 rw [List.getElem?_set,List.getElem?_mapIdx,List.getElem?_mapIdx,List.length_mapIdx]
 by_cases e : k + j = i
 ·subst e
  rw [if_pos rfl]
  by_cases h : k + j < bs.length
  ·rw [if_pos h,List.getElem?_eq_getElem h]
   simp
  ·rw [if_neg h,List.getElem?_eq_none (by omega)]
   rfl
 ·rw [if_neg e]
  cases bs[i]? with
  | none => rfl
  | some x =>
   simp only [Option.map]
   congr 2
   by_cases h1 : k ≤ i
   ·by_cases h2 : i < k + j
    ·simp [h1,h2]; omega
    ·have : ¬ i < k + (j + 1) := by omega
     simp [h2,this]
   ·simp [h1]
theorem stkSet1_any (A B C b o c : Nat) (at' size : Int) (bs : List Bool) (w : World) (h1 : -9223372036854775808 ≤ at') (h2 : at' < 9223372036854775808) (hl : bs.length = 512) (hc : 512 ≤ c) (hr : BoRd w b o bs)
  (hA : w.cell? ⟨A,0,none⟩ = some (.slice (some ⟨b,o,none⟩) 512 c)) (hB : w.cell? ⟨B,0,none⟩ = some (.int .i64 at')) (hC : w.cell? ⟨C,0,none⟩ = some (.int .i64 size)) :
  Calls Tryz.prog 129 #[.pointer (some ⟨A,0,none⟩),.pointer (some ⟨B,0,none⟩),.pointer (some ⟨C,0,none⟩)] w (CloRow w (T.setAll bs (512 + at').toNat size.toNat) (T.partErr at' size)) := by
 have HR := Lib.hid hr
 have HL := Lib.hid hl
 clear hr hl
 go_enter Tryz.func129,Tryz.ntmps129
 go_wp2_with fail
 refine (stkOf_any b o c hc _).mono ?_
 rintro e w2 ⟨rfl,rfl⟩
 have hst := tr_store w2 bs HL.out
 have BK := Lib.hid ((Bank.nil (Below.refl w2.heap.size w2)).boxL (bs.map Value.bool) 179 (by rw [List.length_map,HL.out]; decide))
 go_upto_region 2 with (first | refine wpList_load_mid rfl 179 (.tmp 9) rfl b o rfl (bs.map Value.bool) _ HR.out.range Tryz.underlying179 rfl (by rw [List.length_map,HL.out]; kernel_rfl) ?_)
 have hB1 := cell_old (.cells (bs.map Value.bool).toArray 179) hB
 have hC1 := cell_old (.cells (bs.map Value.bool).toArray 179) hC
 obtain ⟨g,hg⟩ : ∃ g,g = w2.heap.size := ⟨_,rfl⟩
 rw [← hg] at BK ⊢
 generalize w2.alloc (.cells (bs.map Value.bool).toArray 179) = w3 at *
 clear hA hB hC hst hg
 by_cases hz : T.partErr at' size = 0
 case neg =>
  have HZ := Lib.hid hz
  clear hz
  go_wp2_with fail
  refine (stkPart_bad g 0 at' size _ h1 h2 HZ.out).mono ?_
  rintro e wh ⟨rfl,rfl⟩
  exact ⟨rfl,.inr ⟨HZ.out,rfl,BK.out.since⟩⟩
 case pos =>
  obtain ⟨k,hk⟩ : ∃ k,(512 + at').toNat = k := ⟨_,rfl⟩
  obtain ⟨n,hn⟩ : ∃ n : Nat,size = n := ⟨size.toNat,by have := part_facts hz; omega⟩
  have hn8 : n ≤ 8 := by have := part_facts hz; omega
  have HKN := Lib.hid (show k + n ≤ 512 by have := part_facts hz; omega)
  have HZ := Lib.hid hz
  clear hz
  subst hn
  rw [hk,Int.toNat_natCast]
  have HK := Lib.hid hk
  clear hk
  go_wp2_with fail
  refine (stkPart_ok g 0 at' n _ h1 h2 HZ.out).mono ?_
  rintro e wh ⟨⟨cc,rfl⟩,rfl⟩
  rw [HK.out,Int.toNat_natCast,Nat.zero_add]
  go_wp2
  go_loopw [6,16] (fun v i wr => ∃ j : Nat,j ≤ n ∧ i = .int .i64 (j : Int) ∧ Bank w2 wr [boxAcc g 179 ((T.setAll bs k j).map Value.bool)]) (fun _ i _ => n - (intOf i).toNat)
  case atStart => exact ⟨0,by omega,rfl,by rw [setAll_zero]; exact BK.out⟩
  case round =>
   obtain ⟨j,hj,rfl,hB⟩ := hrel
   have HB := Lib.hid hB
   clear hB
   have j0 : (0 : Int) ≤ (j : Int) := by omega
   by_cases hlt : j < n
   ·have i1 : (j : Int) < (n : Int) := by omega
    have hkl : k + j < ((T.setAll bs k j).map Value.bool).length := by rw [List.length_map,show (T.setAll bs k j).length = bs.length by simp [T.setAll],HL.out]; have := HKN.out; omega
    have hcell := HB.out.cell 0 rfl (k + j) (List.getElem?_eq_getElem hkl)
    have hfree := HB.out.free 0 rfl (k + j)
    have HB2 := Lib.hid (HB.out.boxSet 0 rfl (k + j) (.bool true))
    go_wp2
    go_round
    case rel => exact ⟨j + 1,by omega,by go_num,by rw [← setAll_succ]; exact HB2.out⟩
    case measure => simp [intOf]; omega
   ·have i1 : ¬ (j : Int) < (n : Int) := by omega
    obtain rfl : j = n := by omega
    have hal := fun w => tr_all ⟨g,0,none⟩ w
    go_wp2
    go_ret
    exact .inl ⟨HZ.out,g,rfl,by rw [HK.out]; exact HB.out⟩
end Go.Proofs.YtfeipbgnjainlaaGreat.K
