/- What all servers look at: TStF -/
import Derived.Test.YtfeipbgnjainlaaGreatTw11
set_option linter.unusedVariables false
set_option linter.unusedSimpArgs false
/- (made by genstk6.py) The contract of stack.Join. -/
set_option maxRecDepth 100000
set_option maxHeartbeats 4000000
namespace Go.Proofs.YtfeipbgnjainlaaGreat.K
open Go Go.RowKit Go.Maps Go.Sort

def joinTo (us bs : List Bool) (j : Nat) : List Bool := us.mapIdx fun i x => if i < j then x && bs.getD i false else x
theorem joinTo_zero (us bs : List Bool) : joinTo us bs 0 = us := by
 unfold joinTo
 apply List.ext_getElem?
 intro i
 rw [List.getElem?_mapIdx]
 cases us[i]? <;> simp
theorem joinTo_get (us bs : List Bool) (j : Nat) (h : j < us.length) (_h2 : j < bs.length) : ((joinTo us bs j).map Value.bool)[j]? = some (.bool us[j]) := by
 rw [List.getElem?_map,joinTo,List.getElem?_mapIdx,List.getElem?_eq_getElem h]
 simp
theorem joinTo_succ (us bs : List Bool) (j : Nat) (h : j < us.length) (h2 : j < bs.length) : ((joinTo us bs j).map Value.bool).set j (.bool (us[j] && bs[j])) = (joinTo us bs (j + 1)).map Value.bool := by
 rw [← List.map_set]
 congr 1
 apply List.ext_getElem?
 intro i
 rw [List.getElem?_set,joinTo,joinTo,List.getElem?_mapIdx,List.getElem?_mapIdx,List.length_mapIdx]
 by_cases e : j = i
 ·subst e
  rw [if_pos rfl,if_pos h,List.getElem?_eq_getElem h]
  simp [List.getD_eq_getElem?_getD,List.getElem?_eq_getElem h2]
 ·rw [if_neg e]
  cases us[i]? with
  | none => rfl
  | some x =>
   simp only [Option.map]
   by_cases h1 : i < j
   ·rw [if_pos h1,if_pos (by omega)]
   ·rw [if_neg h1,if_neg (by omega)]
theorem joinTo_all (us bs : List Bool) (h : us.length = 512) (h2 : bs.length = 512) : joinTo us bs 512 = List.zipWith (· && ·) us bs := by
 apply List.ext_getElem?
 intro i
 rw [joinTo,List.getElem?_mapIdx,List.getElem?_zipWith]
 by_cases hi : i < 512
 ·rw [List.getElem?_eq_getElem (by omega),List.getElem?_eq_getElem (by omega)]
  simp [hi,List.getD_eq_getElem?_getD,List.getElem?_eq_getElem (show i < bs.length by omega)]
 ·rw [List.getElem?_eq_none (by omega)]
  rfl
theorem BoRd.drew {w : World} {b o : Nat} {bs : List Bool} (h : BoRd w b o bs) : BoRd w.drew b o bs := h
theorem stkJoin1_any (A B b o c b2 o2 c2 : Nat) (us bs : List Bool) (w : World) (hla : us.length = 512) (hlb : bs.length = 512) (hc : 512 ≤ c) (hc2 : 512 ≤ c2) (hra : BoRd w b o us) (hrb : BoRd w b2 o2 bs)
  (hA : w.cell? ⟨A,0,none⟩ = some (.slice (some ⟨b,o,none⟩) 512 c)) (hB : w.cell? ⟨B,0,none⟩ = some (.slice (some ⟨b2,o2,none⟩) 512 c2)) :
  Calls Tryz.prog 199 #[.pointer (some ⟨A,0,none⟩),.pointer (some ⟨B,0,none⟩)] w (CloRow w (List.zipWith (· && ·) us bs) 0) := by
 have HRA := Lib.hid hra
 have HLA := Lib.hid hla
 have HRB := Lib.hid hrb
 have HLB := Lib.hid hlb
 have S0 := Lib.hid (show Since w w from Below.refl _ _)
 have KEEP : ∀ w',Since w w' → (w'.cell? ⟨A,0,none⟩ = some (.slice (some ⟨b,o,none⟩) 512 c) ∧ w'.cell? ⟨B,0,none⟩ = some (.slice (some ⟨b2,o2,none⟩) 512 c2) ∧ w'.rangeAt b o (us.map Value.bool)) := fun w' hs => ⟨hs.keep hA,hs.keep hB,(HRA.out.since hs).range⟩
 have HK := Lib.hid KEEP
 have hlen : (Tryz.prog.info? 179).map (·.size) = some (us.map Value.bool).length := by rw [List.length_map,HLA.out]; kernel_rfl
 have hund := Tryz.underlying179
 have hst : (storeCells ⟨w.heap.size,0,none⟩ (us.map Value.bool)).run Tryz.prog (w.alloc (.cells Tryz.zeroCells179 179)).drew = .ok () (w.alloc (.cells (us.map Value.bool).toArray 179)).drew := tr_store w.drew us HLA.out
 have hlu := HLA.out
 clear KEEP hra hrb hla hlb
 go_enter Tryz.func199,Tryz.ntmps199
 go_upto_region 1 with fail
 refine wp_region_held_drew (S := fun w' => w'.cell? ⟨A,0,none⟩ = some (.slice (some ⟨b,o,none⟩) 512 c) ∧ w'.cell? ⟨B,0,none⟩ = some (.slice (some ⟨b2,o2,none⟩) 512 c2) ∧ w'.rangeAt b o (us.map Value.bool)) (by kernel_rfl) (HK.out _ S0.out.drew) (fun hHeld => ?_)
 refine wpAnyH_take (i := 0) (v := .slice (some ⟨b,o,none⟩) 512 c) rfl (by kernel_rfl) (by kernel_rfl) (by kernel_rfl) (fun _ _ _ h => h) (Or.inl ⟨by rfl,?_⟩) (by assumption) ?_
 ·intro w hSw
  obtain ⟨s1,s2,s3⟩ := hSw
  go_simp
 (try simp only [Act.put,sA,sZ,sS])
 refine wpAnyH_take (i := 4) (v := .slice (some ⟨b2,o2,none⟩) 512 c2) rfl (by kernel_rfl) (by kernel_rfl) (by kernel_rfl) (fun _ _ _ h => h) (Or.inl ⟨by rfl,?_⟩) (by assumption) ?_
 ·intro w hSw
  obtain ⟨s1,s2,s3⟩ := hSw
  go_simp
 (try simp only [Act.put,sA,sZ,sS])
 refine wpAnyH_ready (rs := [1,6]) (by kernel_rfl) (by simp) ?_
 refine AllReadyH.cons rfl (fun K hK => ?_) ?_
 ·go_simp
  refine (stkOf_any b o c hc _).mono ?_
  rintro e wh ⟨rfl,rfl⟩
  refine hK.out _ _ (by assumption) (fun hHeld => ?_)
  clear hK K
  (try simp only [Act.put,sA,sZ,sS])
  refine wpAnyH_take (i := 2) (v := .pointer (some ⟨b,o,none⟩)) rfl (by kernel_rfl) (by kernel_rfl) (by kernel_rfl) (fun _ _ _ h => h) (Or.inl ⟨by rfl,?_⟩) (by assumption) ?_
  ·intro w hSw
   obtain ⟨s1,s2,s3⟩ := hSw
   go_simp
  (try simp only [Act.put,sA,sZ,sS])
  refine wpAnyH_take (i := 3) (v := .agg (us.map Value.bool).toArray) rfl (by kernel_rfl) (by kernel_rfl) (by kernel_rfl) (fun _ _ _ h => h) (yieldsIf_load_mid (by rfl) 179 _ rfl b o rfl (us.map Value.bool) _ (fun w hSw => hSw.2.2) hund rfl hlen) (by assumption) ?_
  (try simp only [Act.put,sA,sZ,sS])
  refine wpAnyH_ready (rs := [5,6]) (by kernel_rfl) (by simp) ?_
  refine AllReadyH.cons rfl (fun K hK => ?_) ?_
  ·go_simp
   refine (stkOf_any b2 o2 c2 hc2 _).mono ?_
   rintro e wh ⟨rfl,rfl⟩
   refine hK.out _ _ (by assumption) (fun hHeld => ?_)
   clear hK K
   (try simp only [Act.put,sA,sZ,sS])
   refine wpAnyH_ready (rs := [6]) (by kernel_rfl) (by simp) ?_
   refine AllReadyH.cons rfl (fun K hK => ?_) AllReadyH.nil
   go_simp
   refine hK.out _ _ (HK.out _ (S0.out.drew.alloc _)) (fun hHeld => ?_)
   clear hK K
   (try simp only [Act.put,sA,sZ,sS])
   refine wpAnyH_ready (rs := [7]) (by kernel_rfl) (by simp) ?_
   refine AllReadyH.cons rfl (fun K hK => ?_) AllReadyH.nil
   go_simp
   refine hK.out _ _ (HK.out _ (S0.out.drew.alloc _)) (fun hHeld => ?_)
   clear hK K
   (try simp only [Act.put,sA,sZ,sS])
   refine wpAnyH_take (i := 8) (v := .pointer (some ⟨b2,o2,none⟩)) rfl (by kernel_rfl) (by kernel_rfl) (by kernel_rfl) (fun _ _ _ h => h) (Or.inl ⟨by rfl,?_⟩) (by assumption) ?_
   ·intro w hSw
    obtain ⟨s1,s2,s3⟩ := hSw
    go_simp
   (try simp only [Act.put,sA,sZ,sS])
   refine wpAnyH_done (by kernel_rfl) ?_ _
   have BK := Lib.hid ((Bank.nil S0.out).boxL (us.map Value.bool) 179 (by rw [List.length_map,HLA.out]; decide))
   clear hst hund hlen HK hlu
   go_wp2
   go_loopw [5,12] (fun v i wr => ∃ j : Nat,j ≤ 512 ∧ i = .int .i64 (j : Int) ∧ Bank w wr [boxAcc w.heap.size 179 ((joinTo us bs j).map Value.bool)]) (fun _ i _ => 512 - (intOf i).toNat)
   case atStart => exact ⟨0,by omega,rfl,by rw [joinTo_zero]; exact BK.out.drew⟩
   case round =>
    obtain ⟨j,hj,rfl,hB⟩ := hrel
    have HB := Lib.hid hB
    clear hB
    have j0 : (0 : Int) ≤ (j : Int) := by omega
    by_cases hlt : j < 512
    ·have i1 : (j : Int) < (512 : Int) := by omega
     have hju : j < us.length := by rw [HLA.out]; exact hlt
     have hjb : j < bs.length := by rw [HLB.out]; exact hlt
     obtain ⟨x,hx⟩ : ∃ x,us[j] = x := ⟨_,rfl⟩
     obtain ⟨y,hy⟩ : ∃ y,bs[j] = y := ⟨_,rfl⟩
     have hcell := HB.out.cell 0 rfl j (joinTo_get us bs j hju hjb)
     rw [hx] at hcell
     have hfree := HB.out.free 0 rfl j
     have hcb := (HRB.out.since HB.out.since) j y (by rw [List.getElem?_eq_getElem hjb,hy])
     have HB2 := Lib.hid (HB.out.boxSet 0 rfl j (.bool (x && y)))
     have HSU := Lib.hid (joinTo_succ us bs j hju hjb)
     rw [hx,hy] at HSU
     clear hx hy hju hjb
     cases x <;> cases y
     all_goals
      go_wp2
      go_round
      case rel => exact ⟨j + 1,by omega,by go_num,by rw [← HSU.out]; exact HB2.out⟩
      case measure => simp [intOf]; omega
    ·have i1 : ¬ (j : Int) < (512 : Int) := by omega
     obtain rfl : j = 512 := by omega
     have hal := fun v => tr_all ⟨w.heap.size,0,none⟩ v
     have HE := Lib.hid (joinTo_all us bs HLA.out HLB.out)
     go_wp2
     go_ret
     exact .inl ⟨rfl,_,rfl,by rw [← HE.out]; exact HB.out⟩
  refine AllReadyH.cons rfl (fun K hK => ?_) ?_
  ·go_simp
   refine hK.out _ _ (HK.out _ (S0.out.drew.alloc _)) (fun hHeld => ?_)
   clear hK K
   (try simp only [Act.put,sA,sZ,sS])
   refine wpAnyH_ready (rs := [5]) (by kernel_rfl) (by simp) ?_
   refine AllReadyH.cons rfl (fun K hK => ?_) AllReadyH.nil
   go_simp
   refine (stkOf_any b2 o2 c2 hc2 _).mono ?_
   rintro e wh ⟨rfl,rfl⟩
   refine hK.out _ _ (by assumption) (fun hHeld => ?_)
   clear hK K
   (try simp only [Act.put,sA,sZ,sS])
   refine wpAnyH_ready (rs := [7]) (by kernel_rfl) (by simp) ?_
   refine AllReadyH.cons rfl (fun K hK => ?_) AllReadyH.nil
   go_simp
   refine hK.out _ _ (HK.out _ (S0.out.drew.alloc _)) (fun hHeld => ?_)
   clear hK K
   (try simp only [Act.put,sA,sZ,sS])
   refine wpAnyH_take (i := 8) (v := .pointer (some ⟨b2,o2,none⟩)) rfl (by kernel_rfl) (by kernel_rfl) (by kernel_rfl) (fun _ _ _ h => h) (Or.inl ⟨by rfl,?_⟩) (by assumption) ?_
   ·intro w hSw
    obtain ⟨s1,s2,s3⟩ := hSw
    go_simp
   (try simp only [Act.put,sA,sZ,sS])
   refine wpAnyH_done (by kernel_rfl) ?_ _
   have BK := Lib.hid ((Bank.nil S0.out).boxL (us.map Value.bool) 179 (by rw [List.length_map,HLA.out]; decide))
   clear hst hund hlen HK hlu
   go_wp2
   go_loopw [5,12] (fun v i wr => ∃ j : Nat,j ≤ 512 ∧ i = .int .i64 (j : Int) ∧ Bank w wr [boxAcc w.heap.size 179 ((joinTo us bs j).map Value.bool)]) (fun _ i _ => 512 - (intOf i).toNat)
   case atStart => exact ⟨0,by omega,rfl,by rw [joinTo_zero]; exact BK.out.drew⟩
   case round =>
    obtain ⟨j,hj,rfl,hB⟩ := hrel
    have HB := Lib.hid hB
    clear hB
    have j0 : (0 : Int) ≤ (j : Int) := by omega
    by_cases hlt : j < 512
    ·have i1 : (j : Int) < (512 : Int) := by omega
     have hju : j < us.length := by rw [HLA.out]; exact hlt
     have hjb : j < bs.length := by rw [HLB.out]; exact hlt
     obtain ⟨x,hx⟩ : ∃ x,us[j] = x := ⟨_,rfl⟩
     obtain ⟨y,hy⟩ : ∃ y,bs[j] = y := ⟨_,rfl⟩
     have hcell := HB.out.cell 0 rfl j (joinTo_get us bs j hju hjb)
     rw [hx] at hcell
     have hfree := HB.out.free 0 rfl j
     have hcb := (HRB.out.since HB.out.since) j y (by rw [List.getElem?_eq_getElem hjb,hy])
     have HB2 := Lib.hid (HB.out.boxSet 0 rfl j (.bool (x && y)))
     have HSU := Lib.hid (joinTo_succ us bs j hju hjb)
     rw [hx,hy] at HSU
     clear hx hy hju hjb
     cases x <;> cases y
     all_goals
      go_wp2
      go_round
      case rel => exact ⟨j + 1,by omega,by go_num,by rw [← HSU.out]; exact HB2.out⟩
      case measure => simp [intOf]; omega
    ·have i1 : ¬ (j : Int) < (512 : Int) := by omega
     obtain rfl : j = 512 := by omega
     have hal := fun v => tr_all ⟨w.heap.size,0,none⟩ v
     have HE := Lib.hid (joinTo_all us bs HLA.out HLB.out)
     go_wp2
     go_ret
     exact .inl ⟨rfl,_,rfl,by rw [← HE.out]; exact HB.out⟩
  exact AllReadyH.nil
 refine AllReadyH.cons rfl (fun K hK => ?_) ?_
 ·go_simp
  refine hK.out _ _ (HK.out _ (S0.out.drew.alloc _)) (fun hHeld => ?_)
  clear hK K
  (try simp only [Act.put,sA,sZ,sS])
  refine wpAnyH_ready (rs := [1]) (by kernel_rfl) (by simp) ?_
  refine AllReadyH.cons rfl (fun K hK => ?_) AllReadyH.nil
  go_simp
  refine (stkOf_any b o c hc _).mono ?_
  rintro e wh ⟨rfl,rfl⟩
  refine hK.out _ _ (by assumption) (fun hHeld => ?_)
  clear hK K
  (try simp only [Act.put,sA,sZ,sS])
  refine wpAnyH_take (i := 2) (v := .pointer (some ⟨b,o,none⟩)) rfl (by kernel_rfl) (by kernel_rfl) (by kernel_rfl) (fun _ _ _ h => h) (Or.inl ⟨by rfl,?_⟩) (by assumption) ?_
  ·intro w hSw
   obtain ⟨s1,s2,s3⟩ := hSw
   go_simp
  (try simp only [Act.put,sA,sZ,sS])
  refine wpAnyH_take (i := 3) (v := .agg (us.map Value.bool).toArray) rfl (by kernel_rfl) (by kernel_rfl) (by kernel_rfl) (fun _ _ _ h => h) (yieldsIf_load_mid (by rfl) 179 _ rfl b o rfl (us.map Value.bool) _ (fun w hSw => hSw.2.2) hund rfl hlen) (by assumption) ?_
  (try simp only [Act.put,sA,sZ,sS])
  refine wpAnyH_ready (rs := [5]) (by kernel_rfl) (by simp) ?_
  refine AllReadyH.cons rfl (fun K hK => ?_) AllReadyH.nil
  go_simp
  refine (stkOf_any b2 o2 c2 hc2 _).mono ?_
  rintro e wh ⟨rfl,rfl⟩
  refine hK.out _ _ (by assumption) (fun hHeld => ?_)
  clear hK K
  (try simp only [Act.put,sA,sZ,sS])
  refine wpAnyH_ready (rs := [7]) (by kernel_rfl) (by simp) ?_
  refine AllReadyH.cons rfl (fun K hK => ?_) AllReadyH.nil
  go_simp
  refine hK.out _ _ (HK.out _ (S0.out.drew.alloc _)) (fun hHeld => ?_)
  clear hK K
  (try simp only [Act.put,sA,sZ,sS])
  refine wpAnyH_take (i := 8) (v := .pointer (some ⟨b2,o2,none⟩)) rfl (by kernel_rfl) (by kernel_rfl) (by kernel_rfl) (fun _ _ _ h => h) (Or.inl ⟨by rfl,?_⟩) (by assumption) ?_
  ·intro w hSw
   obtain ⟨s1,s2,s3⟩ := hSw
   go_simp
  (try simp only [Act.put,sA,sZ,sS])
  refine wpAnyH_done (by kernel_rfl) ?_ _
  have BK := Lib.hid ((Bank.nil S0.out).boxL (us.map Value.bool) 179 (by rw [List.length_map,HLA.out]; decide))
  clear hst hund hlen HK hlu
  go_wp2
  go_loopw [5,12] (fun v i wr => ∃ j : Nat,j ≤ 512 ∧ i = .int .i64 (j : Int) ∧ Bank w wr [boxAcc w.heap.size 179 ((joinTo us bs j).map Value.bool)]) (fun _ i _ => 512 - (intOf i).toNat)
  case atStart => exact ⟨0,by omega,rfl,by rw [joinTo_zero]; exact BK.out.drew⟩
  case round =>
   obtain ⟨j,hj,rfl,hB⟩ := hrel
   have HB := Lib.hid hB
   clear hB
   have j0 : (0 : Int) ≤ (j : Int) := by omega
   by_cases hlt : j < 512
   ·have i1 : (j : Int) < (512 : Int) := by omega
    have hju : j < us.length := by rw [HLA.out]; exact hlt
    have hjb : j < bs.length := by rw [HLB.out]; exact hlt
    obtain ⟨x,hx⟩ : ∃ x,us[j] = x := ⟨_,rfl⟩
    obtain ⟨y,hy⟩ : ∃ y,bs[j] = y := ⟨_,rfl⟩
    have hcell := HB.out.cell 0 rfl j (joinTo_get us bs j hju hjb)
    rw [hx] at hcell
    have hfree := HB.out.free 0 rfl j
    have hcb := (HRB.out.since HB.out.since) j y (by rw [List.getElem?_eq_getElem hjb,hy])
    have HB2 := Lib.hid (HB.out.boxSet 0 rfl j (.bool (x && y)))
    have HSU := Lib.hid (joinTo_succ us bs j hju hjb)
    rw [hx,hy] at HSU
    clear hx hy hju hjb
    cases x <;> cases y
    all_goals
     go_wp2
     go_round
     case rel => exact ⟨j + 1,by omega,by go_num,by rw [← HSU.out]; exact HB2.out⟩
     case measure => simp [intOf]; omega
   ·have i1 : ¬ (j : Int) < (512 : Int) := by omega
    obtain rfl : j = 512 := by omega
    have hal := fun v => tr_all ⟨w.heap.size,0,none⟩ v
    have HE := Lib.hid (joinTo_all us bs HLA.out HLB.out)
    go_wp2
    go_ret
    exact .inl ⟨rfl,_,rfl,by rw [← HE.out]; exact HB.out⟩
 exact AllReadyH.nil
theorem triedJoin_any (A B : Nat) (bs : List Bool) (n : Int) (w : World) (hc : Calls Tryz.prog 199 #[.pointer (some ⟨A,0,none⟩),.pointer (some ⟨B,0,none⟩)] (w.alloc (.cells #[.int .i64 0] 25)) (CloRow (w.alloc (.cells #[.int .i64 0] 25)) bs n)) :
  Calls Tryz.prog 128 #[.func (.func 199) #[] #[.pointer (some ⟨A,0,none⟩),.pointer (some ⟨B,0,none⟩)]] w (TriedRow w bs n) := by
 have hmf : ∀ (fn : Fn) (first cap : Array Value) (w : World),(Instr.makeFunc fn first cap).run Tryz.prog w = .ok (.func fn first cap) w := fun _ _ _ _ => rfl
 have BK0 := Lib.hid ((Bank.nil (Below.refl w.heap.size w)).boxL [.int .i64 0] 25 (by simp))
 have HC := Lib.hid hc
 clear hc
 go_enter_defers Tryz.func128,Tryz.ntmps128
 go_wp2_with fail
 generalize hw1 : w.alloc (.cells #[.int .i64 0] 25) = w1 at *
 clear hw1
 refine HC.out.mono ?_
 rintro e w2 (⟨rfl,⟨g,rfl,hb⟩⟩ | ⟨hn,rfl,hs⟩)
 ·have BK2 := Lib.hid (bank_join BK0.out hb)
  obtain ⟨c0,f0⟩ := BK2.out.r1 1 rfl
  have BK3 := Lib.hid (BK2.out.boxSet 1 rfl 0 (.int .i64 0))
  clear hb BK0 BK2
  go_wp2
  refine leaves_cons (f := 181) (args := #[.pointer (some ⟨w.heap.size,0,none⟩)]) (by simp) (by simp [go_sem]) ?_
  refine (catchR_idle _ _).mono ?_
  rintro e u' w'' ⟨rfl,rfl,rfl⟩
  have r0 := BK3.out.cell 1 rfl 0 rfl
  exact ⟨.tuple #[.slice (some ⟨g,0,none⟩) 512 512,.int .i64 0],by simp [results,Tryz.results128,go_sem,r0],.inl ⟨rfl,_,rfl,g,_,rfl,BK3.out.sub (.cons_cons _ (.cons _ .slnil))⟩⟩
 ·have HN := Lib.hid hn
  have BK2 := Lib.hid (BK0.out.call hs)
  obtain ⟨c0,f0⟩ := BK2.out.r1 0 rfl
  have BK3 := Lib.hid (BK2.out.boxSet 0 rfl 0 (.int .i64 n))
  have HC0 := Lib.hid c0; have HF0 := Lib.hid f0
  clear hs BK0 BK2 c0 f0 hn
  go_wp2
  refine leaves_cons (f := 181) (args := #[.pointer (some ⟨w.heap.size,0,none⟩)]) (by simp) (by simp [go_sem]) ?_
  refine (catchR_panicking w.heap.size _ _ _ HC0.out HF0.out).mono ?_
  rintro e u' w'' ⟨rfl,rfl,rfl⟩
  have r0 := BK3.out.cell 0 rfl 0 rfl
  exact ⟨.tuple #[.slice none 0 0,.int .i64 n],by simp [results,Tryz.results128,go_sem,r0],.inr ⟨HN.out,rfl,BK3.out.since⟩⟩
theorem stkJoin_any (b o c b2 o2 c2 : Nat) (us bs : List Bool) (w : World) (hla : us.length = 512) (hlb : bs.length = 512) (hc : 512 ≤ c) (hc2 : 512 ≤ c2) (hra : BoRd w b o us) (hrb : BoRd w b2 o2 bs) :
  Calls Tryz.prog 180 #[.slice (some ⟨b,o,none⟩) 512 c,.slice (some ⟨b2,o2,none⟩) 512 c2] w fun e w' => ∃ v,e = .returned v ∧ OwnBo w w' v (List.zipWith (· && ·) us bs) := by
 have hmf : ∀ (fn : Fn) (first cap : Array Value) (w : World),(Instr.makeFunc fn first cap).run Tryz.prog w = .ok (.func fn first cap) w := fun _ _ _ _ => rfl
 have HRA := Lib.hid hra
 have HLA := Lib.hid hla
 have HRB := Lib.hid hrb
 have HLB := Lib.hid hlb
 clear hra hla hrb hlb
 have BK0 := bk2 w [.slice (some ⟨b,o,none⟩) 512 c] 80 [.slice (some ⟨b2,o2,none⟩) 512 c2] 80
 go_enter Tryz.func180,Tryz.ntmps180
 go_upto_region 1 with fail
 generalize w.heap.size = X at *
 refine wp_hid BK0 (fun w1 BK0 => ?_)
 have a0 := BK0.out.cell 1 rfl 0 rfl
 have b0 := BK0.out.cell 0 rfl 0 rfl
 have BKE := Lib.hid (BK0.out.boxL [.int .i64 0] 25 (by simp))
 have a9 := BKE.out.cell 2 rfl 0 rfl
 have b9 := BKE.out.cell 1 rfl 0 rfl
 have HCL := Lib.hid (stkJoin1_any X (X + 1) b o c b2 o2 c2 us bs _ HLA.out HLB.out hc hc2 (HRA.out.since BKE.out.since) (HRB.out.since BKE.out.since) a9 b9)
 clear a9 b9 BKE
 go_wp2_with fail
 refine (triedJoin_any X (X + 1) _ _ _ HCL.out).mono ?_
 rintro e w2 (⟨hz,⟨v,rfl,g,t,rfl,hb⟩⟩ | ⟨hz,rfl,hs⟩)
 case inr => exact absurd rfl hz
 have BK2 := Lib.hid (bank_join BK0.out hb)
 clear hb HCL hz
 go_wp2
 go_ret
 exact ⟨_,rfl,g,t,rfl,BK2.out.sub (.cons_cons _ (List.nil_sublist _))⟩
end Go.Proofs.YtfeipbgnjainlaaGreat.K
