/- What all servers look at: TShA, TInC, TClo, TPkC, TShB, TOpen -/
import Derived.Test.YtfeipbgnjainlaaGreatTw14
import Derived.Test.YtfeipbgnjainlaaGreatTw8
import Derived.Test.YtfeipbgnjainlaaGreatTw18
import Derived.Sort.OwnSortedInts
import Derived.Test.YtfeipbgnjainlaaGreatTw9
import Derived.Test.YtfeipbgnjainlaaGreatTw15
import Derived.Test.YtfeipbgnjainlaaGreatTw2
set_option linter.unusedVariables false
set_option linter.unusedSimpArgs false
/- (made by genshape.py) Rows of instructions; the contracts of shape.when and of the questions of shape.Check. -/
set_option maxHeartbeats 2000000
namespace Go.Proofs.YtfeipbgnjainlaaGreat.K
open Go Go.RowKit Go.Maps Go.Sort

/-- a row of instructions lies there -/
def InsRd (w : World) (b o : Nat) (l : List T.Ins) : Prop := ∀ j i,l[j]? = some i → ∀ k v,(insL i)[k]? = some v → w.cell? ⟨b,o + j * 8 + k,none⟩ = some v
theorem InsRd.since {w w' : World} {b o : Nat} {l : List T.Ins} (h : InsRd w b o l) (hs : Since w w') : InsRd w' b o l := fun j i hi k v hv => hs.keep (h j i hi k v hv)
theorem InsRd.cells {w : World} {b o : Nat} {l : List T.Ins} (h : InsRd w b o l) {j : Nat} {i : T.Ins} (hi : l[j]? = some i) : w.cell? ⟨b,o + j * 8,none⟩ = some (.int .u8 i.op) ∧ w.cell? ⟨b,o + j * 8 + 1,none⟩ = some (.bool i.narrow) ∧ w.cell? ⟨b,o + j * 8 + 2,none⟩ = some (.int .i64 i.dst) ∧ w.cell? ⟨b,o + j * 8 + 3,none⟩ = some (.int .i64 i.src) ∧ w.cell? ⟨b,o + j * 8 + 4,none⟩ = some (.bool i.useImm) ∧ w.cell? ⟨b,o + j * 8 + 5,none⟩ = some (.int .i64 i.off) ∧ w.cell? ⟨b,o + j * 8 + 6,none⟩ = some (.int .i64 i.imm) ∧ w.cell? ⟨b,o + j * 8 + 7,none⟩ = some (.int .i64 i.size) :=
 ⟨h j i hi 0 _ rfl,h j i hi 1 _ rfl,h j i hi 2 _ rfl,h j i hi 3 _ rfl,h j i hi 4 _ rfl,h j i hi 5 _ rfl,h j i hi 6 _ rfl,h j i hi 7 _ rfl⟩
theorem when_any (is : Bool) (n : Int) (w : World) : Calls Tryz.prog 26 #[.bool is,.int .i64 n] w fun e w' => e = .returned (.int .i64 (if is then n else 0)) ∧ w' = w := by
 cases is
 all_goals
  go_enter Tryz.func26,Tryz.ntmps26
  go_wp2
  go_ret
  exact ⟨rfl,rfl⟩
theorem ask1_any (b o c A n : Nat) (l : List T.Ins) (j : Nat) (w : World) (hA : w.cell? ⟨A,0,none⟩ = some (.slice (some ⟨b,o,none⟩) n c)) (hr : InsRd w b o l) (hl : l.length = n) (hn : n ≤ 4096) (hj : j < n) : Calls Tryz.prog 25 #[.int .i64 (j : Int),.pointer (some ⟨A,0,none⟩)] w (Ret w (.int .i64 (T.q1 l j))) := by
 have hjl : j < l.length := by omega
 obtain ⟨i,hi⟩ : ∃ i,l[j]? = some i := ⟨l[j],List.getElem?_eq_getElem hjl⟩
 have HAT := Lib.hid (T.insAt_get hi)
 obtain ⟨c0,c1,c2,c3,c4,c5,c6,c7⟩ := hr.cells hi
 have j0 : (0 : Int) ≤ (j : Int) := by omega
 have j1 : (j : Int) < (n : Int) := by omega
 clear hi hr hjl
 have HV := Lib.hid (show T.q1 l j = if i.right then 0 else 4 by unfold T.q1; rw [HAT.out])
 go_enter Tryz.func25,Tryz.ntmps25
 go_wp2_with fail
 refine (insRight_any i _).mono ?_
 rintro e w2 ⟨rfl,hs⟩
 have S2 := Lib.hid hs
 clear hs c0 c1 c2 c3 c4 c5 c6 c7 hA
 cases hri : i.right
 all_goals
  have HV2 := Lib.hid (HV.out.trans (by rw [hri]))
  clear hri
  go_wp2_with fail
  refine (when_any _ _ _).mono ?_
  rintro e w3 ⟨rfl,rfl⟩
  go_wp2
  go_ret
  exact ⟨by rw [HV2.out]; rfl,S2.out⟩
theorem ask2_any (b o c A n : Nat) (l : List T.Ins) (j : Nat) (w : World) (hA : w.cell? ⟨A,0,none⟩ = some (.slice (some ⟨b,o,none⟩) n c)) (hr : InsRd w b o l) (hl : l.length = n) (hn : n ≤ 4096) (hj : j < n) (hof : -32768 ≤ (T.insAt l j).off ∧ (T.insAt l j).off ≤ 32767) : Calls Tryz.prog 28 #[.int .i64 (j : Int),.pointer (some ⟨A,0,none⟩)] w (Ret w (.int .i64 (T.q2 l j))) := by
 have hjl : j < l.length := by omega
 obtain ⟨i,hi⟩ : ∃ i,l[j]? = some i := ⟨l[j],List.getElem?_eq_getElem hjl⟩
 have HAT := Lib.hid (T.insAt_get hi)
 obtain ⟨c0,c1,c2,c3,c4,c5,c6,c7⟩ := hr.cells hi
 have j0 : (0 : Int) ≤ (j : Int) := by omega
 have j1 : (j : Int) < (n : Int) := by omega
 clear hi hr hjl
 rw [HAT.out] at hof
 have HV := Lib.hid (show T.q2 l j = if i.jumps = false then 0 else if i.off < 0 then 100 else if (n : Int) ≤ j + 1 + i.off then 101 else 0 by unfold T.q2; rw [HAT.out,hl])
 go_enter Tryz.func28,Tryz.ntmps28
 go_wp2_with fail
 refine (jumps_any i _).mono ?_
 rintro e w2 ⟨rfl,hs⟩
 have hA2 := hs.keep hA
 have S2 := Lib.hid hs
 clear hs c0 c1 c2 c3 c4 c5 c6 c7 hA
 cases hjp : i.jumps
 case false =>
  have HJ := Lib.hid hjp
  go_wp2
  go_ret
  exact ⟨by rw [HV.out,if_pos HJ.out]; rfl,S2.out⟩
 case true =>
  have HJ := Lib.hid hjp
  by_cases hb : i.off < 0
  ·have HV2 := Lib.hid (show T.q2 l j = 100 by rw [HV.out,if_neg (by rw [hjp]; decide),if_pos hb])
   have hle : (j : Int) + 1 + i.off ≤ (j : Int) := by omega
   go_wp2
   go_ret
   exact ⟨by rw [HV2.out]; rfl,S2.out⟩
  ·have hle : ¬ (j : Int) + 1 + i.off ≤ (j : Int) := by omega
   by_cases hfr : (n : Int) ≤ (j : Int) + 1 + i.off
   all_goals
    have HV2 := Lib.hid (HV.out.trans ((if_neg (by rw [hjp]; decide)).trans ((if_neg hb).trans (by first | exact if_pos hfr | exact if_neg hfr))))
    go_wp2_with fail
    refine (when_any _ _ _).mono ?_
    rintro e w3 ⟨rfl,rfl⟩
    go_wp2
    go_ret
    exact ⟨by rw [HV2.out]; first | rfl | simp [hfr],S2.out⟩
theorem ask3_any (b o c A n : Nat) (l : List T.Ins) (j : Nat) (w : World) (hA : w.cell? ⟨A,0,none⟩ = some (.slice (some ⟨b,o,none⟩) n c)) (hr : InsRd w b o l) (hl : l.length = n) (hn : n ≤ 4096) (hj : j < n) : Calls Tryz.prog 30 #[.int .i64 (j : Int),.pointer (some ⟨A,0,none⟩)] w (Ret w (.int .i64 (T.q3 l j))) := by
 have hjl : j < l.length := by omega
 obtain ⟨i,hi⟩ : ∃ i,l[j]? = some i := ⟨l[j],List.getElem?_eq_getElem hjl⟩
 have HAT := Lib.hid (T.insAt_get hi)
 obtain ⟨c0,c1,c2,c3,c4,c5,c6,c7⟩ := hr.cells hi
 have j0 : (0 : Int) ≤ (j : Int) := by omega
 have j1 : (j : Int) < (n : Int) := by omega
 clear hi hr hjl
 have HV := Lib.hid (show T.q3 l j = if j + 1 = n ∧ i.op ≠ 28 ∧ i.op ≠ 16 then 102 else 0 by unfold T.q3; rw [HAT.out,hl])
 have S1 := Lib.hid (show Since w w from Below.refl _ _)
 by_cases he : j + 1 = n
 case neg =>
  have HV2 := Lib.hid (HV.out.trans (if_neg (fun q => he q.1)))
  have hq : ((j : Int) == (n : Int) - 1) = false := by simp; omega
  go_enter Tryz.func30,Tryz.ntmps30
  go_wp2_with fail
  refine (when_any _ _ _).mono ?_
  rintro e w3 ⟨rfl,rfl⟩
  go_wp2
  go_ret
  exact ⟨by rw [HV2.out]; rfl,S1.out⟩
 case pos =>
  have hq : ((j : Int) == (n : Int) - 1) = true := by simp; omega
  by_cases h28 : i.op = 28
  ·have HV2 := Lib.hid (HV.out.trans (if_neg (fun q => q.2.1 h28)))
   go_enter Tryz.func30,Tryz.ntmps30
   go_wp2_with fail
   refine (when_any _ _ _).mono ?_
   rintro e w3 ⟨rfl,rfl⟩
   go_wp2
   go_ret
   exact ⟨by rw [HV2.out]; rfl,S1.out⟩
  ·by_cases h16 : i.op = 16
   ·have HV2 := Lib.hid (HV.out.trans (if_neg (fun q => q.2.2 h16)))
    go_enter Tryz.func30,Tryz.ntmps30
    go_wp2_with fail
    refine (when_any _ _ _).mono ?_
    rintro e w3 ⟨rfl,rfl⟩
    go_wp2
    go_ret
    exact ⟨by rw [HV2.out]; rfl,S1.out⟩
   ·have HV2 := Lib.hid (HV.out.trans (if_pos ⟨he,h28,h16⟩))
    go_enter Tryz.func30,Tryz.ntmps30
    go_wp2_with fail
    refine (when_any _ _ _).mono ?_
    rintro e w3 ⟨rfl,rfl⟩
    go_wp2
    go_ret
    exact ⟨by rw [HV2.out]; rfl,S1.out⟩
end Go.Proofs.YtfeipbgnjainlaaGreat.K
/- (made by gennext.py) The contract of ins.Next, for filters whose jumps go forward. -/
set_option maxRecDepth 100000
set_option maxHeartbeats 4000000
namespace Go.Proofs.YtfeipbgnjainlaaGreat.K
open Go Go.RowKit Go.Maps Go.Sort

theorem own_at {w : World} {base : Nat} {e : TypeId} {g n c : Nat} {xs : List Value} (h : w.ownsRow base e 1 (.slice (some ⟨g,0,none⟩) n c) n xs) (j : Nat) (v : Value) (hv : xs[j]? = some v) : w.cell? ⟨g,j,none⟩ = some v ∧ w.frozen? ⟨g,j,none⟩ = false := by
 rcases h.2 with ⟨e1,_⟩ | ⟨g',cap,cur,e1,_,hc,_,_,_,ht⟩
 ·cases e1
 ·cases e1
  have h2 : cur.toList[j]? = some v := by
   rw [← ht] at hv
   rw [List.getElem?_take] at hv
   split at hv
   ·exact hv
   ·cases hv
  exact ⟨block_cell (xs := cur.toList) (by rw [Array.toArray_toList]; exact hc) h2,frozen_of_row w g j _ _ hc⟩
theorem holds_own {w : World} {base : Nat} {e : TypeId} {g n c : Nat} {zs : List Int} (h : w.ownsRow base e 1 (.slice (some ⟨g,0,none⟩) n c) n (zs.map (Value.int .i64))) (k : Nat) : Holds (Value.int .i64) w g k (zs.drop k).toArray := fun j hj => by
 rw [List.size_toArray,List.length_drop] at hj
 have h2 : (zs.map (Value.int .i64))[k + j]? = some (.int .i64 (zs.drop k)[j]!) := by
  rw [List.getElem?_map,List.getElem?_eq_getElem (by omega),Option.map_some,List.getElem!_eq_getElem?_getD,List.getElem?_drop,List.getElem?_eq_getElem (by omega)]
  rfl
 have h3 := own_at h (k + j) _ h2
 rw [List.getElem!_toArray]
 exact h3
theorem sort1 (a : Int) : [a].mergeSort (fun x y => decide (x ≤ y)) = [a] := by simp
theorem sort2 {a b : Int} (h : a ≤ b) : [a,b].mergeSort (fun x y => decide (x ≤ y)) = [a,b] := by
 simp [List.mergeSort,List.MergeSort.Internal.splitInTwo,List.merge,h]
theorem compact1 (a : Int) : Lib.compact [a] = [a] := by simp [Lib.compact,Lib.compactUpTo,Lib.keeps,List.range_succ]
theorem compact2 {a b : Int} (h : a ≠ b) : Lib.compact [a,b] = [a,b] := by simp [Lib.compact,Lib.compactUpTo,Lib.keeps,List.range_succ,h,h.symm]
theorem compact3 (a : Int) : Lib.compact [a,a] = [a] := by simp [Lib.compact,Lib.compactUpTo,Lib.keeps,List.range_succ]
/-- a row of places, to be read -/
def NextP (w : World) (zs : List Nat) (e : Ending) (w' : World) : Prop := ∃ A n c,e = .returned (.slice A n c) ∧ n = zs.length ∧ Since w w' ∧ ((zs = [] ∧ A = none) ∨ ∃ b o,A = some ⟨b,o,none⟩ ∧ w.heap.size ≤ b ∧ ∀ (k z : Nat),zs[k]? = some z → w'.cell? ⟨b,o + k,none⟩ = some (.int .i64 (z : Int)))
theorem infoInt : (Tryz.prog.info? 3).map (fun i => (i.zero,i.size,i.bytes)) = some (some (.int .i64 0),1,8) := by kernel_rfl
theorem cell_one (w : World) (x : Value) (t : TypeId) : ∀ j u,[x][j]? = some u → (w.alloc (.cells #[x] t)).cell? ((⟨w.heap.size,0,none⟩ : Addr).add j) = some u := by
 intro j u hu
 match j,hu with
 | 0,hu => simp at hu; subst hu; simp [Addr.add]
theorem slice_one (g c : Nat) (hc : ¬ c = 1) (W : World) : (Instr.slice 60 (.slice (some ⟨g,0,none⟩) 2 c) (some (.int .i64 1)) none none).run Tryz.prog W = .ok (.slice (some ⟨g,1,none⟩) 1 (c - 1)) W := by
 have h : (Instr.sliceBound (.int .i64 1) 2 BoundsCode.sliceB).run Tryz.prog W = .ok 1 W := by
  have h0 := run_sliceBound (P := Tryz.prog) (w := W) IntKind.i64 1 2 BoundsCode.sliceB (by omega) (by omega)
  simpa using h0
 simp [Instr.slice,run_underlying Tryz.underlying60,Instr.sliceBounds,h,Tryz.sizeOf3,hc,Addr.add]
theorem Since.frozen {w w' : World} (h : Since w w') {p : Addr} {v : Value} (c : w.cell? p = some v) : w'.frozen? p = w.frozen? p := World.frozen?_of_block (h.block p.block (block_lt_of_cell c))
theorem next_cell {w : World} {blk off : Nat} {zs : List Int} {ns : List Nat} (hH : ∀ q,q < zs.toArray.size → w.cell? ⟨blk,off + q,none⟩ = some (.int .i64 zs.toArray[q]!)) (he : zs = ns.map (fun (x : Nat) => (x : Int))) {k z : Nat} (hz : ns[k]? = some z) : w.cell? ⟨blk,off + k,none⟩ = some (.int .i64 (z : Int)) := by
 have hk := (List.getElem?_eq_some_iff.1 hz)
 obtain ⟨hk1,hk2⟩ := hk
 have h1 := hH k (by rw [he]; simpa using hk1)
 rw [h1,he]
 simp [hk1,hk2]
theorem next_any (b o c n : Nat) (l : List T.Ins) (j : Nat) (w : World) (hr : InsRd w b o l) (hl : l.length = n) (hn : n ≤ 4096) (hj : j < n) (hR : (T.insAt l j).right = true) (hf : (T.insAt l j).jumps = true → 0 ≤ (T.insAt l j).off) (hof : -32768 ≤ (T.insAt l j).off ∧ (T.insAt l j).off ≤ 32767) :
  Calls Tryz.prog 32 #[.slice (some ⟨b,o,none⟩) n c,.int .i64 (j : Int)] w (NextP w (T.nexts l j)) := by
 have hjl : j < l.length := by omega
 obtain ⟨i,hi⟩ : ∃ i,l[j]? = some i := ⟨l[j],List.getElem?_eq_getElem hjl⟩
 have HAT := Lib.hid (T.insAt_get hi)
 rw [HAT.out] at hR hf hof
 have HI := Lib.hid hi
 have HRD := Lib.hid hr
 have HRT := Lib.hid hR
 have HF := Lib.hid hf
 have HNX := Lib.hid (show T.nexts l j = if i.op = 28 then [] else if i.op = 16 then [j + 1 + i.off.toNat] else if i.jumps = false ∨ i.off = 0 then [j + 1] else [j + 1,j + 1 + i.off.toNat] by unfold T.nexts; rw [HAT.out])
 obtain ⟨c0,c1,c2,c3,c4,c5,c6,c7⟩ := hr.cells hi
 have j0 : (0 : Int) ≤ (j : Int) := by omega
 have jn : ¬ (j : Int) < 0 := by omega
 have j1 : (j : Int) < (n : Int) := by omega
 have j2 : ¬ (n : Int) ≤ (j : Int) := by omega
 clear hi hr hjl hR hf
 go_enter Tryz.func32,Tryz.ntmps32
 go_wp2_with fail
 refine (insRight_any i _).mono ?_
 rintro e w2 ⟨rfl,hs⟩
 rw [HRT.out]
 have S2 := Lib.hid hs
 clear hs c0 c1 c2 c3 c4 c5 c6 c7
 obtain ⟨c0,c1,c2,c3,c4,c5,c6,c7⟩ := (HRD.out.since S2.out).cells HI.out
 by_cases h28 : i.op = 28
 ·have HN := Lib.hid (HNX.out.trans (if_pos h28))
  go_wp2
  go_ret
  exact ⟨none,0,0,rfl,by rw [HN.out]; rfl,S2.out,.inl ⟨HN.out,rfl⟩⟩
 have HN1 := Lib.hid (HNX.out.trans (if_neg h28))
 have e28 : (i.op == 28) = false := by simpa using h28
 go_upto_region 4 with fail
 obtain ⟨D,hD⟩ : ∃ D,D = w2.heap.size := ⟨_,rfl⟩
 rw [← hD]
 refine wp_gen [boxAcc D 3 [.int .i64 ((j : Int) + 1)]] (by rw [hD]; exact (Bank.nil S2.out).boxL [.int .i64 ((j : Int) + 1)] 3 (by simp)) (fun w3 hz => ?_)
 have BK3 := Lib.hid hz
 clear hz hD c0 c1 c2 c3 c4 c5 c6 c7
 obtain ⟨c0,c1,c2,c3,c4,c5,c6,c7⟩ := (HRD.out.since BK3.out.since).cells HI.out
 go_wp2_with fail
 refine (jumps_any i _).mono ?_
 rintro e w4 ⟨rfl,hs⟩
 have BK4 := Lib.hid (BK3.out.call hs)
 clear hs BK3 c0 c1 c2 c3 c4 c5 c6 c7
 obtain ⟨c0,c1,c2,c3,c4,c5,c6,c7⟩ := (HRD.out.since BK4.out.since).cells HI.out
 cases hjp : i.jumps
 case false =>
  have h16 : ¬ i.op = 16 := fun e => by unfold T.Ins.jumps at hjp; rw [e] at hjp; simp at hjp
  have e16 : (i.op == 16) = false := by simpa using h16
  have HN2 := Lib.hid (HN1.out.trans ((if_neg h16).trans (if_pos (.inl hjp))))
  have HH := Lib.hid (show Holds (Value.int .i64) w4 D 0 ([(j : Int) + 1] : List Int).toArray from fun k hk => by have h0 : k = 0 := (by simpa using hk); subst h0; exact ⟨BK4.out.cell 0 rfl 0 rfl,BK4.out.free 0 rfl 0⟩)
  go_wp2_with fail
  refine (sort_sorted D 0 1 [(j : Int) + 1] _ HH.out ((BK4.out.lt (List.mem_cons_self ..) rfl).2) (by simp) (sort1 _)).mono ?_
  rintro e ws ⟨rfl,hs⟩
  have HH2 := Lib.hid (show Holds (Value.int .i64) ws D 0 ([(j : Int) + 1] : List Int).toArray from fun k hk => ⟨hs.keep (HH.out k hk).1,(hs.frozen (HH.out k hk).1).trans (HH.out k hk).2⟩)
  have SS := Lib.hid (BK4.out.since.add hs)
  clear hs HH
  go_wp2_with fail
  refine (compact_self D 0 1 [(j : Int) + 1] _ HH2.out (by simp) (by simp) (compact1 _)).mono ?_
  rintro e wt ⟨rfl,hs⟩
  have SU := Lib.hid (SS.out.add hs)
  have HH3 := Lib.hid (fun k hk => hs.keep (HH2.out k hk).1)
  clear hs
  go_wp2
  go_ret
  exact ⟨_,_,_,rfl,by rw [HN2.out] <;> rfl,SU.out,.inr ⟨D,0,rfl,(BK4.out.lt (List.mem_cons_self ..) rfl).1,fun k z hz => by
   rw [HN2.out] at hz
   exact next_cell (zs := [(j : Int) + 1]) (fun q hq => HH3.out q hq) (by simp) hz⟩⟩
 case true =>
  have hp0 := HF.out hjp
  obtain ⟨u,hu⟩ : ∃ u : Nat,i.off = (u : Int) := ⟨i.off.toNat,by omega⟩
  have HU := Lib.hid hu
  rw [hu] at c5
  have HJ := Lib.hid hjp
  clear hjp hp0
  go_upto_region 6 with (at_builtin; refine wpList_append_bankG (BK4.out.alloc _) rfl (.tmp 38) (.tmp 47) 60 rfl 3 (.int .i64 0) 1 8 infoInt Tryz.underlying60 rfl (by decide) 0 (some ⟨D,0,none⟩) 1 1 [.int .i64 ((j : Int) + 1)] rfl rfl ⟨w4.heap.size,0,none⟩ 1 1 [.int .i64 ((j : Int) + 1 + (u : Int))] rfl rfl (cell_one _ _ _) (by intro u hu; simp at hu; subst hu; rfl) (by unfold maxLen; omega) (by omega) ?_; intro A' n' c' w5 hn' hB5 _ _)
  obtain rfl : n' = 2 := hn'
  have BK5 := Lib.hid hB5
  clear hB5 BK4 c0 c1 c2 c3 c4 c5 c6 c7
  have HOW := Lib.hid (show w5.ownsRow w.heap.size 3 1 (.slice A' 2 c') 2 ([(j : Int) + 1,(j : Int) + 1 + (u : Int)].map (Value.int .i64)) from BK5.out.at 0 rfl)
  obtain ⟨g,rfl⟩ := own_someB HOW.out (by decide)
  have hgl := (BK5.out.lt (List.mem_cons_self ..) rfl).2
  have hgb := (BK5.out.lt (List.mem_cons_self ..) rfl).1
  have hcap := (row_room HOW.out).1
  obtain ⟨c0,c1,c2,c3,c4,c5,c6,c7⟩ := (HRD.out.since BK5.out.since).cells HI.out
  by_cases h16 : i.op = 16
  ·have HN2 := Lib.hid (show T.nexts l j = [j + 1 + u] by rw [HN1.out,if_pos h16,HU.out]; rfl)
   have hc1 : ¬ c' = 1 := by omega
   have hsl : ∀ W,(Instr.slice 60 (.slice (some ⟨g,0,none⟩) 2 c') (some (.int .i64 1)) none none).run Tryz.prog W = .ok (.slice (some ⟨g,1,none⟩) 1 (c' - 1)) W := fun W => slice_one g c' hc1 W
   have HH := Lib.hid (show Holds (Value.int .i64) w5 g 1 ([(j : Int) + 1 + (u : Int)] : List Int).toArray from holds_own HOW.out 1)
   go_wp2_with fail
   refine (sort_sorted g 1 (c' - 1) [(j : Int) + 1 + (u : Int)] _ HH.out (hgl) (by simp) (sort1 _)).mono ?_
   rintro e ws ⟨rfl,hs⟩
   have HH2 := Lib.hid (show Holds (Value.int .i64) ws g 1 ([(j : Int) + 1 + (u : Int)] : List Int).toArray from fun k hk => ⟨hs.keep (HH.out k hk).1,(hs.frozen (HH.out k hk).1).trans (HH.out k hk).2⟩)
   have SS := Lib.hid (BK5.out.since.add hs)
   clear hs HH
   go_wp2_with fail
   refine (compact_self g 1 (c' - 1) [(j : Int) + 1 + (u : Int)] _ HH2.out (by simp) (by simp; omega) (compact1 _)).mono ?_
   rintro e wt ⟨rfl,hs⟩
   have SU := Lib.hid (SS.out.add hs)
   have HH3 := Lib.hid (fun k hk => hs.keep (HH2.out k hk).1)
   clear hs
   go_wp2
   go_ret
   exact ⟨_,_,_,rfl,by rw [HN2.out] <;> rfl,SU.out,.inr ⟨g,1,rfl,hgb,fun k z hz => by
    rw [HN2.out] at hz
    exact next_cell (zs := [(j : Int) + 1 + (u : Int)]) (fun q hq => HH3.out q hq) (by simp) hz⟩⟩
  ·have e16 : (i.op == 16) = false := by simpa using h16
   have HN2 := Lib.hid (HN1.out.trans (if_neg h16))
   by_cases h0 : u = 0
   ·subst h0
    have HN3 := Lib.hid (show T.nexts l j = [j + 1] by rw [HN2.out,if_pos (.inr HU.out)])
    have HH := Lib.hid (show Holds (Value.int .i64) w5 g 0 ([(j : Int) + 1,(j : Int) + 1] : List Int).toArray from by have h5 := holds_own HOW.out 0; simpa using h5)
    go_wp2_with fail
    refine (sort_sorted g 0 c' [(j : Int) + 1,(j : Int) + 1] _ HH.out hgl (by simp) (sort2 (Int.le_refl _))).mono ?_
    rintro e ws ⟨rfl,hs⟩
    have HH2 := Lib.hid (show Holds (Value.int .i64) ws g 0 ([(j : Int) + 1,(j : Int) + 1] : List Int).toArray from fun k hk => ⟨hs.keep (HH.out k hk).1,(hs.frozen (HH.out k hk).1).trans (HH.out k hk).2⟩)
    have SS := Lib.hid (BK5.out.since.add hs)
    clear hs HH
    go_wp2_with fail
    refine (Tryz.slices_Compact_int g 0 c' [(j : Int) + 1,(j : Int) + 1] _ HH2.out (by simp) (by simpa using hcap)).mono ?_
    rintro e wt ⟨rfl,q,rfl⟩
    rw [compact3]
    have SU := Lib.hid (show Since w (putRow (Value.int .i64) (Sort.ahead ws q) g 0 ([(j : Int) + 1] ++ List.replicate ([(j : Int) + 1,(j : Int) + 1].length - [(j : Int) + 1].length) 0).toArray) from by
     have hg := grownBy_sortedI (w := ws) (g := g) (n := q) (os := #[]) ([(j : Int) + 1] ++ List.replicate ([(j : Int) + 1,(j : Int) + 1].length - [(j : Int) + 1].length) 0).toArray
     rw [grow_empty] at hg
     exact SS.out.grown hg SS.out.size (fun k e => by cases e; exact hgb))
    have HC := Lib.hid (cell?_putRow (Value.int .i64) (Sort.ahead ws q) g 0 _ ([(j : Int) + 1] ++ List.replicate ([(j : Int) + 1,(j : Int) + 1].length - [(j : Int) + 1].length) 0).toArray (holds_ahead HH2.out) (by simp) 0 (by simp))
    generalize putRow (Value.int .i64) (Sort.ahead ws q) g 0 ([(j : Int) + 1] ++ List.replicate ([(j : Int) + 1,(j : Int) + 1].length - [(j : Int) + 1].length) 0).toArray = wz at *
    go_wp2
    go_ret
    exact ⟨_,_,_,rfl,by rw [HN3.out] <;> rfl,SU.out,.inr ⟨g,0,rfl,hgb,fun k z hz => by
     rw [HN3.out] at hz
     have hk : k = 0 := by
      have := (List.getElem?_eq_some_iff.1 hz).1
      simpa using this
     subst hk
     have hz2 : j + 1 = z := by simpa using hz
     subst hz2
     exact HC.out⟩⟩
   ·have HN3 := Lib.hid (show T.nexts l j = [j + 1,j + 1 + u] by rw [HN2.out,if_neg (by rw [HJ.out,HU.out]; simp; omega),HU.out]; rfl)
    have HH := Lib.hid (show Holds (Value.int .i64) w5 g 0 ([(j : Int) + 1,(j : Int) + 1 + (u : Int)] : List Int).toArray from holds_own HOW.out 0)
    go_wp2_with fail
    refine (sort_sorted g 0 c' [(j : Int) + 1,(j : Int) + 1 + (u : Int)] _ HH.out (hgl) (by simp) (sort2 (by omega))).mono ?_
    rintro e ws ⟨rfl,hs⟩
    have HH2 := Lib.hid (show Holds (Value.int .i64) ws g 0 ([(j : Int) + 1,(j : Int) + 1 + (u : Int)] : List Int).toArray from fun k hk => ⟨hs.keep (HH.out k hk).1,(hs.frozen (HH.out k hk).1).trans (HH.out k hk).2⟩)
    have SS := Lib.hid (BK5.out.since.add hs)
    clear hs HH
    go_wp2_with fail
    refine (compact_self g 0 c' [(j : Int) + 1,(j : Int) + 1 + (u : Int)] _ HH2.out (by simp) (by simpa using hcap) (compact2 (by omega))).mono ?_
    rintro e wt ⟨rfl,hs⟩
    have SU := Lib.hid (SS.out.add hs)
    have HH3 := Lib.hid (fun k hk => hs.keep (HH2.out k hk).1)
    clear hs
    go_wp2
    go_ret
    exact ⟨_,_,_,rfl,by rw [HN3.out] <;> rfl,SU.out,.inr ⟨g,0,rfl,hgb,fun k z hz => by
     rw [HN3.out] at hz
     exact next_cell (zs := [(j : Int) + 1,(j : Int) + 1 + (u : Int)]) (fun q hq => HH3.out q hq) (by simp) hz⟩⟩
end Go.Proofs.YtfeipbgnjainlaaGreat.K
/- slices.Clone of what is known, and of truths. -/
set_option maxRecDepth 100000
set_option maxHeartbeats 2000000
namespace Go.Proofs.YtfeipbgnjainlaaGreat.K
open Go Go.RowKit Go.Maps Go.Sort

theorem Bank.lit0G {w0 w : World} {L : List Acc} (h : Bank w0 w L) (e : TypeId) (size : Nat) : Bank w0 (w.alloc (.cells #[] e)) (⟨.slice (some ⟨w.heap.size,0,Option.none⟩) 0 0,0,e,size,[]⟩ :: L) :=
 h.made ((Below.refl _ _).alloc (Nat.le_refl _) _) ⟨by simp,.inr ⟨w.heap.size,0,#[],rfl,Nat.le_refl _,heap_alloc_new _ _,by decide,by decide,by simp,by simp⟩⟩
theorem infoKn : (Tryz.prog.info? 113).map (fun i => (i.zero,i.size,i.bytes)) = some (some (.agg #[.int .u8 0,.int .u64 0,.int .u64 0]),3,24) := by kernel_rfl
theorem cloneKn_any (b o n c : Nat) (news : List Value) (w : World) (hl : news.length = n * 3) (hn : n ≤ 100) (hc : ∀ j u,news[j]? = some u → w.cell? ⟨b,o + j,none⟩ = some u) (h1 : ∀ u ∈ news,u.oneCell' = true) :
  Calls Tryz.prog 62 #[.slice (some ⟨b,o,none⟩) n c] w fun e w' => ∃ A n' c',e = .returned (.slice A n' c') ∧ n' = n ∧ Bank w w' [⟨.slice A n' c',n',113,3,news⟩] := by
 have BK := Lib.hid ((Bank.nil (Below.refl w.heap.size w)).lit0G 113 3)
 have HC := Lib.hid (fun j u hj => (BK.out.since.keep (hc j u hj)))
 have HL := Lib.hid hl
 have HO := Lib.hid h1
 have hnil : ∀ w,(binOp .eql 79 (.slice (some ⟨b,o,none⟩) n c) (.slice none 0 0)).run Tryz.prog w = .ok (.bool false) w := fun _ => by kernel_rfl
 clear hc hl h1
 go_enter Tryz.func62,Tryz.ntmps62
 go_wp2_with (at_builtin; refine wpList_append_bankG BK.out rfl (.tmp 5) (.tmp 6) 79 rfl 113 (.agg #[.int .u8 0,.int .u64 0,.int .u64 0]) 3 24 infoKn Tryz.underlying79 rfl (by decide) 0 (some ⟨w.heap.size,0,none⟩) 0 0 [] rfl rfl ⟨b,o,none⟩ n c news rfl (by rw [HL.out]) (fun j u hj => by rw [Addr.add_mid]; exact HC.out j u hj) HO.out (by unfold maxLen; omega) (by omega) ?_; intro A' n' c' w5 hn' hB5 _ _; have HN := Lib.hid hn'; have BK5 := Lib.hid hB5; clear hn' hB5)
 go_ret
 exact ⟨A',n',c',rfl,by rw [HN.out,Nat.zero_add],BK5.out⟩
theorem infoBo1 : (Tryz.prog.info? 4).map (fun i => (i.zero,i.size,i.bytes)) = some (some (.bool false),1,1) := by kernel_rfl
theorem cloneBo_any (b o n c : Nat) (news : List Value) (w : World) (hl : news.length = n * 1) (hn : n ≤ 1000) (hc : ∀ j u,news[j]? = some u → w.cell? ⟨b,o + j,none⟩ = some u) (h1 : ∀ u ∈ news,u.oneCell' = true) :
  Calls Tryz.prog 63 #[.slice (some ⟨b,o,none⟩) n c] w fun e w' => ∃ A n' c',e = .returned (.slice A n' c') ∧ n' = n ∧ Bank w w' [⟨.slice A n' c',n',4,1,news⟩] := by
 have BK := Lib.hid ((Bank.nil (Below.refl w.heap.size w)).lit0G 4 1)
 have HC := Lib.hid (fun j u hj => (BK.out.since.keep (hc j u hj)))
 have HL := Lib.hid hl
 have HO := Lib.hid h1
 have hnil : ∀ w,(binOp .eql 80 (.slice (some ⟨b,o,none⟩) n c) (.slice none 0 0)).run Tryz.prog w = .ok (.bool false) w := fun _ => by kernel_rfl
 clear hc hl h1
 go_enter Tryz.func63,Tryz.ntmps63
 go_wp2_with (at_builtin; refine wpList_append_bankG BK.out rfl (.tmp 5) (.tmp 6) 80 rfl 4 (.bool false) 1 1 infoBo1 Tryz.underlying80 rfl (by decide) 0 (some ⟨w.heap.size,0,none⟩) 0 0 [] rfl rfl ⟨b,o,none⟩ n c news rfl (by rw [HL.out]) (fun j u hj => by rw [Addr.add_mid]; exact HC.out j u hj) HO.out (by unfold maxLen; omega) (by omega) ?_; intro A' n' c' w5 hn' hB5 _ _; have HN := Lib.hid hn'; have BK5 := Lib.hid hB5; clear hn' hB5)
 go_ret
 exact ⟨A',n',c',rfl,by rw [HN.out,Nat.zero_add],BK5.out⟩
end Go.Proofs.YtfeipbgnjainlaaGreat.K
/- (made by genpk3.py) The contracts of packet.caught and packet.Get. -/
set_option maxRecDepth 100000
set_option maxHeartbeats 4000000
namespace Go.Proofs.YtfeipbgnjainlaaGreat.K
open Go Go.RowKit Go.Maps Go.Sort

theorem catchP_idle (p : Addr) (w : World) :
  CallsD Tryz.prog 175 #[.pointer (some p)] .returning w fun e u' w' => e = .returned (.tuple #[]) ∧ u' = .returning ∧ w' = w := by
 refine callsD_of_wpS Tryz.func175 rfl fun c₀ cs hu => ?_
 apply wpS_seq
 apply wpS_region
 simp [wpOpsS,go_sem,recoverD,hu,Tryz.ntmps175,Exit.thenS]
 refine wpS_of_wp ?_
 rw [tmps14]
 go_wp2
 cases c₀
 simp_all [bodyPostS,results,Tryz.results175]
theorem caughtGet_any (A B C D : Nat) {w0 w : World} {L L' : List Acc} (hB : Bank w0 w L) (hc : ∀ w1,Bank w0 w1 (boxAcc w.heap.size 25 [.int .i64 0] :: L) → Calls Tryz.prog 112 #[.pointer (some ⟨A,0,none⟩),.pointer (some ⟨B,0,none⟩),.pointer (some ⟨C,0,none⟩),.pointer (some ⟨D,0,none⟩)] w1 fun e w' => (∃ v,e = .returned v) ∧ Bank w0 w' (boxAcc w.heap.size 25 [.int .i64 0] :: L')) :
  Calls Tryz.prog 111 #[.func (.func 112) #[] #[.pointer (some ⟨A,0,none⟩),.pointer (some ⟨B,0,none⟩),.pointer (some ⟨C,0,none⟩),.pointer (some ⟨D,0,none⟩)]] w fun e w' => e = .returned (.int .i64 0) ∧ Bank w0 w' L' := by
 have hmf : ∀ (fn : Fn) (first cap : Array Value) (w : World),(Instr.makeFunc fn first cap).run Tryz.prog w = .ok (.func fn first cap) w := fun _ _ _ _ => rfl
 have BK0 := Lib.hid (hB.boxL [.int .i64 0] 25 (by simp))
 have HC := Lib.hid hc
 clear hc hB
 go_enter_defers Tryz.func111,Tryz.ntmps111
 go_wp2_with fail
 obtain ⟨Y,hY⟩ : ∃ Y,Y = w.heap.size := ⟨_,rfl⟩
 rw [← hY] at BK0 HC ⊢
 generalize w.alloc (.cells #[.int .i64 0] 25) = w1 at *
 refine (HC.out w1 BK0.out).mono ?_
 rintro e w2 ⟨⟨v,rfl⟩,hb⟩
 have BK2 := Lib.hid hb
 obtain ⟨c0,f0⟩ := BK2.out.r1 0 rfl
 have BK3 := Lib.hid (BK2.out.boxSet 0 rfl 0 (.int .i64 0))
 clear hb BK0 BK2 HC hY
 go_wp2
 refine leaves_cons (f := 175) (args := #[.pointer (some ⟨Y,0,none⟩)]) (by simp) (by simp [go_sem]) ?_
 refine (catchP_idle _ _).mono ?_
 rintro e u' w'' ⟨rfl,rfl,rfl⟩
 have r0 := BK3.out.cell 0 rfl 0 rfl
 exact ⟨.int .i64 0,by simp [results,Tryz.results111,go_sem,r0],rfl,BK3.out.drop⟩
theorem pkGet_ok (Ad : Option Addr) (n c : Nat) (pk : List T.B) (k size : Nat) (w : World) (hr : RowRd w ⟨Ad,n,c⟩ pk) (hn : n ≤ 1000000) (hz : T.getErr n (k : Int) (size : Int) = 0) :
  Calls Tryz.prog 78 #[.slice Ad n c,.int .i64 (k : Int),.int .i64 (size : Int)] w (Ret w (.tuple #[W64 (T.gets pk k size),.int .i64 0])) := by
 have hmf : ∀ (fn : Fn) (first cap : Array Value) (w : World),(Instr.makeFunc fn first cap).run Tryz.prog w = .ok (.func fn first cap) w := fun _ _ _ _ => rfl
 have HR := Lib.hid hr
 have HZ := Lib.hid hz
 clear hr hz
 have BK0 := bk3 w [.slice Ad n c] 23 [.int .i64 (k : Int)] 2 [.int .i64 (size : Int)] 3
 go_enter Tryz.func78,Tryz.ntmps78
 go_upto_region 1 with fail
 generalize w.heap.size = X at *
 refine wp_hid BK0 (fun w1 BK0 => ?_)
 have a0 := BK0.out.cell 2 rfl 0 rfl
 have b0 := BK0.out.cell 1 rfl 0 rfl
 have c0 := BK0.out.cell 0 rfl 0 rfl
 go_upto_region 2 with fail
 refine wp_hid (Lib.hid (BK0.out.boxL [W64 0#64] 34 (by simp))) (fun w2 BK1 => ?_)
 generalize w1.heap.size = D at *
 clear BK0
 clear a0 b0 c0
 have a0 := BK1.out.cell 3 rfl 0 rfl
 have b0 := BK1.out.cell 2 rfl 0 rfl
 have c0 := BK1.out.cell 1 rfl 0 rfl
 have d0 := BK1.out.cell 0 rfl 0 rfl
 go_wp2_with fail
 refine (caughtGet_any X (X + 1) (X + 1 + 1) D (L' := [boxAcc D 34 [W64 (T.gets pk k size)],boxAcc (X + 1 + 1) 3 [.int .i64 (size : Int)],boxAcc (X + 1) 2 [.int .i64 (k : Int)],boxAcc X 23 [.slice Ad n c]]) BK1.out (fun w1 hb => get1_ok X (X + 1) (X + 1 + 1) D Ad n c pk k size 1 4 3 2 hb HR.out hn HZ.out rfl rfl rfl rfl (by decide) (by decide) (by decide))).mono ?_
 rintro e w3 ⟨rfl,hb⟩
 have BKZ := Lib.hid hb
 clear a0 b0 c0 d0
 clear hb
 have d0 := BKZ.out.cell 0 rfl 0 rfl
 go_wp2
 refine bodyPost_ret (v := .tuple #[W64 (T.gets pk k size),.int .i64 0]) ?_ rfl ⟨rfl,BKZ.out.since⟩
 simp [results,Tryz.results78,go_sem]
end Go.Proofs.YtfeipbgnjainlaaGreat.K
/- (made by genshape2.py) The contract of the last question of shape.Check. -/
set_option maxRecDepth 100000
set_option maxHeartbeats 4000000
namespace Go.Proofs.YtfeipbgnjainlaaGreat.K
open Go Go.RowKit Go.Maps Go.Sort

theorem nexts_len (l : List T.Ins) (j : Nat) : (T.nexts l j).length ≤ 2 := by
 unfold T.nexts
 repeat' split
 all_goals simp
theorem set_same' {α : Type _} : ∀ {L : List α} {i : Nat} {x : α},L[i]? = some x → L.set i x = L
 | [],_,_,h => by simp at h
 | y :: L,0,x,h => by simp at h; subst h; rfl
 | y :: L,i + 1,x,h => by rw [List.set_cons_succ,set_same' (by simpa using h)]
def markAll (c : List Bool) (j : Nat) (ts : List Nat) : List Bool := ts.foldl (fun c t => T.markTo c j t) c
theorem markTo_length (c : List Bool) (j t : Nat) : (T.markTo c j t).length = c.length := by unfold T.markTo; rw [List.length_set]
theorem markAll_length (j : Nat) (ts : List Nat) : ∀ c : List Bool,(markAll c j ts).length = c.length := by
 induction ts with
 | nil => intro c; rfl
 | cons t ts ih => intro c; show (markAll (T.markTo c j t) j ts).length = _; rw [ih,markTo_length]
theorem markAll_take (c : List Bool) (j : Nat) (ts : List Nat) (k : Nat) (t : Nat) (h : ts[k]? = some t) : markAll c j (ts.take (k + 1)) = T.markTo (markAll c j (ts.take k)) j t := by
 have hk := (List.getElem?_eq_some_iff.1 h).1
 have e : ts[k] = t := (List.getElem?_eq_some_iff.1 h).2
 rw [List.take_succ_eq_append_getElem hk,e]
 unfold markAll
 rw [List.foldl_append]
 rfl
theorem comeStep_all (l : List T.Ins) (c : List Bool) (j : Nat) : T.comeStep l c j = markAll c j (T.nexts l j) := rfl
theorem boolAt (c : List Bool) (j : Nat) (h : j < c.length) : (c.map Value.bool)[j]? = some (.bool (c.getD j false)) := by
 rw [List.getElem?_map,List.getElem?_eq_getElem h,List.getD_eq_getElem?_getD,List.getElem?_eq_getElem h]
 rfl
theorem ask4_any (b o c A C G n : Nat) (l : List T.Ins) (come : List Bool) (j : Nat) {w0 w : World} {L : List Acc} (i ia ic : Nat) (hB : Bank w0 w L) (hr : InsRd w0 b o l) (hl : l.length = n) (hn : n ≤ 4096) (hj : j < n) (hR : (T.insAt l j).right = true) (hf : (T.insAt l j).jumps = true → 0 ≤ (T.insAt l j).off) (hof : -32768 ≤ (T.insAt l j).off ∧ (T.insAt l j).off ≤ 32767)
  (hto : ∀ t ∈ T.nexts l j,t < n) (hcl : come.length = n) (hi : L[i]? = some (boxAcc G 4 (come.map Value.bool))) (hia : L[ia]? = some (boxAcc A 22 [.slice (some ⟨b,o,none⟩) n c])) (hic : L[ic]? = some (boxAcc C 80 [.slice (some ⟨G,0,none⟩) n n])) (h1 : i ≠ ia) (h2 : i ≠ ic) :
  Calls Tryz.prog 31 #[.int .i64 (j : Int),.pointer (some ⟨A,0,none⟩),.pointer (some ⟨C,0,none⟩)] w fun e w' => e = .returned (.int .i64 (if (T.comeStep l come j).getD j false = false then 103 else 0)) ∧ Bank w0 w' (L.set i (boxAcc G 4 ((T.comeStep l come j).map Value.bool))) := by
 rw [comeStep_all]
 obtain ⟨ts,hts⟩ : ∃ ts,T.nexts l j = ts := ⟨_,rfl⟩
 have HNP := Lib.hid (fun (w : World) (hr : InsRd w b o l) => next_any b o c n l j w hr hl hn hj hR hf hof)
 have hnb : ts.length ≤ 2 := by rw [← hts]; exact nexts_len l j
 rw [hts] at hto HNP ⊢
 obtain ⟨res,hres⟩ : ∃ r : Int,(if (markAll come j ts).getD j false = false then 103 else 0) = r := ⟨_,rfl⟩
 rw [hres]
 have HRES := Lib.hid hres
 clear hres
 have HTO := Lib.hid hto
 have HR := Lib.hid hr
 have HCL := Lib.hid hcl
 clear hto hr hcl hf hR
 have BK0 := Lib.hid hB
 clear hB
 have HIA := Lib.hid (fun x => show (L.set i x)[ia]? = some (boxAcc A 22 [.slice (some ⟨b,o,none⟩) n c]) by rw [List.getElem?_set_ne h1]; exact hia)
 have HIC := Lib.hid (fun x => show (L.set i x)[ic]? = some (boxAcc C 80 [.slice (some ⟨G,0,none⟩) n n]) by rw [List.getElem?_set_ne h2]; exact hic)
 have HID := Lib.hid (fun x => show (L.set i x)[i]? = some x from List.getElem?_set_self (List.getElem?_eq_some_iff.1 hi).1)
 have hset : L.set i (boxAcc G 4 (come.map Value.bool)) = L := set_same' hi
 have hGlt := (BK0.out.boxAt i hi).2
 have hGl : G < w.heap.size := (Array.getElem?_eq_some_iff.1 hGlt).1
 clear hGlt
 have a0 := BK0.out.cell ia hia 0 rfl
 have j0 : (0 : Int) ≤ (j : Int) := by omega
 have j1 : (j : Int) < (n : Int) := by omega
 go_enter Tryz.func31,Tryz.ntmps31
 go_wp2_with fail
 refine (HNP.out _ (HR.out.since BK0.out.since)).mono ?_
 rintro e w2 ⟨A',n',c',rfl,hn',hs,hrow⟩
 have BK1 := Lib.hid (BK0.out.call hs)
 have HROW := Lib.hid (show ∀ (k t : Nat),ts[k]? = some t → ∃ b' o',A' = some ⟨b',o',none⟩ ∧ b' ≠ G ∧ w2.cell? ⟨b',o' + k,none⟩ = some (.int .i64 (t : Int)) from fun k t hk => by
  rcases hrow with ⟨e,_⟩ | ⟨b',o',e1,e2,e3⟩
  ·subst e; simp at hk
  ·exact ⟨b',o',e1,by omega,e3 k t hk⟩)
 have HN := Lib.hid hn'
 have hnb2 : n' ≤ 2 := by omega
 clear hs hrow a0 BK0 hn'
 go_wp2
 go_loopw [6,11] (fun v x wr => ∃ k : Nat,k ≤ n' ∧ x = .int .i64 (k : Int) ∧ Bank w0 wr (L.set i (boxAcc G 4 ((markAll come j (ts.take k)).map Value.bool))) ∧ (∀ (q t : Nat),ts[q]? = some t → ∃ b' o',A' = some ⟨b',o',none⟩ ∧ b' ≠ G ∧ wr.cell? ⟨b',o' + q,none⟩ = some (.int .i64 (t : Int)))) (fun _ x _ => n' - (intOf x).toNat)
 case atStart => exact ⟨0,Nat.zero_le _,rfl,by show Bank w0 w2 (L.set i (boxAcc G 4 (come.map Value.bool))); rw [hset]; exact BK1.out,HROW.out⟩
 case round =>
  obtain ⟨k,hk,rfl,hB,hrw⟩ := hrel
  have HB := Lib.hid hB
  have HRW := Lib.hid hrw
  clear hB hrw
  have k0 : (0 : Int) ≤ (k : Int) := by omega
  by_cases hlt : k < n'
  ·have i1 : (k : Int) < (n' : Int) := by omega
   obtain ⟨t,ht⟩ : ∃ t,ts[k]? = some t := ⟨ts[k]'(by have := HN.out; omega),List.getElem?_eq_getElem _⟩
   have htn : t < n := HTO.out t (List.mem_of_getElem? ht)
   obtain ⟨b',o',rfl,hbG,hct⟩ := HRW.out k t ht
   have HMT := Lib.hid (markAll_take come j ts k t ht)
   obtain ⟨cm,hcm⟩ : ∃ cm,markAll come j (ts.take k) = cm := ⟨_,rfl⟩
   have hcml : cm.length = n := by rw [← hcm,markAll_length]; exact HCL.out
   have HB' := Lib.hid (show Bank w0 wr (L.set i (boxAcc G 4 (cm.map Value.bool))) by rw [← hcm]; exact HB.out)
   rw [hcm] at HMT
   have HCM := Lib.hid hcml
   clear hcm HB
   have t0 : (0 : Int) ≤ (t : Int) := by omega
   have t1 : (t : Int) < (n : Int) := by omega
   have d0 := HB'.out.cell ic (HIC.out _) 0 rfl
   have e0 := HB'.out.cell i (HID.out _) t (boolAt cm t (by omega))
   have e1 := HB'.out.cell i (HID.out _) j (boolAt cm j (by omega))
   have e2 := HB'.out.free i (HID.out _) t
   obtain ⟨x,hx⟩ : ∃ x,cm.getD t false = x := ⟨_,rfl⟩
   obtain ⟨y,hy⟩ : ∃ y,cm.getD j false = y := ⟨_,rfl⟩
   rw [hx] at e0
   rw [hy] at e1
   have HFB := Lib.hid (show Bank w0 (wr.drew.setCell ⟨G,t,none⟩ (.bool (x || y))) (L.set i (boxAcc G 4 ((T.markTo cm j t).map Value.bool))) by
    have h := HB'.out.drew.boxSet i (HID.out _) t (.bool (x || y))
    rw [List.set_set,← List.map_set] at h
    unfold T.markTo
    rw [hx,hy]
    exact h)
   have HRW2 := Lib.hid (show ∀ (q t' : Nat),ts[q]? = some t' → ∃ b'' o'',some ⟨b',o',none⟩ = some (⟨b'',o'',none⟩ : Addr) ∧ b'' ≠ G ∧ (wr.drew.setCell ⟨G,t,none⟩ (.bool (x || y))).cell? ⟨b'',o'' + q,none⟩ = some (.int .i64 (t' : Int)) from fun q t' hq => by
    obtain ⟨b2,o2,e1,e2,e3⟩ := HRW.out q t' hq
    refine ⟨b2,o2,e1,e2,?_⟩
    rw [World.cell?_setCell_other _ _ _ _ (fun e => e2 (by injection e with h1 _; exact h1.symm))]
    exact e3)
   clear hx hy
   cases x
   case false =>
    go_upto_region 4 with fail
    refine WL.region (SApp 13 (fun w' => w'.cell? ⟨C,0,none⟩ = some (.slice (some ⟨G,0,none⟩) n n) ∧ w'.cell? ⟨G,t,none⟩ = some (.bool false) ∧ w'.cell? ⟨G,j,none⟩ = some (.bool y)) (fun _ => True)) (by kernel_rfl) ?_
    intro hsh
    have hS : SApp 13 (fun w' => w'.cell? ⟨C,0,none⟩ = some (.slice (some ⟨G,0,none⟩) n n) ∧ w'.cell? ⟨G,t,none⟩ = some (.bool false) ∧ w'.cell? ⟨G,j,none⟩ = some (.bool y)) (fun _ => True) (Array.replicate 14 false) wr.drew := ⟨fun _ => ⟨d0,e0,e1⟩,trivial⟩
    refine WL.take (i := 0) (v := .slice (some ⟨G,0,none⟩) n n) rfl (by kernel_rfl) (by kernel_rfl) (by kernel_rfl) (fun _ _ _ h => h) (SApp.hm (by decide)) (SApp.both (by kernel_rfl)) hsh (Or.inl ⟨by kernel_rfl,?_⟩) hS ?_
    ·intro w hSw
     obtain ⟨⟨s1,s2,s3⟩,_⟩ := hSw
     go_simp
    clear hsh hS; intro hsh hS
    (try simp only [Act.put,sA,sZ,sS])
    refine WL.take (i := 1) (v := .int .i64 (t : Int)) (S0 := fun _ => True) rfl (by kernel_rfl) (by kernel_rfl) (by kernel_rfl) (fun _ _ _ h => h) (SApp.hm (by decide)) (SApp.any) hsh (Or.inl ⟨by kernel_rfl,?_⟩) hS ?_
    ·intro w hSw
     clear hSw
     go_simp
    clear hsh hS; intro hsh hS
    (try simp only [Act.put,sA,sZ,sS])
    refine WL.take (i := 2) (v := .slice (some ⟨G,0,none⟩) n n) rfl (by kernel_rfl) (by kernel_rfl) (by kernel_rfl) (fun _ _ _ h => h) (SApp.hm (by decide)) (SApp.both (by kernel_rfl)) hsh (Or.inl ⟨by kernel_rfl,?_⟩) hS ?_
    ·intro w hSw
     obtain ⟨⟨s1,s2,s3⟩,_⟩ := hSw
     go_simp
    clear hsh hS; intro hsh hS
    (try simp only [Act.put,sA,sZ,sS])
    refine WL.take (i := 3) (v := .int .i64 (t : Int)) (S0 := fun _ => True) rfl (by kernel_rfl) (by kernel_rfl) (by kernel_rfl) (fun _ _ _ h => h) (SApp.hm (by decide)) (SApp.any) hsh (Or.inl ⟨by kernel_rfl,?_⟩) hS ?_
    ·intro w hSw
     clear hSw
     go_simp
    clear hsh hS; intro hsh hS
    (try simp only [Act.put,sA,sZ,sS])
    refine WL.take (i := 4) (v := .pointer (some ⟨G,t,none⟩)) (S0 := fun _ => True) rfl (by kernel_rfl) (by kernel_rfl) (by kernel_rfl) (fun _ _ _ h => h) (SApp.hm (by decide)) (SApp.any) hsh (Or.inl ⟨by kernel_rfl,?_⟩) hS ?_
    ·intro w hSw
     clear hSw
     go_simp
    clear hsh hS; intro hsh hS
    (try simp only [Act.put,sA,sZ,sS])
    refine WL.take (i := 5) (v := .bool false) rfl (by kernel_rfl) (by kernel_rfl) (by kernel_rfl) (fun _ _ _ h => h) (SApp.hm (by decide)) (SApp.both (by kernel_rfl)) hsh (Or.inl ⟨by kernel_rfl,?_⟩) hS ?_
    ·intro w hSw
     obtain ⟨⟨s1,s2,s3⟩,_⟩ := hSw
     go_simp
    clear hsh hS; intro hsh hS
    (try simp only [Act.put,sA,sZ,sS])
    refine WL.take (i := 6) (v := .bool false) (S0 := fun _ => True) rfl (by kernel_rfl) (by kernel_rfl) (by kernel_rfl) (fun _ _ _ h => h) (SApp.hm (by decide)) (SApp.any) hsh (Or.inl ⟨by kernel_rfl,?_⟩) hS ?_
    ·intro w hSw
     clear hSw
     go_simp
    clear hsh hS; intro hsh hS
    (try simp only [Act.put,sA,sZ,sS])
    refine WL.take (i := 7) (v := .slice (some ⟨G,0,none⟩) n n) rfl (by kernel_rfl) (by kernel_rfl) (by kernel_rfl) (fun _ _ _ h => h) (SApp.hm (by decide)) (SApp.both (by kernel_rfl)) hsh (Or.inl ⟨by kernel_rfl,?_⟩) hS ?_
    ·intro w hSw
     obtain ⟨⟨s1,s2,s3⟩,_⟩ := hSw
     go_simp
    clear hsh hS; intro hsh hS
    (try simp only [Act.put,sA,sZ,sS])
    refine WL.take (i := 8) (v := .int .i64 (j : Int)) (S0 := fun _ => True) rfl (by kernel_rfl) (by kernel_rfl) (by kernel_rfl) (fun _ _ _ h => h) (SApp.hm (by decide)) (SApp.any) hsh (Or.inl ⟨by kernel_rfl,?_⟩) hS ?_
    ·intro w hSw
     clear hSw
     go_simp
    clear hsh hS; intro hsh hS
    (try simp only [Act.put,sA,sZ,sS])
    refine WL.take (i := 9) (v := .pointer (some ⟨G,j,none⟩)) (S0 := fun _ => True) rfl (by kernel_rfl) (by kernel_rfl) (by kernel_rfl) (fun _ _ _ h => h) (SApp.hm (by decide)) (SApp.any) hsh (Or.inl ⟨by kernel_rfl,?_⟩) hS ?_
    ·intro w hSw
     clear hSw
     go_simp
    clear hsh hS; intro hsh hS
    (try simp only [Act.put,sA,sZ,sS])
    refine WL.take (i := 10) (v := .bool y) rfl (by kernel_rfl) (by kernel_rfl) (by kernel_rfl) (fun _ _ _ h => h) (SApp.hm (by decide)) (SApp.both (by kernel_rfl)) hsh (Or.inl ⟨by kernel_rfl,?_⟩) hS ?_
    ·intro w hSw
     obtain ⟨⟨s1,s2,s3⟩,_⟩ := hSw
     go_simp
    clear hsh hS; intro hsh hS
    (try simp only [Act.put,sA,sZ,sS])
    refine WL.take (i := 11) (v := .bool y) (S0 := fun _ => True) rfl (by kernel_rfl) (by kernel_rfl) (by kernel_rfl) (fun _ _ _ h => h) (SApp.hm (by decide)) (SApp.any) hsh (Or.inl ⟨by kernel_rfl,?_⟩) hS ?_
    ·intro w hSw
     clear hSw
     go_simp
    clear hsh hS; intro hsh hS
    (try simp only [Act.put,sA,sZ,sS])
    refine WL.take (i := 12) (v := .pointer (some ⟨G,t,none⟩)) (S0 := fun _ => True) rfl (by kernel_rfl) (by kernel_rfl) (by kernel_rfl) (fun _ _ _ h => h) (SApp.hm (by decide)) (SApp.any) hsh (Or.inl ⟨by kernel_rfl,?_⟩) hS ?_
    ·intro w hSw
     clear hSw
     go_simp
    clear hsh hS; intro hsh hS
    (try simp only [Act.put,sA,sZ,sS])
    have HSH := Lib.hid hsh
    clear hsh hS
    refine WL.one (i := 13) HSH.out (by kernel_rfl) rfl ?_
    intro K hK
    have HK := Lib.hid hK
    clear hK
    go_simp
    refine HK.out _ _ (SApp.intro (fun h => (by cases h)) trivial) ?_
    clear K HK HSH
    intro _ _
    (try simp only [Act.put,sA,sZ,sS])
    refine WL.done (by kernel_rfl) ?_ _
    try simp only [Exit.then]
    go_wp2
    go_round
    case rel => exact ⟨k + 1,by omega,by go_num,by rw [HMT.out]; exact HFB.out,HRW2.out⟩
    case measure => simp [intOf]; omega
   case true =>
    go_upto_region 4 with fail
    refine WL.region (SApp 13 (fun w' => w'.cell? ⟨C,0,none⟩ = some (.slice (some ⟨G,0,none⟩) n n) ∧ w'.cell? ⟨G,t,none⟩ = some (.bool true) ∧ w'.cell? ⟨G,j,none⟩ = some (.bool y)) (fun _ => True)) (by kernel_rfl) ?_
    intro hsh
    have hS : SApp 13 (fun w' => w'.cell? ⟨C,0,none⟩ = some (.slice (some ⟨G,0,none⟩) n n) ∧ w'.cell? ⟨G,t,none⟩ = some (.bool true) ∧ w'.cell? ⟨G,j,none⟩ = some (.bool y)) (fun _ => True) (Array.replicate 14 false) wr.drew := ⟨fun _ => ⟨d0,e0,e1⟩,trivial⟩
    refine WL.take (i := 0) (v := .slice (some ⟨G,0,none⟩) n n) rfl (by kernel_rfl) (by kernel_rfl) (by kernel_rfl) (fun _ _ _ h => h) (SApp.hm (by decide)) (SApp.both (by kernel_rfl)) hsh (Or.inl ⟨by kernel_rfl,?_⟩) hS ?_
    ·intro w hSw
     obtain ⟨⟨s1,s2,s3⟩,_⟩ := hSw
     go_simp
    clear hsh hS; intro hsh hS
    (try simp only [Act.put,sA,sZ,sS])
    refine WL.take (i := 1) (v := .int .i64 (t : Int)) (S0 := fun _ => True) rfl (by kernel_rfl) (by kernel_rfl) (by kernel_rfl) (fun _ _ _ h => h) (SApp.hm (by decide)) (SApp.any) hsh (Or.inl ⟨by kernel_rfl,?_⟩) hS ?_
    ·intro w hSw
     clear hSw
     go_simp
    clear hsh hS; intro hsh hS
    (try simp only [Act.put,sA,sZ,sS])
    refine WL.take (i := 2) (v := .slice (some ⟨G,0,none⟩) n n) rfl (by kernel_rfl) (by kernel_rfl) (by kernel_rfl) (fun _ _ _ h => h) (SApp.hm (by decide)) (SApp.both (by kernel_rfl)) hsh (Or.inl ⟨by kernel_rfl,?_⟩) hS ?_
    ·intro w hSw
     obtain ⟨⟨s1,s2,s3⟩,_⟩ := hSw
     go_simp
    clear hsh hS; intro hsh hS
    (try simp only [Act.put,sA,sZ,sS])
    refine WL.take (i := 3) (v := .int .i64 (t : Int)) (S0 := fun _ => True) rfl (by kernel_rfl) (by kernel_rfl) (by kernel_rfl) (fun _ _ _ h => h) (SApp.hm (by decide)) (SApp.any) hsh (Or.inl ⟨by kernel_rfl,?_⟩) hS ?_
    ·intro w hSw
     clear hSw
     go_simp
    clear hsh hS; intro hsh hS
    (try simp only [Act.put,sA,sZ,sS])
    refine WL.take (i := 4) (v := .pointer (some ⟨G,t,none⟩)) (S0 := fun _ => True) rfl (by kernel_rfl) (by kernel_rfl) (by kernel_rfl) (fun _ _ _ h => h) (SApp.hm (by decide)) (SApp.any) hsh (Or.inl ⟨by kernel_rfl,?_⟩) hS ?_
    ·intro w hSw
     clear hSw
     go_simp
    clear hsh hS; intro hsh hS
    (try simp only [Act.put,sA,sZ,sS])
    refine WL.take (i := 5) (v := .bool true) rfl (by kernel_rfl) (by kernel_rfl) (by kernel_rfl) (fun _ _ _ h => h) (SApp.hm (by decide)) (SApp.both (by kernel_rfl)) hsh (Or.inl ⟨by kernel_rfl,?_⟩) hS ?_
    ·intro w hSw
     obtain ⟨⟨s1,s2,s3⟩,_⟩ := hSw
     go_simp
    clear hsh hS; intro hsh hS
    (try simp only [Act.put,sA,sZ,sS])
    refine WL.take (i := 6) (v := .bool true) (S0 := fun _ => True) rfl (by kernel_rfl) (by kernel_rfl) (by kernel_rfl) (fun _ _ _ h => h) (SApp.hm (by decide)) (SApp.any) hsh (Or.inl ⟨by kernel_rfl,?_⟩) hS ?_
    ·intro w hSw
     clear hSw
     go_simp
    clear hsh hS; intro hsh hS
    (try simp only [Act.put,sA,sZ,sS])
    refine WL.take (i := 7) (v := undef) (S0 := fun _ => True) rfl (by kernel_rfl) (by kernel_rfl) (by kernel_rfl) (fun _ _ _ h => h) (SApp.hm (by decide)) (SApp.any) hsh (Or.inr ⟨by kernel_rfl,rfl⟩) hS ?_
    clear hsh hS; intro hsh hS
    (try simp only [Act.put,sA,sZ,sS])
    refine WL.take (i := 8) (v := undef) (S0 := fun _ => True) rfl (by kernel_rfl) (by kernel_rfl) (by kernel_rfl) (fun _ _ _ h => h) (SApp.hm (by decide)) (SApp.any) hsh (Or.inr ⟨by kernel_rfl,rfl⟩) hS ?_
    clear hsh hS; intro hsh hS
    (try simp only [Act.put,sA,sZ,sS])
    refine WL.take (i := 9) (v := undef) (S0 := fun _ => True) rfl (by kernel_rfl) (by kernel_rfl) (by kernel_rfl) (fun _ _ _ h => h) (SApp.hm (by decide)) (SApp.any) hsh (Or.inr ⟨by kernel_rfl,rfl⟩) hS ?_
    clear hsh hS; intro hsh hS
    (try simp only [Act.put,sA,sZ,sS])
    refine WL.take (i := 10) (v := undef) (S0 := fun _ => True) rfl (by kernel_rfl) (by kernel_rfl) (by kernel_rfl) (fun _ _ _ h => h) (SApp.hm (by decide)) (SApp.any) hsh (Or.inr ⟨by kernel_rfl,rfl⟩) hS ?_
    clear hsh hS; intro hsh hS
    (try simp only [Act.put,sA,sZ,sS])
    refine WL.take (i := 11) (v := .bool true) (S0 := fun _ => True) rfl (by kernel_rfl) (by kernel_rfl) (by kernel_rfl) (fun _ _ _ h => h) (SApp.hm (by decide)) (SApp.any) hsh (Or.inl ⟨by kernel_rfl,?_⟩) hS ?_
    ·intro w hSw
     clear hSw
     go_simp
    clear hsh hS; intro hsh hS
    (try simp only [Act.put,sA,sZ,sS])
    refine WL.take (i := 12) (v := .pointer (some ⟨G,t,none⟩)) (S0 := fun _ => True) rfl (by kernel_rfl) (by kernel_rfl) (by kernel_rfl) (fun _ _ _ h => h) (SApp.hm (by decide)) (SApp.any) hsh (Or.inl ⟨by kernel_rfl,?_⟩) hS ?_
    ·intro w hSw
     clear hSw
     go_simp
    clear hsh hS; intro hsh hS
    (try simp only [Act.put,sA,sZ,sS])
    have HSH := Lib.hid hsh
    clear hsh hS
    refine WL.one (i := 13) HSH.out (by kernel_rfl) rfl ?_
    intro K hK
    have HK := Lib.hid hK
    clear hK
    go_simp
    refine HK.out _ _ (SApp.intro (fun h => (by cases h)) trivial) ?_
    clear K HK HSH
    intro _ _
    (try simp only [Act.put,sA,sZ,sS])
    refine WL.done (by kernel_rfl) ?_ _
    try simp only [Exit.then]
    go_wp2
    go_round
    case rel => exact ⟨k + 1,by omega,by go_num,by rw [HMT.out]; exact HFB.out,HRW2.out⟩
    case measure => simp [intOf]; omega
  ·have i1 : ¬ (k : Int) < (n' : Int) := by omega
   obtain rfl : k = n' := by omega
   have HE := Lib.hid (show ts.take k = ts from List.take_of_length_le (by have := HN.out; omega))
   rw [HE.out] at HB
   have HFL := Lib.hid (show (markAll come j ts).length = n by rw [markAll_length]; exact HCL.out)
   have d0 := HB.out.cell ic (HIC.out _) 0 rfl
   have e1 := HB.out.cell i (HID.out _) j (boolAt (markAll come j ts) j (by have := HFL.out; omega))
   cases hy : (markAll come j ts).getD j false
   all_goals
    rw [hy] at e1
    have HY := Lib.hid hy
    clear hy
    go_wp2_with fail
    refine (when_any _ _ _).mono ?_
    rintro e w9 ⟨rfl,rfl⟩
    go_wp2
    go_ret
    exact ⟨by rw [← HRES.out,HY.out]; rfl,HB.out⟩
end Go.Proofs.YtfeipbgnjainlaaGreat.K
/- Rows of instructions that came in, out of the statement's own reading of the arguments. -/
namespace Go.Proofs.YtfeipbgnjainlaaGreat.K
open Go Go.RowKit Go.ChangeShapes Go.WideShapes Go.Deep

set_option maxRecDepth 100000
theorem cellsIns : Tryz.prog.cellsOf 31 = 8 := by kernel_rfl
theorem cellsOp : Tryz.prog.cellsOf 29 = 1 := by kernel_rfl
/-- numbers that fit -/
structure InI (i : T.Ins) : Prop where
 op : 0 ≤ i.op ∧ i.op < 256
 dst : M.inI64 i.dst
 src : M.inI64 i.src
 off : M.inI64 i.off
 imm : M.inI64 i.imm
 size : M.inI64 i.size
section
variable {H : Type} {enc : TypeId × Value → H} {W : World} {base b0 : Nat} {sp : Nat → Bool} {held : Bool} {r : Reach}
theorem cs_op {fuel : Nat} {v : Value} {x : DataW H × List MemPlace} (h : DataW.trod enc Tryz.prog W base sp held fuel 29 [v] = some x) : ∃ n : Int,v = .int .u8 n ∧ 0 ≤ n ∧ n < 256 := by
 obtain ⟨n,hcs,_,hw⟩ := DataW.trod_int Tryz.underlying29 h
 obtain rfl : v = .int .u8 n := by simpa using hcs
 refine ⟨n,rfl,?_⟩
 simp [Lit.wf,IntKind.min,IntKind.max,IntKind.bits,IntKind.signed] at hw
 omega
theorem cs_ins {fuel : Nat} {cs : List Value} {x : DataW H × List MemPlace} (h : DataW.trod enc Tryz.prog W base sp held fuel 31 cs = some x) :
  ∃ i : T.Ins,cs = insL i ∧ InI i := by
 obtain ⟨xs,n,_,_,hlen,hxl,hf⟩ := DataW.trod_struct Tryz.underlying31 h
 rw [cellsIns] at hlen
 match cs,hlen with
 | [c0,c1,c2,c3,c4,c5,c6,c7],_ =>
  match xs,hxl with
  | [y0,y1,y2,y3,y4,y5,y6,y7],_ =>
   have f0 : DataW.trod enc Tryz.prog W base sp held n 29 [c0] = some y0 := by simpa [cellsOp] using hf 0 _ rfl
   have f1 : DataW.trod enc Tryz.prog W base sp held n 4 [c1] = some y1 := by simpa [cellsBool] using hf 1 _ rfl
   have f2 : DataW.trod enc Tryz.prog W base sp held n 3 [c2] = some y2 := by simpa [cellsInt] using hf 2 _ rfl
   have f3 : DataW.trod enc Tryz.prog W base sp held n 3 [c3] = some y3 := by simpa [cellsInt] using hf 3 _ rfl
   have f4 : DataW.trod enc Tryz.prog W base sp held n 4 [c4] = some y4 := by simpa [cellsBool] using hf 4 _ rfl
   have f5 : DataW.trod enc Tryz.prog W base sp held n 3 [c5] = some y5 := by simpa [cellsInt] using hf 5 _ rfl
   have f6 : DataW.trod enc Tryz.prog W base sp held n 3 [c6] = some y6 := by simpa [cellsInt] using hf 6 _ rfl
   have f7 : DataW.trod enc Tryz.prog W base sp held n 3 [c7] = some y7 := by simpa [cellsInt] using hf 7 _ rfl
   obtain ⟨a,rfl,ha⟩ := cs_op f0
   obtain ⟨b,rfl⟩ := cs_bool f1
   obtain ⟨d,rfl,hd⟩ := cs_int f2
   obtain ⟨s,rfl,hs⟩ := cs_int f3
   obtain ⟨u,rfl⟩ := cs_bool f4
   obtain ⟨o,rfl,ho⟩ := cs_int f5
   obtain ⟨m,rfl,hm⟩ := cs_int f6
   obtain ⟨z,rfl,hz⟩ := cs_int f7
   exact ⟨⟨a,b,d,s,u,o,m,z⟩,rfl,ha,hd,hs,ho,hm,hz⟩
theorem open_ins {v : Value} {d : DataW H} {p : List MemPlace} (hv : Value.okWide Tryz.prog W r b0 22 v) (h : DataW.Trod enc Tryz.prog W base sp held 22 v d p) :
  ∃ A n c l,v = .slice A n c ∧ l.length = n ∧ (l = [] ∨ ∃ b o,A = some ⟨b,o,none⟩ ∧ InsRd W b o l) ∧ (∀ i ∈ l,InI i) ∧ n ≤ c ∧ c ≤ 9223372036854775807 := by
 obtain ⟨A,l,c,rfl⟩ := okWide_slice Tryz.underlying22 hv
 obtain ⟨fuel,hf⟩ := h
 rcases open_slice Tryz.underlying22 hf with ⟨hcs,_⟩ | ⟨a,len,cap,m,n,D,Pl,hcs,hb,hl,hm,hmm,hx,hi⟩
 ·simp [Value.cells] at hcs
  obtain ⟨rfl,rfl,rfl⟩ := hcs
  exact ⟨none,0,0,[],rfl,rfl,.inl rfl,(fun _ hf => by cases hf),by omega,by omega⟩
 ·simp [Value.cells] at hcs
  obtain ⟨rfl,rfl,rfl⟩ := hcs
  unfold maxLen at hm
  have hlm : l ≤ m := by split at hmm <;> omega
  rw [cellsIns] at hi
  by_cases h0 : l = 0
  ·exact ⟨_,_,_,[],rfl,h0.symm,.inl rfl,(fun _ hf => by cases hf),hl,hm⟩
  obtain ⟨cs0,hc0,ht0⟩ := hi 0 (by omega)
  obtain ⟨i0,rfl,_⟩ := cs_ins ht0
  obtain ⟨_,_,hat0⟩ := World.cells?_some hc0
  obtain ⟨b,o,s⟩ := a
  have hs : s = none := by simpa [Addr.add] using World.cell?_spot ((hat0 0 (by simp)).trans rfl)
  subst hs
  have hev : ∀ j : Nat,∃ i : T.Ins,j < l → InI i ∧ ∀ k v,(insL i)[k]? = some v → W.cell? ⟨b,o + j * 8 + k,none⟩ = some v := by
   intro j
   by_cases hil : j < l
   ·obtain ⟨cs',hc,ht⟩ := hi j (by omega)
    obtain ⟨i,rfl,hI⟩ := cs_ins ht
    obtain ⟨_,_,hat⟩ := World.cells?_some hc
    refine ⟨i,fun _ => ⟨hI,fun k v hk => ?_⟩⟩
    have h1 := hat k (List.getElem?_eq_some_iff.1 hk).1
    rw [hk,Addr.add_lit,Addr.add_lit] at h1
    exact h1
   ·exact ⟨T.Ins.zero,fun h => absurd h hil⟩
  obtain ⟨f,hf2⟩ := Classical.axiomOfChoice hev
  refine ⟨_,_,_,(List.range l).map f,rfl,by simp,.inr ⟨b,o,rfl,fun j i hi2 => ?_⟩,fun i hi2 => ?_,hl,hm⟩
  ·rw [List.getElem?_map] at hi2
   cases hx2 : (List.range l)[j]? with
   | none => rw [hx2] at hi2; cases hi2
   | some k =>
    rw [hx2] at hi2
    obtain ⟨hj,e⟩ := List.getElem?_eq_some_iff.1 hx2
    rw [List.getElem_range] at e
    subst e
    cases hi2
    exact (hf2 j (by simpa using hj)).2
  ·obtain ⟨j,hj,rfl⟩ := List.mem_map.1 hi2
   exact (hf2 j (List.mem_range.1 hj)).1
end
end Go.Proofs.YtfeipbgnjainlaaGreat.K
