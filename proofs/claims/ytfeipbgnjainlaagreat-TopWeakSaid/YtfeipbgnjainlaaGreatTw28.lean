/- What all servers look at: TCkD -/
import Derived.Test.YtfeipbgnjainlaaGreatTw20
import Derived.Test.YtfeipbgnjainlaaGreatTw12
import Derived.Test.YtfeipbgnjainlaaGreatTw27
set_option linter.unusedVariables false
set_option linter.unusedSimpArgs false
/- (made by gentell.py) The contract of check's tell. -/
set_option maxRecDepth 100000
set_option maxHeartbeats 8000000
namespace Go.Proofs.YtfeipbgnjainlaaGreat.K
open Go Go.RowKit Go.Maps Go.Sort

/-- the registers' joins so far -/
def joinK (a b : List T.Kn) (j : Nat) : List T.Kn := a.mapIdx fun i x => if i < j then x.join (b.getD i T.Kn.none) else x
theorem joinK_len (a b : List T.Kn) (j : Nat) : (joinK a b j).length = a.length := by simp [joinK]
theorem joinK_zero (a b : List T.Kn) : joinK a b 0 = a := by
 apply List.ext_getElem?
 intro i
 rw [joinK,List.getElem?_mapIdx]
 cases a[i]? <;> simp
theorem joinK_get (a b : List T.Kn) (j : Nat) (h : j < a.length) : (joinK a b j)[j]'(by rw [joinK_len]; exact h) = a[j] := by
 simp [joinK]
theorem joinK_succ (a b : List T.Kn) (j : Nat) (h : j < a.length) (h2 : j < b.length) : (joinK a b j).set j (a[j].join b[j]) = joinK a b (j + 1) := by
 apply List.ext_getElem?
 intro i
 rw [List.getElem?_set,joinK,joinK,List.getElem?_mapIdx,List.getElem?_mapIdx,List.length_mapIdx]
 by_cases e : j = i
 ·subst e
  rw [if_pos rfl,if_pos h,List.getElem?_eq_getElem h]
  simp [List.getD_eq_getElem?_getD,List.getElem?_eq_getElem h2]
 ·rw [if_neg e]
  cases a[i]? with
  | none => rfl
  | some x =>
   simp only [Option.map]
   by_cases h1 : i < j
   ·rw [if_pos h1,if_pos (by omega)]
   ·rw [if_neg h1,if_neg (by omega)]
theorem joinK_all (a b : List T.Kn) (h : a.length = b.length) : joinK a b a.length = List.zipWith T.Kn.join a b := by
 apply List.ext_getElem?
 intro i
 rw [joinK,List.getElem?_mapIdx,List.getElem?_zipWith]
 by_cases hi : i < a.length
 ·rw [List.getElem?_eq_getElem hi,List.getElem?_eq_getElem (by omega)]
  simp [hi,List.getD_eq_getElem?_getD,List.getElem?_eq_getElem (show i < b.length by omega)]
 ·rw [List.getElem?_eq_none (by omega)]
  rfl
theorem byA_rd {w0 w : World} {L : List Acc} (h : Bank w0 w L) {y : PV} (hm : y.byA ∈ L) : RdC w y.gb (y.p.bytes.map Value.bool) := by
 obtain ⟨i,hi⟩ := List.mem_iff_getElem?.1 hm
 exact RdC.of h i hi
theorem regA_rd {w0 w : World} {L : List Acc} (h : Bank w0 w L) {y : PV} (hm : y.regA ∈ L) : RdC w y.gr (knsL y.p.regs) := by
 obtain ⟨i,hi⟩ := List.mem_iff_getElem?.1 hm
 exact RdC.of h i hi
theorem knsL_at {w : World} {g : Nat} {ks : List T.Kn} (h : RdC w g (knsL ks)) (k : Nat) (hk : k < ks.length) : w.cell? ⟨g,k * 3,none⟩ = some (.int .u8 ks[k].k) ∧ w.cell? ⟨g,k * 3 + 1,none⟩ = some (W64 ks[k].s.lo) ∧ w.cell? ⟨g,k * 3 + 2,none⟩ = some (W64 ks[k].s.hi) :=
 have h2 := knsL_get ks k hk
 ⟨h _ _ h2.1,h _ _ h2.2.1,h _ _ h2.2.2⟩
theorem pvsL_at {w : World} {g : Nat} {xs : List PV} (h : RdC w g (pvsL xs)) (k : Nat) (hk : k < xs.length) : w.cell? ⟨g,k * 4,none⟩ = some (.bool xs[k].p.live) ∧ w.cell? ⟨g,k * 4 + 1,none⟩ = some xs[k].rv ∧ w.cell? ⟨g,k * 4 + 2,none⟩ = some xs[k].yv ∧ w.cell? ⟨g,k * 4 + 3,none⟩ = some (.int .i64 xs[k].p.least) :=
 have h2 := pvsL_get xs k hk
 ⟨h _ _ h2.1,h _ _ h2.2.1,h _ _ h2.2.2.1,h _ _ h2.2.2.2⟩
/-- a struct of three cells is written into a row of what is known -/
theorem Bank.putKn {w0 w : World} {L : List Acc} (h : Bank w0 w L) (i : Nat) {g n c : Nat} {ks : List T.Kn} (hi : L[i]? = some (rwA g n c 113 3 (knsL ks))) (k : Nat) (hk : k < ks.length) (x : T.Kn) :
  Bank w0 (((w.setCell ⟨g,k * 3,Option.none⟩ (.int .u8 x.k)).setCell ⟨g,k * 3 + 1,Option.none⟩ (W64 x.s.lo)).setCell ⟨g,k * 3 + 2,Option.none⟩ (W64 x.s.hi)) (L.set i (rwA g n c 113 3 (knsL (ks.set k x)))) := by
 have hlt := (List.getElem?_eq_some_iff.1 hi).1
 have h1 := h.rset i hi (k * 3) (.int .u8 x.k)
 have h2 := h1.rset i (List.getElem?_set_self hlt) (k * 3 + 1) (W64 x.s.lo)
 rw [List.set_set] at h2
 have h3 := h2.rset i (List.getElem?_set_self hlt) (k * 3 + 2) (W64 x.s.hi)
 rw [List.set_set,knsL_set ks k hk x] at h3
 exact h3
theorem Bank.putPl {w0 w : World} {L : List Acc} (h : Bank w0 w L) (i : Nat) {P n c : Nat} {xs : List PV} (hi : L[i]? = some (plsA P n c xs)) (k : Nat) (hk : k < xs.length) (x : PV) :
  Bank w0 ((((w.setCell ⟨P,k * 4,Option.none⟩ (.bool x.p.live)).setCell ⟨P,k * 4 + 1,Option.none⟩ x.rv).setCell ⟨P,k * 4 + 2,Option.none⟩ x.yv).setCell ⟨P,k * 4 + 3,Option.none⟩ (.int .i64 x.p.least)) (L.set i (plsA P n c (xs.set k x))) := by
 have hlt := (List.getElem?_eq_some_iff.1 hi).1
 have h1 := h.rset i hi (k * 4) (.bool x.p.live)
 have h2 := h1.rset i (List.getElem?_set_self hlt) (k * 4 + 1) x.rv
 rw [List.set_set] at h2
 have h3 := h2.rset i (List.getElem?_set_self hlt) (k * 4 + 2) x.yv
 rw [List.set_set] at h3
 have h4 := h3.rset i (List.getElem?_set_self hlt) (k * 4 + 3) (.int .i64 x.p.least)
 rw [List.set_set,pvsL_set xs k hk x] at h4
 exact h4
theorem Bank.putPl2 {w0 w : World} {L : List Acc} (h : Bank w0 w L) (i : Nat) {P n c : Nat} {xs : List PV} (hi : L[i]? = some (plsA P n c xs)) (k : Nat) (hk : k < xs.length) (x : PV) (hlv : x.p.live = xs[k].p.live) (hrv : x.rv = xs[k].rv) :
  Bank w0 ((w.setCell ⟨P,k * 4 + 2,Option.none⟩ x.yv).setCell ⟨P,k * 4 + 3,Option.none⟩ (.int .i64 x.p.least)) (L.set i (plsA P n c (xs.set k x))) := by
 have hlt := (List.getElem?_eq_some_iff.1 hi).1
 have h3 := h.rset i hi (k * 4 + 2) x.yv
 have h4 := h3.rset i (List.getElem?_set_self hlt) (k * 4 + 3) (.int .i64 x.p.least)
 rw [List.set_set,pvsL_set2 xs k hk x hlv hrv] at h4
 exact h4
theorem PV.live_rv {x : PV} (h : x.p.live = true) : x.rv = .slice (some ⟨x.gr,0,none⟩) 11 x.cr := by simp [PV.rv,h]
theorem PV.live_yv {x : PV} (h : x.p.live = true) : x.yv = .slice (some ⟨x.gb,0,none⟩) 512 x.cb := by simp [PV.yv,h]
theorem perm4 {a b u v : Acc} {A B R : List Acc} (h : (a :: b :: A).Perm B) : (a :: b :: u :: v :: (A ++ R)).Perm (u :: v :: (B ++ R)) := by
 have h1 : (a :: b :: u :: v :: (A ++ R)).Perm (u :: v :: a :: b :: (A ++ R)) := (List.perm_append_comm (l₁ := [a,b]) (l₂ := [u,v])).append_right (A ++ R)
 exact h1.trans (((h.append_right R).cons v).cons u)
theorem Bank.rcap {w0 w : World} {L : List Acc} (h : Bank w0 w L) (i : Nat) {g n c : Nat} {e : TypeId} {size : Nat} {xs : List Value} (hi : L[i]? = some (rwA g n c e size xs)) : n ≤ c := by
 have h2 : w.ownsRow w0.heap.size e size (.slice (some ⟨g,0,Option.none⟩) n c) n xs := h.at i hi
 rcases h2.2 with ⟨h0,h1⟩ | ⟨g,cap,cur,hv,_,_,hc,_⟩
 ·cases h0
 ·simp only [Value.slice.injEq,true_and] at hv
  omega
theorem boxAcc_rw {g m : Nat} {t : TypeId} {vs : List Value} (h : vs.length = m) : boxAcc g t vs = rwA g m m t 1 vs := by subst h; rfl
theorem RdC.bo {w : World} {g : Nat} {bs : List Bool} (h : RdC w g (bs.map Value.bool)) : BoRd w g 0 bs := fun j u hj => by
 rw [Nat.zero_add]
 exact h j _ (by rw [List.getElem?_map,hj]; rfl)
theorem tell_dead (Wk P n c : Nat) (vs : List Value) (k : Nat) (y : PV) (xs : List PV) {w0 w : World} {R : List Acc} (hB : Bank w0 w (boxAcc Wk 84 vs :: plsA P n c xs :: (pvA xs ++ R))) (hv1 : vs[1]? = some (.slice (some ⟨P,0,none⟩) n c)) (hyr : y.regA ∈ R) (hyb : y.byA ∈ R) (hxl : xs.length = n) (hk : k < n) (hd : (xs[k]'(by omega)).p.live = false) (hy : y.p.Wf) :
  Calls Tryz.prog 126 #[.pointer (some ⟨Wk,0,none⟩),.int .i64 (k : Int),PlV y] w fun e w' => e = .returned (.tuple #[]) ∧ ∃ y',y'.p = y.p ∧ Bank w0 w' (boxAcc Wk 84 vs :: plsA P n c (xs.set k y') :: (pvA (xs.set k y') ++ R)) := by
 have hkx : k < xs.length := by omega
 have HP := Lib.hid (show ∀ y' : PV,y'.p.live = true → (y'.regA :: y'.byA :: pvA xs).Perm (pvA (xs.set k y')) from fun y' hl => by
  have h1 := pvA_pick xs k _ (List.getElem?_eq_getElem hkx)
  rw [PV.dead_accs hd] at h1
  have h2 := pvA_set xs k y' hkx
  rw [PV.live_accs hl] at h2
  exact ((h1.cons _).cons _).trans h2)
 have HKX := Lib.hid hkx
 have b5 := Lib.hid (hB.boxL [.bool true,.slice (some ⟨y.gr,0,none⟩) 11 y.cr,.slice (some ⟨y.gb,0,none⟩) 512 y.cb,.int .i64 y.p.least] 82 (by simp))
 have h1 := b5.out.cell 1 rfl 1 hv1
 obtain ⟨c0,c1,c2,c3⟩ := pvsL_at (RdC.of b5.out 2 rfl) k hkx
 rw [hd] at c0
 obtain ⟨p0,p1,p2,p3⟩ := b5.out.q4 0 rfl
 have k0 : (0 : Int) ≤ (k : Int) := by omega
 have k1 : (k : Int) < (n : Int) := by omega
 have HYR := Lib.hid (show y.regA ∈ boxAcc w.heap.size 82 [.bool true,.slice (some ⟨y.gr,0,none⟩) 11 y.cr,.slice (some ⟨y.gb,0,none⟩) 512 y.cb,.int .i64 y.p.least] :: boxAcc Wk 84 vs :: plsA P n c xs :: (pvA xs ++ R) from by simp [hyr])
 have HYB := Lib.hid (show y.byA ∈ boxAcc w.heap.size 82 [.bool true,.slice (some ⟨y.gr,0,none⟩) 11 y.cr,.slice (some ⟨y.gb,0,none⟩) 512 y.cb,.int .i64 y.p.least] :: boxAcc Wk 84 vs :: plsA P n c xs :: (pvA xs ++ R) from by simp [hyb])
 clear hB hd hyr hyb hv1
 unfold PlV
 go_enter Tryz.func126,Tryz.ntmps126
 go_upto_region 1 with fail
 generalize hX : w.heap.size = X at *
 change Code.wp _ _ _ _ (w.alloc (.cells #[.bool true,.slice (some ⟨y.gr,0,none⟩) 11 y.cr,.slice (some ⟨y.gb,0,none⟩) 512 y.cb,.int .i64 y.p.least] 82))
 generalize (w.alloc (.cells #[.bool true,.slice (some ⟨y.gr,0,none⟩) 11 y.cr,.slice (some ⟨y.gb,0,none⟩) 512 y.cb,.int .i64 y.p.least] 82)) = w1 at *
 clear hX
 go_wp2_with fail
 refine (copied_any y w1 hy.rl hy.bl (regA_rd b5.out HYR.out) (byA_rd b5.out HYB.out)).mono ?_
 rintro e w2 ⟨y',hp,rfl,hb⟩
 have hl : y'.p.live = true := by rw [hp]; exact hy.live
 have B2 := Lib.hid (bank_join b5.out hb)
 obtain ⟨d0,d1,d2,d3⟩ := pvsL_at (RdC.of B2.out 4 rfl) k HKX.out
 have f0 := B2.out.rfree 4 rfl (k * 4)
 have f1 := B2.out.rfree 4 rfl (k * 4 + 1)
 have f2 := B2.out.rfree 4 rfl (k * 4 + 2)
 have f3 := B2.out.rfree 4 rfl (k * 4 + 3)
 have B3 := B2.out.putPl 4 rfl k HKX.out y'
 rw [hl,PV.live_rv hl,PV.live_yv hl] at B3
 have B4 := Lib.hid B3
 have HL := Lib.hid hl
 have HPP := Lib.hid hp
 clear h1 c0 c1 c2 c3 p0 p1 p2 p3 hb b5 B2 B3 hl hp
 unfold PlV
 go_wp2
 refine bodyPost_ret (v := .tuple #[]) ?_ rfl ⟨rfl,y',HPP.out,(B4.out.sub (.cons_cons _ (.cons_cons _ (.cons _ (.refl _))))).permB (perm4 (HP.out y' HL.out))⟩
 simp [results,Tryz.results126,go_sem]
theorem tell_live (Wk P n c : Nat) (vs : List Value) (k : Nat) (y q : PV) (xs : List PV) {w0 w : World} {S : List Acc} (hB : Bank w0 w (q.regA :: q.byA :: boxAcc Wk 84 vs :: plsA P n c xs :: S)) (hv1 : vs[1]? = some (.slice (some ⟨P,0,none⟩) n c)) (hyr : y.regA ∈ S) (hyb : y.byA ∈ S) (hxl : xs.length = n) (hq : xs[k]? = some q) (hl : q.p.live = true) (hw : q.p.Wf) (hy : y.p.Wf) :
  Calls Tryz.prog 126 #[.pointer (some ⟨Wk,0,none⟩),.int .i64 (k : Int),PlV y] w fun e w' => e = .returned (.tuple #[]) ∧ ∃ q',q'.p = q.p.tell y.p ∧ Bank w0 w' (q'.regA :: q'.byA :: boxAcc Wk 84 vs :: plsA P n c (xs.set k q') :: S) := by
 have hk : k < xs.length := (List.getElem?_eq_some_iff.1 hq).1
 have eq : xs[k] = q := (List.getElem?_eq_some_iff.1 hq).2
 have HKX := Lib.hid hk
 have HEQ := Lib.hid eq
 have B0 := Lib.hid (Bank.permB (hB.boxL [.bool true,.slice (some ⟨y.gr,0,none⟩) 11 y.cr,.slice (some ⟨y.gb,0,none⟩) 512 y.cb,.int .i64 y.p.least] 82 (by simp)) (List.Perm.swap _ _ _))
 have hqr : q.p.regs.length = 11 := hw.rl
 have hyl : y.p.regs.length = 11 := hy.rl
 have h1 := B0.out.cell 3 rfl 1 hv1
 obtain ⟨c0,c1,c2,c3⟩ := pvsL_at (RdC.of B0.out 4 rfl) k hk
 rw [eq] at c0 c1 c2 c3
 rw [hl] at c0
 rw [PV.live_rv hl] at c1
 rw [PV.live_yv hl] at c2
 have k0 : (0 : Int) ≤ (k : Int) := by omega
 have k1 : (k : Int) < (n : Int) := by omega
 have HM := Lib.hid (fun A B => (show y.regA ∈ (A :: boxAcc w.heap.size 82 [.bool true,.slice (some ⟨y.gr,0,none⟩) 11 y.cr,.slice (some ⟨y.gb,0,none⟩) 512 y.cb,.int .i64 y.p.least] :: B :: boxAcc Wk 84 vs :: plsA P n c xs :: S) ∧ y.byA ∈ (A :: boxAcc w.heap.size 82 [.bool true,.slice (some ⟨y.gr,0,none⟩) 11 y.cr,.slice (some ⟨y.gb,0,none⟩) 512 y.cb,.int .i64 y.p.least] :: B :: boxAcc Wk 84 vs :: plsA P n c xs :: S) from ⟨by simp [hyr],by simp [hyb]⟩))
 have HF := Lib.hid (show y.byA ∈ S from hyb)
 have HV1 := Lib.hid hv1
 have HQL := Lib.hid hl
 have HW := Lib.hid hw
 have HY := Lib.hid hy
 clear hB hl hyr hyb hv1 eq hq hw hy
 unfold PlV
 go_enter Tryz.func126,Tryz.ntmps126
 go_upto_region 1 with fail
 generalize hX : w.heap.size = X at *
 change Code.wp _ _ _ _ (w.alloc (.cells #[.bool true,.slice (some ⟨y.gr,0,none⟩) 11 y.cr,.slice (some ⟨y.gb,0,none⟩) 512 y.cb,.int .i64 y.p.least] 82))
 generalize (w.alloc (.cells #[.bool true,.slice (some ⟨y.gr,0,none⟩) 11 y.cr,.slice (some ⟨y.gb,0,none⟩) 512 y.cb,.int .i64 y.p.least] 82)) = w1 at *
 clear hX
 go_wp2
 clear h1 c0 c1 c2 c3
 go_loopw [28] (fun i wr => ∃ j : Nat,j ≤ 11 ∧ i = .int .i64 (j : Int) ∧ Bank w0 wr (rwA q.gr 11 q.cr 113 3 (knsL (joinK q.p.regs y.p.regs j)) :: boxAcc X 82 [.bool true,.slice (some ⟨y.gr,0,none⟩) 11 y.cr,.slice (some ⟨y.gb,0,none⟩) 512 y.cb,.int .i64 y.p.least] :: q.byA :: boxAcc Wk 84 vs :: plsA P n c xs :: S)) (fun i _ => 11 - (intOf i).toNat)
 case atStart => exact ⟨0,by omega,rfl,by rw [joinK_zero]; exact B0.out⟩
 case round =>
  obtain ⟨j,hj,rfl,hB⟩ := hrel
  have HB := Lib.hid hB
  clear hB
  have j0 : (0 : Int) ≤ (j : Int) := by omega
  obtain ⟨c0,c1,c2,c3⟩ := pvsL_at (RdC.of HB.out 4 rfl) k HKX.out
  rw [HEQ.out] at c0 c1 c2 c3
  rw [HQL.out] at c0
  rw [PV.live_rv HQL.out] at c1
  rw [PV.live_yv HQL.out] at c2
  have p1 := HB.out.cell 1 rfl 1 rfl
  have p2 := HB.out.cell 1 rfl 2 rfl
  have p3 := HB.out.cell 1 rfl 3 rfl
  by_cases hlt : j < 11
  ·have i1 : (j : Int) < (11 : Int) := by omega
   have hjq : j < q.p.regs.length := by omega
   have hjy : j < y.p.regs.length := by omega
   have hjl : j < (joinK q.p.regs y.p.regs j).length := by rw [joinK_len]; exact hjq
   obtain ⟨d0,d1,d2⟩ := knsL_at (RdC.of HB.out 0 rfl) j hjl
   rw [joinK_get q.p.regs y.p.regs j hjq] at d0 d1 d2
   have hm := HM.out (rwA q.gr 11 q.cr 113 3 (knsL (joinK q.p.regs y.p.regs j))) q.byA
   obtain ⟨e0,e1,e2⟩ := knsL_at (regA_rd HB.out hm.1) j hjy
   have HSU := Lib.hid (joinK_succ q.p.regs y.p.regs j hjq hjy)
   have hx : q.p.regs[j].right = true := HW.out.right _ (List.getElem_mem hjq)
   have hy' : y.p.regs[j].right = true := HY.out.right _ (List.getElem_mem hjy)
   obtain ⟨u,hu⟩ : ∃ u,q.p.regs[j] = u := ⟨_,rfl⟩
   obtain ⟨v,hv⟩ : ∃ v,y.p.regs[j] = v := ⟨_,rfl⟩
   rw [hu] at d0 d1 d2 hx HSU
   rw [hv] at e0 e1 e2 hy' HSU
   have f0 := HB.out.rfree 0 rfl (j * 3)
   have f1 := HB.out.rfree 0 rfl (j * 3 + 1)
   have f2 := HB.out.rfree 0 rfl (j * 3 + 2)
   have HU := Lib.hid hu
   have d0' := d0; have d1' := d1; have d2' := d2
   clear hu hv hm d0 d1 d2 f0 f1 f2
   go_upto_region 7 with fail
   refine WL.begin 19 (fun w' => w'.cell? ⟨P,k * 4 + 1,none⟩ = some (.slice (some ⟨q.gr,0,none⟩) 11 q.cr) ∧ w'.cell? ⟨X,1,none⟩ = some (.slice (some ⟨y.gr,0,none⟩) 11 y.cr) ∧ w'.cell? ⟨q.gr,j * 3,none⟩ = some (.int .u8 u.k) ∧ w'.cell? ⟨q.gr,j * 3 + 1,none⟩ = some (W64 u.s.lo) ∧ w'.cell? ⟨q.gr,j * 3 + 2,none⟩ = some (W64 u.s.hi) ∧ w'.cell? ⟨y.gr,j * 3,none⟩ = some (.int .u8 v.k) ∧ w'.cell? ⟨y.gr,j * 3 + 1,none⟩ = some (W64 v.s.lo) ∧ w'.cell? ⟨y.gr,j * 3 + 2,none⟩ = some (W64 v.s.hi)) (fun _ => True) (by kernel_rfl) ⟨c1,p1,d0',d1',d2',e0,e1,e2⟩ trivial (fun hs => ?_)
   refine WL.tk [(0,[]),(1,[]),(2,[]),(3,[3]),(4,[]),(5,[]),(6,[]),(7,[]),(8,[8]),(9,[]),(10,[]),(11,[11]),(12,[]),(13,[13]),(14,[]),(15,[]),(16,[16])] hs ?_; clear hs
   iterate 17
    (first | refine TKs.p (v := ?_) ?_ ?_ | refine TKs.l (v := ?_) ?_ ?_); rotate_left
    ·intro w hc; go_simp <;> rfl
    simp only [Act.put,sA,sZ,sS]
   refine TKs.mk ?_; intro hs
   refine WL.o1 (i := 17) (by kernel_rfl) rfl hs ?_; clear hs
   intro K hK
   go_simp
   refine (kjoin_right u v hx hy' _).mono ?_
   rintro e w2 ⟨rfl,hs2⟩
   have B2 := Lib.hid (HB.out.drew.call hs2)
   obtain ⟨d0,d1,d2⟩ := knsL_at (RdC.of B2.out 0 rfl) j hjl
   rw [joinK_get q.p.regs y.p.regs j hjq,HU.out] at d0 d1 d2
   have f0 := B2.out.rfree 0 rfl (j * 3)
   have f1 := B2.out.rfree 0 rfl (j * 3 + 1)
   have f2 := B2.out.rfree 0 rfl (j * 3 + 2)
   unfold knv
   refine hK.out _ _ (SApp.intro (fun _ => ⟨hs2.keep c1,hs2.keep p1,hs2.keep d0',hs2.keep d1',hs2.keep d2',hs2.keep e0,hs2.keep e1,hs2.keep e2⟩) trivial) ?_
   clear hK K; intro hs; try simp only [Act.put,sA,sZ,sS]
   refine WL.tk [(18,[])] hs ?_; clear hs
   iterate 1
    (first | refine TKs.p (v := ?_) ?_ ?_ | refine TKs.l (v := ?_) ?_ ?_); rotate_left
    ·intro w hc; go_simp <;> rfl
    simp only [Act.put,sA,sZ,sS]
   refine TKs.mk ?_; intro hs
   refine WL.o1 (i := 19) (by kernel_rfl) rfl hs ?_; clear hs
   intro K hK
   go_simp
   refine hK.out _ _ (SApp.intro (fun h => (by cases h)) trivial) ?_
   clear hK K; intro hs; try simp only [Act.put]
   clear hs; refine WL.done (by kernel_rfl) ?_ _; try simp only [Exit.then]
   have B3 := Lib.hid (B2.out.putKn 0 rfl j hjl (u.join v))
   clear d0 d1 d2 f0 f1 f2 d0' d1' d2' e0 e1 e2 B2
   go_wp2
   go_round
   case rel => exact ⟨j + 1,by omega,by go_num,by rw [← HSU.out]; exact B3.out⟩
   case measure => simp [intOf]; omega
  ·have i1 : ¬ (j : Int) < (11 : Int) := by omega
   obtain rfl : j = 11 := by omega
   have HA := Lib.hid (show joinK q.p.regs y.p.regs 11 = List.zipWith T.Kn.join q.p.regs y.p.regs by rw [← hqr]; exact joinK_all _ _ (by omega))
   go_upto_region 9 with fail
   refine WL.begin 18 (fun w' => w'.cell? ⟨P,k * 4 + 2,none⟩ = some (.slice (some ⟨q.gb,0,none⟩) 512 q.cb) ∧ w'.cell? ⟨P,k * 4 + 3,none⟩ = some (.int .i64 q.p.least) ∧ w'.cell? ⟨X,2,none⟩ = some (.slice (some ⟨y.gb,0,none⟩) 512 y.cb)) (fun w' => w'.cell? ⟨X,3,none⟩ = some (.int .i64 y.p.least)) (by kernel_rfl) ⟨c2,c3,p2⟩ p3 (fun hs => ?_)
   refine WL.tk [(0,[]),(1,[]),(2,[]),(3,[]),(4,[]),(5,[5]),(6,[]),(7,[7]),(9,[]),(10,[]),(11,[]),(12,[12]),(13,[]),(14,[]),(15,[])] hs ?_; clear hs
   iterate 15
    (first | refine TKs.p (v := ?_) ?_ ?_ | refine TKs.l (v := ?_) ?_ ?_); rotate_left
    ·intro w hc; go_simp <;> rfl
    simp only [Act.put,sA,sZ,sS]
   refine TKs.mk ?_; intro hs
   refine WL.o1 (i := 8) (by kernel_rfl) rfl hs ?_; clear hs
   intro K hK
   go_simp
   have hm := HM.out (rwA q.gr 11 q.cr 113 3 (knsL (joinK q.p.regs y.p.regs 11))) q.byA
   obtain ⟨iy,hiy⟩ := List.mem_iff_getElem?.1 hm.2
   refine (stkJoin_any q.gb 0 q.cb y.gb 0 y.cb q.p.bytes y.p.bytes _ HW.out.bl HY.out.bl (HB.out.rcap 2 rfl) (HB.out.rcap iy hiy) (RdC.of HB.out.drew 2 rfl).bo (byA_rd HB.out.drew hm.2).bo).mono ?_
   rintro e w2 ⟨v,rfl,g,t,rfl,hb⟩
   rw [boxAcc_rw (m := 512) (by rw [List.length_map,List.length_zipWith,HW.out.bl,HY.out.bl]; rfl)] at hb
   have B2 := Lib.hid (bank_join HB.out.drew hb)
   clear hb hm hiy
   obtain ⟨d0,d1,d2,d3⟩ := pvsL_at (RdC.of B2.out 5 rfl) k HKX.out
   rw [HEQ.out] at d2 d3
   rw [PV.live_yv HQL.out] at d2
   have f2 := B2.out.rfree 5 rfl (k * 4 + 2)
   refine hK.out _ _ (SApp.intro (fun _ => ⟨d2,d3,B2.out.cell 2 rfl 2 rfl⟩) (B2.out.cell 2 rfl 3 rfl)) ?_
   clear hK K; intro hs; try simp only [Act.put,sA,sZ,sS]
   refine WL.tk [(16,[]),(17,[])] hs ?_; clear hs
   iterate 2
    (first | refine TKs.p (v := ?_) ?_ ?_ | refine TKs.l (v := ?_) ?_ ?_); rotate_left
    ·intro w hc; go_simp <;> rfl
    simp only [Act.put,sA,sZ,sS]
   refine TKs.mk ?_; intro hs
   refine WL.o1 (i := 18) (by kernel_rfl) rfl hs ?_; clear hs
   intro K hK
   go_simp
   have B3 := Lib.hid (B2.out.rset 5 rfl (k * 4 + 2) (.slice (some ⟨g,0,none⟩) 512 512))
   clear d0 d1 d2 d3 f2
   have e3 := B3.out.rcell 5 rfl (k * 4 + 3) (v := .int .i64 q.p.least) (by rw [List.getElem?_set_ne (by omega),(pvsL_get xs k HKX.out).2.2.2,HEQ.out])
   have f3 := B3.out.rfree 5 rfl (k * 4 + 3)
   refine hK.out _ _ (SApp.intro (fun h => (by cases h)) (B3.out.cell 2 rfl 3 rfl)) ?_
   clear hK K; intro hs; try simp only [Act.put]
   refine WL.tk [(19,[]),(20,[])] hs ?_; clear hs
   iterate 2
    (first | refine TKs.p (v := ?_) ?_ ?_ | refine TKs.l (v := ?_) ?_ ?_); rotate_left
    ·intro w hc; go_simp <;> rfl
    simp only [Act.put,sA,sZ,sS]
   refine TKs.mk ?_; intro hs
   refine WL.o1 (i := 21) (by kernel_rfl) rfl hs ?_; clear hs
   intro K hK
   go_simp
   have B4 := B2.out.putPl2 5 rfl k HKX.out ⟨⟨true,List.zipWith T.Kn.join q.p.regs y.p.regs,List.zipWith (· && ·) q.p.bytes y.p.bytes,min q.p.least y.p.least⟩,q.gr,q.cr,g,512,t⟩ (by rw [HEQ.out]; exact HQL.out.symm) (by rw [HEQ.out,PV.live_rv HQL.out]; exact PV.live_rv rfl)
   rw [PV.live_yv rfl] at B4
   have B5 := Lib.hid B4
   clear B4 e3 f3
   refine hK.out _ _ (SApp.intro (fun h => (by cases h)) (B5.out.cell 2 rfl 3 rfl)) ?_
   clear hK K; intro hs; try simp only [Act.put]
   clear hs; refine WL.done (by kernel_rfl) ?_ _; try simp only [Exit.then]
   clear B2 B3
   go_wp2
   go_end0
   refine ⟨rfl,⟨⟨true,List.zipWith T.Kn.join q.p.regs y.p.regs,List.zipWith (· && ·) q.p.bytes y.p.bytes,min q.p.least y.p.least⟩,q.gr,q.cr,g,512,t⟩,by unfold T.Pl.tell; rw [if_pos HQL.out],?_⟩
   have h := B5.out
   rw [HA.out] at h
   exact (h.sub (.cons_cons _ (.cons_cons _ (.cons _ (.cons _ (.cons_cons _ (.cons_cons _ (.refl _)))))))).swap
/-- what is known of a place, once more is told of it -/
theorem tell_any (Wk P n c : Nat) (vs : List Value) (k : Nat) (y : PV) (xs : List PV) {w0 w : World} {R : List Acc} (hB : Bank w0 w (boxAcc Wk 84 vs :: plsA P n c xs :: (pvA xs ++ R))) (hv1 : vs[1]? = some (.slice (some ⟨P,0,none⟩) n c)) (hyr : y.regA ∈ R) (hyb : y.byA ∈ R) (hxl : xs.length = n) (hk : k < n) (hw : ∀ x ∈ xs,x.p.live = true → x.p.Wf) (hy : y.p.Wf) :
  Calls Tryz.prog 126 #[.pointer (some ⟨Wk,0,none⟩),.int .i64 (k : Int),PlV y] w fun e w' => e = .returned (.tuple #[]) ∧ ∃ xs',xs'.map PV.p = T.told (xs.map PV.p) k (some y.p) ∧ Bank w0 w' (boxAcc Wk 84 vs :: plsA P n c xs' :: (pvA xs' ++ R)) := by
 have hkx : k < xs.length := by omega
 have hg : (xs.map PV.p).getD k T.Pl.dead = xs[k].p := by rw [List.getD_eq_getElem?_getD,List.getElem?_map,List.getElem?_eq_getElem hkx]; rfl
 have ht : ∀ y' : PV,y'.p = xs[k].p.tell y.p → (xs.set k y').map PV.p = T.told (xs.map PV.p) k (some y.p) := fun y' h => by
  show _ = (xs.map PV.p).set k (((xs.map PV.p).getD k T.Pl.dead).tell y.p)
  rw [hg,List.map_set,h]
 by_cases hl : xs[k].p.live = true
 ·have h1 := pvA_pick xs k _ (List.getElem?_eq_getElem hkx)
  rw [PV.live_accs hl] at h1
  refine (tell_live Wk P n c vs k y xs[k] xs (hB.permB (perm4 h1.symm).symm) hv1 (List.mem_append_right _ hyr) (List.mem_append_right _ hyb) hxl (List.getElem?_eq_getElem hkx) hl (hw _ (List.getElem_mem hkx) hl) hy).mono ?_
  rintro e w' ⟨he,q',hq,hb⟩
  have hql : q'.p.live = true := by rw [hq]; unfold T.Pl.tell; rw [if_pos hl]
  have h2 := pvA_set xs k q' hkx
  rw [PV.live_accs hql] at h2
  exact ⟨he,_,ht q' hq,hb.permB (perm4 h2)⟩
 ·have hd : xs[k].p.live = false := by simpa using hl
  refine (tell_dead Wk P n c vs k y xs hB hv1 hyr hyb hxl hk hd hy).mono ?_
  rintro e w' ⟨he,y',hy',hb⟩
  exact ⟨he,_,ht y' (by rw [hy']; unfold T.Pl.tell; rw [if_neg hl]),hb⟩
end Go.Proofs.YtfeipbgnjainlaaGreat.K
