/- Merged: MacFits, BunRef, BunRef2, BunRef3, BunPrg, BunCatch, Held, BunTried, BytesLib, WireTake, WireRest, WireCatch. -/
import Derived.Test.YtidcfjmibljkeaaDoorBs4
import Derived.Deep.RegionHeld3
import Derived.Deep.MidRow
import Derived.Stop.BytesEq
import Derived.Laws.Pointers
import Derived.Laws.BytesArg
import Derived.Lib.Bytes
import Derived.Lib.SliceRun
import Derived.WalkLawsBesides
import Derived.WalkSpells
import Derived.Defers
import Derived.Recover
/- The contracts of mac.Fits, and of the reference's Tag and Fits. -/
namespace Go.Proofs.YtidcfjmibljkeaaDoor.K
open Go Go.RowKit

/-- whether a tag is the one -/
def FitsPost (w : World) (key bs tg : List (BitVec 8)) (e : Ending) (w' : World) : Prop := e = .returned (.bool (decide (M.tag key bs = tg))) ∧ Since w w'

theorem bv_cell (l : List (BitVec 8)) : bv l = (l.map UInt8.ofBitVec).map Extern.Stop.cell := by
  simp only [bv, List.map_map]; rfl
theorem run_arrayAt {P : Program} (t e : TypeId) (n : Nat) (ht : P.underlying t = some (.array n e)) (a : Option Addr) (c : Nat) (w : World) : (Instr.arrayAt t (.slice a n c)).run P w = .ok (.pointer a) w := by
  simp [Instr.arrayAt, run_underlying ht]
theorem run_eql_bv {P : Program} (t e : TypeId) (n : Nat) (ht : P.underlying t = some (.array n e)) (he : P.underlying e = some (.int .u8)) (hsz : ∀ w, (sizeOf e).run P w = .ok 1 w) (xs ys : List (BitVec 8)) (hx : xs.length = n) (hy : ys.length = n) (w : World) :
    (binOp .eql t (.agg (bv xs).toArray) (.agg (bv ys).toArray)).run P w = .ok (.bool (decide (ys = xs))) w := by
  rw [bv_cell, bv_cell, run_eql_bytes w t e n ht he hsz _ _ (by simpa using hx) (by simpa using hy)]
  congr 2
  rw [Bool.eq_iff_iff, beq_iff_eq, decide_eq_true_iff]
  constructor
  · intro h
    have h2 := (List.map_inj_right (f := UInt8.ofBitVec) (fun a b h => by cases h; rfl)).1 h
    exact h2.symm
  · rintro rfl; rfl
theorem sizeByte (w : World) : (sizeOf 5).run Tryd.prog w = .ok 1 w := by
  obtain ⟨i0, hi, _, hz1, _⟩ := info_parts infoByte
  simp [sizeOf, typeInfo, hi, hz1]
theorem info32 (l : List (BitVec 8)) (h : l.length = 32) : (Tryd.prog.info? 65).map (·.size) = some (bv l).length := by
  rw [bv_length, h]; kernel_rfl
theorem range_of {w : World} {b o : Nat} {n c : Nat} {bs : List (BitVec 8)} (h : RowRd w ⟨some ⟨b, o, none⟩, n, c⟩ bs) : w.rangeAt b o (bv bs) := fun j v hv => by
  have h1 := h.rd.cells ⟨b, o, none⟩ rfl j v hv
  rw [Addr.add_lit] at h1
  exact h1
theorem range_since {w0 w : World} {b o : Nat} {cs : List Value} (h : w0.rangeAt b o cs) (hs : Since w0 w) : w.rangeAt b o cs := fun j v hv => (hs.cell (p := ⟨b, o + j, none⟩) (block_lt_of_cell (h j v hv))).trans (h j v hv)

set_option maxHeartbeats 4000000 in
set_option maxRecDepth 100000 in
theorem fits_any (A B C : Option Addr) (n c m d k l : Nat) (key bs tg : List (BitVec 8)) (w : World) (hk : RowRd w ⟨A, n, c⟩ key) (hr : RowRd w ⟨B, m, d⟩ bs) (ht : RowRd w ⟨C, k, l⟩ tg) (hn2 : n ≤ 100000000000) (hm2 : m ≤ 100000000000) (hk2 : k ≤ 100000000000) (hK : HasK w) (hF : HasF w) :
    Calls Tryd.prog 33 #[.slice A n c, .slice B m d, .slice C k l] w (FitsPost w key bs tg) := by
  have HKY := Lib.hid hk; have HR := Lib.hid hr; have HT := Lib.hid ht; have HK := Lib.hid hK; have HF := Lib.hid hF; have HL := Lib.hid ht.len
  clear hk hr ht hK hF
  by_cases h32 : k = 32
  · subst h32
    have htl : tg.length = 32 := HL.out
    obtain ⟨b, o, hC, _, _⟩ := HT.out.rd.lay (by omega)
    obtain rfl : C = some ⟨b, o, none⟩ := hC
    have hrg := range_of HT.out
    have HRG := Lib.hid hrg
    have hi1 := info32 tg htl
    have hi2 := info32 (M.tag key bs) (M.tag_length key bs)
    have hu := Tryd.underlying65
    have harr := fun (a : Option Addr) (c : Nat) (w : World) => run_arrayAt (P := Tryd.prog) 65 5 32 Tryd.underlying65 a c w
    have heq := fun (w : World) => run_eql_bv (P := Tryd.prog) 65 5 32 Tryd.underlying65 Tryd.underlying5 sizeByte tg (M.tag key bs) htl (M.tag_length key bs) w
    clear hrg
    have HTL := Lib.hid htl
    clear htl
    go_enter Tryd.func33, Tryd.ntmps33
    go_wp2_with fail
    have hsd : Since w w.drew := Since.drew (Below.refl _ _)
    have hrd := range_since HRG.out hsd
    refine wp_region_noPanic ?_
    refine wp_region_held_drew (S := fun w' => w'.rangeAt b o (bv tg)) (by kernel_rfl) hrd (fun hHeld => ?_)
    refine wpAnyH_take (i := 0) (v := ?_) rfl (by kernel_rfl) (by kernel_rfl) (by kernel_rfl) (fun _ _ _ h => h) (Or.inl ⟨by rfl, ?_⟩) hHeld ?_
    rotate_left
    · intro w hSw; clear hSw; go_simp <;> rfl
    try simp only [Act.put, List.setIfInBounds_toArray, List.set_cons_zero, List.set_cons_succ]
    refine wpAnyH_take (i := 1) (v := ?_) rfl (by kernel_rfl) (by kernel_rfl) (by kernel_rfl) (fun _ _ _ h => h) (Or.inl ⟨by rfl, ?_⟩) hHeld ?_
    rotate_left
    · intro w hSw; clear hSw; go_simp <;> rfl
    try simp only [Act.put, List.setIfInBounds_toArray, List.set_cons_zero, List.set_cons_succ]
    refine wpAnyH_take (i := 2) (v := ?_) rfl (by kernel_rfl) (by kernel_rfl) (by kernel_rfl) (fun _ _ _ h => h) (Or.inl ⟨by rfl, ?_⟩) hHeld ?_
    rotate_left
    · intro w hSw; clear hSw; go_simp <;> rfl
    try simp only [Act.put, List.setIfInBounds_toArray, List.set_cons_zero, List.set_cons_succ]
    refine wpAnyH_take (i := 3) (v := ?_) rfl (by kernel_rfl) (by kernel_rfl) (by kernel_rfl) (fun _ _ _ h => h) (Or.inl ⟨by rfl, ?_⟩) hHeld ?_
    rotate_left
    · intro w hSw; clear hSw; go_simp <;> rfl
    try simp only [Act.put, List.setIfInBounds_toArray, List.set_cons_zero, List.set_cons_succ]
    refine wpAnyH_take (i := 4) (v := ?_) rfl (by kernel_rfl) (by kernel_rfl) (by kernel_rfl) (fun _ _ _ h => h) (Or.inl ⟨by rfl, ?_⟩) hHeld ?_
    rotate_left
    · intro w hSw; clear hSw; go_simp <;> rfl
    try simp only [Act.put, List.setIfInBounds_toArray, List.set_cons_zero, List.set_cons_succ]
    refine wpAnyH_take (i := 7) (v := ?_) rfl (by kernel_rfl) (by kernel_rfl) (by kernel_rfl) (fun _ _ _ h => h) (Or.inl ⟨by rfl, ?_⟩) hHeld ?_
    rotate_left
    · intro w hSw; clear hSw; go_simp <;> rfl
    try simp only [Act.put, List.setIfInBounds_toArray, List.set_cons_zero, List.set_cons_succ]
    refine wpAnyH_take (i := 8) (v := ?_) rfl (by kernel_rfl) (by kernel_rfl) (by kernel_rfl) (fun _ _ _ h => h) (Or.inl ⟨by rfl, ?_⟩) hHeld ?_
    rotate_left
    · intro w hSw; clear hSw; go_simp <;> rfl
    try simp only [Act.put, List.setIfInBounds_toArray, List.set_cons_zero, List.set_cons_succ]
    refine wpAnyH_take (i := 5) (v := ?_) rfl (by kernel_rfl) (by kernel_rfl) (by kernel_rfl) (fun _ _ _ h => h) (Or.inl ⟨by rfl, ?_⟩) hHeld ?_
    rotate_left
    · intro w hSw; clear hSw; go_simp <;> rfl
    try simp only [Act.put, List.setIfInBounds_toArray, List.set_cons_zero, List.set_cons_succ]
    refine wpAnyH_take (i := 6) (v := _) rfl (by kernel_rfl) (by kernel_rfl) (by kernel_rfl) (fun _ _ _ h => h) (yieldsIf_load_mid (by rfl) _ _ rfl _ _ rfl _ _ (fun w h => h) hu rfl hi1) hHeld ?_
    try simp only [Act.put, List.setIfInBounds_toArray, List.set_cons_zero, List.set_cons_succ]
    refine wpAnyH_ready (rs := [9]) (by kernel_rfl) (by simp) ?_
    refine AllReadyH.cons rfl (fun K hK => ?_) AllReadyH.nil
    go_simp
    refine (tag_any A B n c m d key bs _ (Since.row hsd HKY.out) (Since.row hsd HR.out) hn2 hm2 (HK.out.below hsd) (HF.out.below hsd)).mono ?_
    rintro e w1 ⟨g1, N1, c1, rfl, hN1, ho1, hb1⟩
    obtain rfl : N1 = 32 := hN1
    have hse := Since.add hsd hb1
    have hrg1 := range_of (RowRd.of_row ho1)
    have HSE := Lib.hid hse; have HRG1 := Lib.hid hrg1
    have hre := range_since HRG.out hse
    clear ho1 hb1 hse hrg1 hHeld
    refine hK.out _ _ hre (fun hHeld => ?_)
    clear hK K hre
    try simp only [Act.put, List.setIfInBounds_toArray, List.set_cons_zero, List.set_cons_succ]
    refine wpAnyH_take (i := 10) (v := ?_) rfl (by kernel_rfl) (by kernel_rfl) (by kernel_rfl) (fun _ _ _ h => h) (Or.inl ⟨by rfl, ?_⟩) hHeld ?_
    rotate_left
    · intro w hSw; clear hSw; go_simp <;> rfl
    try simp only [Act.put, List.setIfInBounds_toArray, List.set_cons_zero, List.set_cons_succ]
    refine wpAnyH_ready (rs := [11]) (by kernel_rfl) (by simp) ?_
    refine AllReadyH.cons rfl (fun K hK => ?_) AllReadyH.nil
    rw [if_pos (by rfl)]
    refine wp_load_mid _ _ rfl _ _ rfl _ _ HRG1.out hu rfl hi2 ?_
    refine hK.out _ _ hHeld (fun hHeld2 => ?_)
    clear hK K hHeld
    have hHeld := hHeld2
    try simp only [Act.put, List.setIfInBounds_toArray, List.set_cons_zero, List.set_cons_succ]
    refine wpAnyH_take (i := 12) (v := ?_) rfl (by kernel_rfl) (by kernel_rfl) (by kernel_rfl) (fun _ _ _ h => h) (Or.inl ⟨by rfl, ?_⟩) hHeld ?_
    rotate_left
    · intro w hSw; clear hSw; go_simp <;> rfl
    try simp only [Act.put, List.setIfInBounds_toArray, List.set_cons_zero, List.set_cons_succ]
    refine wpAnyH_take (i := 13) (v := ?_) rfl (by kernel_rfl) (by kernel_rfl) (by kernel_rfl) (fun _ _ _ h => h) (Or.inl ⟨by rfl, ?_⟩) hHeld ?_
    rotate_left
    · intro w hSw; clear hSw; go_simp <;> rfl
    try simp only [Act.put, List.setIfInBounds_toArray, List.set_cons_zero, List.set_cons_succ]
    refine wpAnyH_take (i := 14) (v := ?_) rfl (by kernel_rfl) (by kernel_rfl) (by kernel_rfl) (fun _ _ _ h => h) (Or.inl ⟨by rfl, ?_⟩) hHeld ?_
    rotate_left
    · intro w hSw; clear hSw; go_simp <;> rfl
    try simp only [Act.put, List.setIfInBounds_toArray, List.set_cons_zero, List.set_cons_succ]
    refine wpAnyH_done (by kernel_rfl) ?_ _
    have HFIN := Lib.hid (show FitsPost w key bs tg (.returned (.bool (decide (M.tag key bs = tg)))) w1 from ⟨rfl, HSE.out⟩)
    clear hHeld hHeld2 hrd harr heq hu hi1 hi2
    show NoPanic _ Exit.normal { tmps := #[.slice A n c, .slice B m d, .slice (some ⟨b, o, none⟩) 32 l, _, _, _, .bool (decide (M.tag key bs = tg)), .slice (some ⟨b, o, none⟩) 32 l, .int .i64 32, .bool true, .bool true, .slice (some ⟨b, o, none⟩) 32 l, .pointer (some ⟨b, o, none⟩), .agg (bv tg).toArray, .slice A n c, .slice B m d, .slice (some ⟨g1, 0, none⟩) 32 c1, .pointer (some ⟨g1, 0, none⟩), .agg (bv (M.tag key bs)).toArray, .bool (decide (M.tag key bs = tg)), .bool (decide (M.tag key bs = tg))], defers := [] } w1
    refine NoPanic.normal ?_
    simp only [Exit.then]
    go_wp2_with fail
    go_ret
    exact HFIN.out
  · have h9 : ((k : Int) == 32) = false := by simp; omega
    have hne : M.tag key bs ≠ tg := fun e => h32 (by have h : tg.length = k := HL.out; rw [← h, ← e, M.tag_length])
    have HNE := Lib.hid hne
    clear hne
    go_enter Tryd.func33, Tryd.ntmps33
    go_wp2_with fail
    go_quiet (fail)
    go_wp2
    go_ret
    exact ⟨by rw [decide_eq_false HNE.out]; rfl, Since.drewN (Below.refl _ _) _⟩
end Go.Proofs.YtidcfjmibljkeaaDoor.K

/- The contracts of the reference's wrong, part, Make, Put and Check. -/
namespace Go.Proofs.YtidcfjmibljkeaaDoor.K
open Go Go.RowKit

/-- a bundle's cells -/
def bunL (v : Int) (A : Option Addr) (n c : Nat) (B : Option Addr) (m d : Nat) (C : Option Addr) (k l : Nat) : List Value := [.int .i64 v, .slice A n c, .slice B m d, .slice C k l]
theorem infoBunL (v : Int) (A : Option Addr) (n c : Nat) (B : Option Addr) (m d : Nat) (C : Option Addr) (k l : Nat) : (Tryd.prog.info? 25).map (·.size) = some (bunL v A n c B m d C k l).toArray.size := by
  rw [show (bunL v A n c B m d C k l).toArray.size = 4 from rfl]; kernel_rfl
theorem bunL_one (v : Int) (A : Option Addr) (n c : Nat) (B : Option Addr) (m d : Nat) (C : Option Addr) (k l : Nat) : (bunL v A n c B m d C k l).toArray.all (·.oneCell') = true := by
  rw [Array.all_eq_true_iff_forall_mem]
  intro x hx
  simp only [bunL, List.mem_toArray, List.mem_cons, List.mem_nil_iff, or_false] at hx
  rcases hx with rfl | rfl | rfl | rfl <;> rfl
end Go.Proofs.YtidcfjmibljkeaaDoor.K

/- The contract of the reference's Make. -/
namespace Go.Proofs.YtidcfjmibljkeaaDoor.K
open Go Go.RowKit

/-- a bundle that was told: a value, its rows apart in memory of their own -/
def Told (w w' : World) (b : M.Bun) (v : Value) : Prop := ∃ A n c B m d C k l, v = .agg #[.int .i64 b.ver, .slice A n c, .slice B m d, .slice C k l] ∧ n = b.code.length ∧ m = b.dig.length ∧ k = b.tag.length ∧ Bank w w' [rowAcc C k l b.tag, rowAcc B m d b.dig, rowAcc A n c b.code]
def ToldE (w : World) (b : M.Bun) (n : Nat) (e : Ending) (w' : World) : Prop := ∃ v, e = .returned (.tuple #[v, .int .i64 (n : Int)]) ∧ Told w w' b v
theorem told_zero {w w' : World} (h : Since w w') : Told w w' M.zeroBun (.agg #[.int .i64 0, .slice none 0 0, .slice none 0 0, .slice none 0 0]) :=
  ⟨none, 0, 0, none, 0, 0, none, 0, 0, rfl, rfl, rfl, rfl, (((Bank.nil h).none _ _).none _ _).none _ _⟩
theorem results_cell_tmp {fn : Func} {p q : Tmp} {ty : TypeId} {P : Program} (h : fn.results = #[.cell p ty, .tmp q]) (tmps : Array Value) (w : World) (g : Nat) (u v : Value)
    (hp : tmps.getD p undef = .pointer (some ⟨g, 0, none⟩)) (hq : tmps.getD q undef = v) (hrun : (loadVar ty ⟨g, 0, none⟩).run P w = .ok u w) : (results fn tmps).run P w = .ok (.tuple #[u, v]) w := by
  have hp' : tmps[p]?.getD undef = .pointer (some ⟨g, 0, none⟩) := by simpa using hp
  have hq' : tmps[q]?.getD undef = v := by simpa using hq
  simp [results, h, hp', hq', asAddr, hrun]
theorem load_bun {w : World} {g : Nat} (v : Int) (A : Option Addr) (n c : Nat) (B : Option Addr) (m d : Nat) (C : Option Addr) (k l : Nat) (hg : w.heap[g]? = some (.cells (bunL v A n c B m d C k l).toArray 25 (0, 0))) :
    (loadVar 25 ⟨g, 0, none⟩).run Tryd.prog w = .ok (.agg (bunL v A n c B m d C k l).toArray) w :=
  run_loadVar_row w g _ _ _ (0, 0) _ hg Tryd.underlying25 rfl (infoBunL v A n c B m d C k l)
abbrev zeroV : List Value := bunL 0 none 0 0 none 0 0 none 0 0
theorem bwrong_make (key : List (BitVec 8)) (v : Int) (code : List (BitVec 8)) : M.bwrong ⟨v, code, M.sum (M.bpart v code), M.tag key (M.sum (M.bpart v code))⟩ = M.bmakeE v code := M.bseal_wrong key v code
/-- tag, digest, code out of a bank -/
theorem keep3 {w0 w : World} {p q r s t u : Acc} (h : Bank w0 w [p, q, r, s, t, u]) : Bank w0 w [p, q, t] := by
  refine ⟨h.since, fun x hx => h.own x ?_, h.sep.sublist (.cons_cons _ (.cons_cons _ (.cons _ (.cons _ (.cons_cons _ (.cons _ .slnil))))))⟩
  simp only [List.mem_cons, List.mem_nil_iff, or_false] at hx ⊢
  rcases hx with rfl | rfl | rfl <;> simp
end Go.Proofs.YtidcfjmibljkeaaDoor.K

/- The contracts of the reference's Put and Check. -/
namespace Go.Proofs.YtidcfjmibljkeaaDoor.K
open Go Go.RowKit

/-- a bundle that came in: its parts read -/
structure BunIn (w : World) (b : M.Bun) (A : Option Addr) (n c : Nat) (B : Option Addr) (m d : Nat) (C : Option Addr) (k l : Nat) : Prop where
  code : RowRd w ⟨A, n, c⟩ b.code
  dig : RowRd w ⟨B, m, d⟩ b.dig
  tag : RowRd w ⟨C, k, l⟩ b.tag
theorem BunIn.since {w w' : World} {b : M.Bun} {A : Option Addr} {n c : Nat} {B : Option Addr} {m d : Nat} {C : Option Addr} {k l : Nat} (h : BunIn w b A n c B m d C k l) (hs : Since w w') : BunIn w' b A n c B m d C k l := ⟨hs.row h.code, hs.row h.dig, hs.row h.tag⟩
def PutE (w : World) (b : M.Bun) (e : Ending) (w' : World) : Prop := ∃ A N c, e = .returned (.tuple #[.slice A N c, .int .i64 (M.bwrong b : Int)]) ∧ N = (M.bput b).length ∧ w'.ownsRow w.heap.size 5 1 (.slice A N c) N (bv (M.bput b)) ∧ Since w w'
abbrev Box4 (w : World) (g : Nat) (v : Int) (A : Option Addr) (n c : Nat) (B : Option Addr) (m d : Nat) (C : Option Addr) (k l : Nat) : Prop := w.cell? ⟨g, 0, none⟩ = some (.int .i64 v) ∧ w.cell? ⟨g, 1, none⟩ = some (.slice A n c) ∧ w.cell? ⟨g, 2, none⟩ = some (.slice B m d) ∧ w.cell? ⟨g, 3, none⟩ = some (.slice C k l)
end Go.Proofs.YtidcfjmibljkeaaDoor.K

/- The contracts of bundle's part and sealed. -/
namespace Go.Proofs.YtidcfjmibljkeaaDoor.K
open Go Go.RowKit

theorem join_litB (l : List RB) (w : World) (cs : Array Value) (k c : Nat) (hcs : cs = (l.map fun p => p.1.v).toArray) (hk : k = l.length) (hl : ∀ p ∈ l, RowRd w p.1 p.2) (hm : l.length ≤ 1000) (hN : (flat l).length ≤ 100000000000000) :
    Calls Tryd.prog 24 #[.slice (some ⟨w.heap.size, 0, none⟩) k c] (w.alloc (.cells cs 22)) (MadeO (w.alloc (.cells cs 22)) (flat l)) := by
  subst hcs hk
  have hj : joined (bytesAt l) l.length = flat l := joined_all l
  refine (join_any _ l.length c (rowsOf l) (bytesAt l) _ (parts_of l rfl hl) (by omega) (by rw [hj]; exact hN)).mono ?_
  rintro e w' ⟨A, N, c', he, hN', ho, hb⟩
  rw [hj] at hN' ho
  exact ⟨A, N, c', he, hN', ho, hb⟩
theorem two_rows {w : World} {x y : Rw} {bx bY : List (BitVec 8)} (hx : RowRd w x bx) (hy : RowRd w y bY) : ∀ p ∈ ([(x, bx), (y, bY)] : List RB), RowRd w p.1 p.2 := by
  intro p hp
  simp only [List.mem_cons, List.mem_nil_iff, or_false] at hp
  rcases hp with rfl | rfl
  · exact hx
  · exact hy
theorem flat2 (x y : Rw) (bx bY : List (BitVec 8)) : flat [(x, bx), (y, bY)] = bx ++ bY := by simp [flat]
theorem flat3 (x y z : Rw) (bx bY bz : List (BitVec 8)) : flat [(x, bx), (y, bY), (z, bz)] = bx ++ (bY ++ bz) := by simp [flat]
theorem three_rows {w : World} {x y z : Rw} {bx bY bz : List (BitVec 8)} (hx : RowRd w x bx) (hy : RowRd w y bY) (hz : RowRd w z bz) : ∀ p ∈ ([(x, bx), (y, bY), (z, bz)] : List RB), RowRd w p.1 p.2 := by
  intro p hp
  simp only [List.mem_cons, List.mem_nil_iff, or_false] at hp
  rcases hp with rfl | rfl | rfl
  · exact hx
  · exact hy
  · exact hz
set_option maxHeartbeats 4000000 in
set_option maxRecDepth 100000 in
theorem part_any (v : Int) (code : List (BitVec 8)) (A B C : Option Addr) (n c m d k l : Nat) (w : World) (hr : RowRd w ⟨A, n, c⟩ code) (hn : n ≤ 100000000000) :
    Calls Tryd.prog 25 #[.agg #[.int .i64 v, .slice A n c, .slice B m d, .slice C k l]] w (Made w (M.bpart v code)) := by
  have HR := Lib.hid hr; have HL := Lib.hid (show code.length = n from hr.len)
  have BK0 := Lib.hid ((Bank.nil (Below.refl w.heap.size w)).box #[.int .i64 v, .slice A n c, .slice B m d, .slice C k l] 43 (by simp))
  clear hr
  go_enter Tryd.func25, Tryd.ntmps25
  go_wp2_with fail
  generalize hw1 : w.alloc (.cells #[.int .i64 v, .slice A n c, .slice B m d, .slice C k l] 43) = w1 at *
  clear hw1
  have hB := BK0.out.drew
  have x0 := hB.cell 0 rfl 0 rfl
  have x1 := hB.cell 0 rfl 1 rfl
  go_region_law (first
    | (go_simp; go_at_call 47; refine (num_made v _).mono ?_; rintro e w3 ⟨g3, N3, c3, rfl, hN3, ho3, hb3⟩; have hN3' := Nat.le_of_eq hN3; have hB := hB.madeB hb3 ho3; clear hN3 ho3 hb3; (first | (have x0 := hB.cell 1 rfl 0 rfl; have x1 := hB.cell 1 rfl 1 rfl) | skip))
    | (go_simp; go_at_call 26; refine (bytes_made HR.out (by omega) hB.since).mono ?_; rintro e w4 ⟨g4, N4, c4, rfl, hN4, ho4, hb4⟩; have hN4' := Nat.le_of_eq hN4; have hB := hB.madeB hb4 ho4; clear hN4 ho4 hb4; (first | (have x0 := hB.cell 1 rfl 0 rfl; have x1 := hB.cell 1 rfl 1 rfl) | skip))
    | (go_simp; go_at_call 24; refine (join_litB [(⟨some ⟨g3, 0, none⟩, N3, c3⟩, M.num v), (⟨some ⟨g4, 0, none⟩, N4, c4⟩, M.blob code)] _ _ 2 2 rfl rfl (by first | exact two_rows (hB.row 1 rfl) (hB.row 0 rfl) | exact two_rows (hB.row 0 rfl) (hB.row 1 rfl)) (by simp) (by rw [flat2, List.length_append, M.num_length, M.blob_length, HL.out]; omega)).mono ?_; rintro e w6 ⟨A6, N6, c6, rfl, hN6, ho6, hb6⟩; have hB := (hB.alloc _).madeB hb6 ho6; clear hN6 ho6 hb6)
    | fail "arm")
  all_goals
    have ho := hB.at 0 rfl
    have HS5 := Lib.hid hB.since
    rw [flat2] at ho
    have hl : (M.num v ++ M.blob code).length = N6 := (RowRd.of_row ho).len
    obtain ⟨g6, rfl⟩ := own_someB ho (by rw [List.length_append, M.num_length] at hl; show 0 < N6; omega)
    have HFIN := Lib.hid (show Made w (M.bpart v code) (.returned (.slice (some ⟨g6, 0, none⟩) N6 c6)) w6 from ⟨g6, N6, c6, rfl, hl.symm, ho, HS5.out⟩)
    clear ho hl hB hN3' hN4'
    go_wp2_with fail
    go_ret
    exact HFIN.out
/-- a look's cells: as a bundle's -/
theorem infoLookL (v : Int) (A : Option Addr) (n c : Nat) (B : Option Addr) (m d : Nat) (C : Option Addr) (k l : Nat) : (Tryd.prog.info? 43).map (·.size) = some (bunL v A n c B m d C k l).toArray.size := by
  rw [show (bunL v A n c B m d C k l).toArray.size = 4 from rfl]; kernel_rfl
/-- sealed -/
def SealPost (w : World) (key : List (BitVec 8)) (v : Int) (code : List (BitVec 8)) (A : Option Addr) (n c : Nat) (e : Ending) (w' : World) : Prop := ∃ B d C l, e = .returned (.agg #[.int .i64 v, .slice A n c, .slice B 32 d, .slice C 32 l]) ∧ Bank w w' [rowAcc C 32 l (M.tag key (M.bdig v code)), rowAcc B 32 d (M.bdig v code)]
theorem keep2 {w0 w : World} {p q r s t : Acc} (h : Bank w0 w [p, q, r, s, t]) : Bank w0 w [p, q] :=
  ⟨h.since, fun x hx => h.own x (by simp only [List.mem_cons, List.mem_nil_iff, or_false] at hx ⊢; rcases hx with rfl | rfl <;> simp), h.sep.sublist (.cons_cons _ (.cons_cons _ (.cons _ (.cons _ (.cons _ .slnil)))))⟩
set_option maxHeartbeats 8000000 in
set_option maxRecDepth 100000 in
theorem sealed_any (key code : List (BitVec 8)) (v : Int) (K A B C : Option Addr) (kn kc n c m d k l : Nat) (w : World) (hk : RowRd w ⟨K, kn, kc⟩ key) (hr : RowRd w ⟨A, n, c⟩ code) (hkn : kn ≤ 10000000000) (hn : n ≤ 10000000000) (hKt : HasK w) (hFt : HasF w) :
    Calls Tryd.prog 29 #[.agg #[.int .i64 v, .slice A n c, .slice B m d, .slice C k l], .slice K kn kc] w (SealPost w key v code A n c) := by
  have HK := Lib.hid hk; have HR := Lib.hid hr; have HL := Lib.hid (show code.length = n from hr.len); have TK := Lib.hid hKt; have TF := Lib.hid hFt
  have BK0 := Lib.hid (((Bank.nil (Below.refl w.heap.size w)).box #[.int .i64 v, .slice A n c, .slice B m d, .slice C k l] 43 (by simp)).box #[.int .i64 0, .slice none 0 0, .slice none 0 0, .slice none 0 0] 43 (by simp))
  rw [World.size_alloc] at BK0
  clear hk hr hKt hFt
  go_enter Tryd.func29, Tryd.ntmps29
  go_wp2_with fail
  generalize hw1 : (w.alloc (.cells #[.int .i64 v, .slice A n c, .slice B m d, .slice C k l] 43)).alloc (.cells #[.int .i64 0, .slice none 0 0, .slice none 0 0, .slice none 0 0] 43) = w1 at *
  clear hw1
  refine (part_any v code A B C n c m d k l w1 (Since.row BK0.out.since HR.out) (by omega)).mono ?_
  rintro e w2 ⟨g2, N2, c2, rfl, hN2, ho2, hb2⟩
  have BK2 := Lib.hid (BK0.out.madeB hb2 ho2)
  have hn2 : N2 ≤ 100000000000 := by rw [hN2, M.bpart_length, HL.out]; omega
  clear hN2 ho2 hb2 BK0
  go_wp2_with fail
  have R2 := Lib.hid (BK2.out.row 0 rfl)
  refine (Sum_any _ N2 c2 _ w2 R2.out.rd R2.out.len (by omega) (TK.out.below BK2.out.since) (TF.out.below BK2.out.since)).mono ?_
  rintro e w3 ⟨g3, c3, rfl, ho3, hb3⟩
  have BK3 := Lib.hid (BK2.out.madeB hb3 ho3)
  have BK4 := Lib.hid (BK3.out.boxSet 3 rfl 2 (.slice (some ⟨g3, 0, none⟩) 32 c3))
  have x2 := BK3.out.cell 3 rfl 2 rfl
  have f2 := BK3.out.free 3 rfl 2
  clear ho3 hb3 R2 BK2 BK3
  go_wp2_with fail
  generalize hw4 : w3.setCell ⟨w.heap.size, 2, none⟩ (.slice (some ⟨g3, 0, none⟩) 32 c3) = w4 at *
  clear hw4 x2 f2
  refine (tag_any K (some ⟨g3, 0, none⟩) kn kc 32 c3 key _ w4 (Since.row BK4.out.since HK.out) (BK4.out.row 0 rfl) (by omega) (by omega) (TK.out.below BK4.out.since) (TF.out.below BK4.out.since)).mono ?_
  rintro e w5 ⟨g5, N5, c5, rfl, hN5, ho5, hb5⟩
  obtain rfl : N5 = 32 := hN5
  have BK5 := Lib.hid (BK4.out.madeB hb5 ho5)
  have BK6 := Lib.hid (BK5.out.boxSet 4 rfl 3 (.slice (some ⟨g5, 0, none⟩) 32 c5))
  have x0 := BK5.out.cell 4 rfl 0 rfl
  have x1 := BK5.out.cell 4 rfl 1 rfl
  have x2 := BK5.out.cell 4 rfl 2 rfl
  have x3 := BK5.out.cell 4 rfl 3 rfl
  have f3 := BK5.out.free 4 rfl 3
  have HBOX := Lib.hid (BK6.out.boxAt 4 rfl).2
  have HRES := Lib.hid (BK6.out.boxAt 3 rfl).2
  clear ho5 hb5 BK4 BK5
  have HFIN := Lib.hid (show SealPost w key v code A n c (.returned (.agg (bunL v A n c (some ⟨g3, 0, none⟩) 32 c3 (some ⟨g5, 0, none⟩) 32 c5).toArray)) ((w5.setCell ⟨w.heap.size, 3, none⟩ (.slice (some ⟨g5, 0, none⟩) 32 c5)).setRow (w.heap.size + 1) (bunL v A n c (some ⟨g3, 0, none⟩) 32 c3 (some ⟨g5, 0, none⟩) 32 c5).toArray) from by
    have h := BK6.out.boxRow 3 rfl (bunL v A n c (some ⟨g3, 0, none⟩) 32 c3 (some ⟨g5, 0, none⟩) 32 c5) rfl (by decide)
    exact ⟨_, _, _, _, rfl, keep2 h⟩)
  go_wp2_with (with_reducible refine wpList_store_row rfl 43 (.tmp 4) (.tmp 17) rfl (w.heap.size + 1) (bunL v A n c (some ⟨g3, 0, none⟩) 32 c3 (some ⟨g5, 0, none⟩) 32 c5).toArray rfl rfl 43 _ HRES.out (infoLookL v A n c (some ⟨g3, 0, none⟩) 32 c3 (some ⟨g5, 0, none⟩) 32 c5) rfl (bunL_one _ _ _ _ _ _ _ _ _ _) ?_)
  refine bodyPost_ret (v := .agg (bunL v A n c (some ⟨g3, 0, none⟩) 32 c3 (some ⟨g5, 0, none⟩) 32 c5).toArray) ?_ rfl HFIN.out
  exact results_cell_row rfl _ _ (w.heap.size + 1) 43 _ (0, 0) _ rfl (setRow_heap _ _ _ _ _ _ HRES.out) Tryd.underlying43 rfl (infoLookL v A n c (some ⟨g3, 0, none⟩) 32 c3 (some ⟨g5, 0, none⟩) 32 c5)
end Go.Proofs.YtidcfjmibljkeaaDoor.K

/- The contracts of bundle's tried: what something tells, or the error that it ends with. -/
namespace Go.Proofs.YtidcfjmibljkeaaDoor.K
open Go Go.RowKit

theorem heap_keepB {W : World} {l : Nat} {o : Obj} (x : Obj) (h : W.heap[l]? = some o) : (W.alloc x).heap[l]? = some o := (Below.heap_alloc W x l (Array.getElem?_eq_some_iff.1 h).1).trans h
theorem tmps17 (a b x : Value) : (#[a, b] ++ ((Array.replicate 15 undef).setIfInBounds 3 x).setIfInBounds 0 x) = #[a, b, x, undef, undef, x, undef, undef, undef, undef, undef, undef, undef, undef, undef, undef, undef] := by
  apply Array.toList_inj.1
  simp [List.replicate]
theorem catchBun_idle (p q : Addr) (w : World) :
    CallsD Tryd.prog 38 #[.pointer (some p), .pointer (some q)] .returning w fun e u' w' => e = .returned (.tuple #[]) ∧ u' = .returning ∧ w' = w := by
  refine callsD_of_wpS Tryd.func38 rfl fun c₀ cs hu => ?_
  apply wpS_seq
  apply wpS_region
  simp [wpOpsS, go_sem, recoverD, hu, Tryd.ntmps38, Exit.thenS]
  refine wpS_of_wp ?_
  rw [tmps17]
  go_wp2
  cases c₀
  simp_all [bodyPostS, results, Tryd.results38]
theorem catchByt_idle (p q : Addr) (w : World) :
    CallsD Tryd.prog 46 #[.pointer (some p), .pointer (some q)] .returning w fun e u' w' => e = .returned (.tuple #[]) ∧ u' = .returning ∧ w' = w := by
  refine callsD_of_wpS Tryd.func46 rfl fun c₀ cs hu => ?_
  apply wpS_seq
  apply wpS_region
  simp [wpOpsS, go_sem, recoverD, hu, Tryd.ntmps46, Exit.thenS]
  refine wpS_of_wp ?_
  rw [tmps17]
  go_wp2
  cases c₀
  simp_all [bodyPostS, results, Tryd.results46]
theorem catchBoo_idle (p q : Addr) (w : World) :
    CallsD Tryd.prog 50 #[.pointer (some p), .pointer (some q)] .returning w fun e u' w' => e = .returned (.tuple #[]) ∧ u' = .returning ∧ w' = w := by
  refine callsD_of_wpS Tryd.func50 rfl fun c₀ cs hu => ?_
  apply wpS_seq
  apply wpS_region
  simp [wpOpsS, go_sem, recoverD, hu, Tryd.ntmps50, Exit.thenS]
  refine wpS_of_wp ?_
  rw [tmps17]
  go_wp2
  cases c₀
  simp_all [bodyPostS, results, Tryd.results50]
set_option maxHeartbeats 1000000 in
set_option maxRecDepth 100000 in
theorem catchByt_panicking (E B : Nat) (n y : Int) (v : Value) (w : World) (he : w.cell? ⟨E, 0, none⟩ = some (.int .i64 y)) (hef : w.frozen? ⟨E, 0, none⟩ = false) (hb : w.heap[B]? = some (.cells #[v] 22 (0, 0))) (hEB : E ≠ B) :
    CallsD Tryd.prog 46 #[.pointer (some ⟨E, 0, none⟩), .pointer (some ⟨B, 0, none⟩)] (.panicking (errP n)) w fun e u' w' =>
      e = .returned (.tuple #[]) ∧ u' = .panicking [{ v := .iface 26 (.int .i64 n), recovered := true }] ∧ w' = (w.setCell ⟨E, 0, none⟩ (.int .i64 n)).setCell ⟨B, 0, none⟩ (.slice none 0 0) := by
  have hta : ∀ w, (Instr.typeAssert (.iface 26 (.int .i64 n)) 20 26 true).run Tryd.prog w = .ok (.tuple #[.int .i64 n, .bool true]) w := fun _ => by kernel_rfl
  have hbc : (w.setCell ⟨E, 0, none⟩ (.int .i64 n)).cell? ⟨B, 0, none⟩ = some v := (World.cell?_setCell_other _ _ _ _ (fun e => hEB (by injection e))).trans (block_cell (xs := [v]) hb rfl)
  have hbf : w.frozen? ⟨B, 0, none⟩ = false := frozen_of_row w B 0 _ _ hb
  refine callsD_of_wpS Tryd.func46 rfl fun c₀ cs hu => ?_
  unfold errP at hu
  clear hb
  apply wpS_seq
  apply wpS_region
  simp [wpOpsS, go_sem, recoverD, hu, Tryd.ntmps46, Exit.thenS]
  refine wpS_of_wp ?_
  rw [tmps17]
  go_wp2
  cases c₀
  simp_all [bodyPostS, results, Tryd.results46]
set_option maxHeartbeats 1000000 in
set_option maxRecDepth 100000 in
theorem catchBoo_panicking (E B : Nat) (n y : Int) (v : Value) (w : World) (he : w.cell? ⟨E, 0, none⟩ = some (.int .i64 y)) (hef : w.frozen? ⟨E, 0, none⟩ = false) (hb : w.heap[B]? = some (.cells #[v] 4 (0, 0))) (hEB : E ≠ B) :
    CallsD Tryd.prog 50 #[.pointer (some ⟨E, 0, none⟩), .pointer (some ⟨B, 0, none⟩)] (.panicking (errP n)) w fun e u' w' =>
      e = .returned (.tuple #[]) ∧ u' = .panicking [{ v := .iface 26 (.int .i64 n), recovered := true }] ∧ w' = (w.setCell ⟨E, 0, none⟩ (.int .i64 n)).setCell ⟨B, 0, none⟩ (.bool false) := by
  have hta : ∀ w, (Instr.typeAssert (.iface 26 (.int .i64 n)) 20 26 true).run Tryd.prog w = .ok (.tuple #[.int .i64 n, .bool true]) w := fun _ => by kernel_rfl
  have hbc : (w.setCell ⟨E, 0, none⟩ (.int .i64 n)).cell? ⟨B, 0, none⟩ = some v := (World.cell?_setCell_other _ _ _ _ (fun e => hEB (by injection e))).trans (block_cell (xs := [v]) hb rfl)
  have hbf : w.frozen? ⟨B, 0, none⟩ = false := frozen_of_row w B 0 _ _ hb
  refine callsD_of_wpS Tryd.func50 rfl fun c₀ cs hu => ?_
  unfold errP at hu
  clear hb
  apply wpS_seq
  apply wpS_region
  simp [wpOpsS, go_sem, recoverD, hu, Tryd.ntmps50, Exit.thenS]
  refine wpS_of_wp ?_
  rw [tmps17]
  go_wp2
  cases c₀
  simp_all [bodyPostS, results, Tryd.results50]
set_option maxHeartbeats 2000000 in
set_option maxRecDepth 100000 in
theorem catchBun_panicking (E O : Nat) (n y : Int) (w : World) (he : w.cell? ⟨E, 0, none⟩ = some (.int .i64 y)) (hef : w.frozen? ⟨E, 0, none⟩ = false) (ho : w.heap[O]? = some (.cells zeroV.toArray 25 (0, 0))) (hEO : E ≠ O) :
    CallsD Tryd.prog 38 #[.pointer (some ⟨E, 0, none⟩), .pointer (some ⟨O, 0, none⟩)] (.panicking (errP n)) w fun e u' w' =>
      e = .returned (.tuple #[]) ∧ u' = .panicking [{ v := .iface 26 (.int .i64 n), recovered := true }] ∧ w' = ((w.setCell ⟨E, 0, none⟩ (.int .i64 n)).alloc (.cells zeroV.toArray 25)).setRow O zeroV.toArray := by
  have hta : ∀ w, (Instr.typeAssert (.iface 26 (.int .i64 n)) 20 26 true).run Tryd.prog w = .ok (.tuple #[.int .i64 n, .bool true]) w := fun _ => by kernel_rfl
  have hO1 := (heap_setCell_other w ⟨E, 0, none⟩ O (.int .i64 n) (fun e => hEO e.symm)).trans ho
  have hO2 := heap_keepB (.cells zeroV.toArray 25) hO1
  have HO2 := Lib.hid hO2
  refine callsD_of_wpS Tryd.func38 rfl fun c₀ cs hu => ?_
  unfold errP at hu
  clear ho hO1 hO2
  apply wpS_seq
  apply wpS_region
  simp [wpOpsS, go_sem, recoverD, hu, Tryd.ntmps38, Exit.thenS]
  refine wpS_of_wp ?_
  rw [tmps17]
  go_wp2_with (refine wpList_store_row rfl 25 (.tmp 1) (.tmp 16) rfl O zeroV.toArray rfl rfl 25 _ HO2.out (infoBunL 0 none 0 0 none 0 0 none 0 0) rfl (bunL_one _ _ _ _ _ _ _ _ _ _) ?_)
  cases c₀
  simp_all [bodyPostS, results, Tryd.results38, zeroV, bunL]
end Go.Proofs.YtidcfjmibljkeaaDoor.K

/- A reader beside a bank: its block and what it reads of are none of the bank's. Plain lemmas over any program. -/
namespace Go.Proofs.YtidcfjmibljkeaaDoor.K
open Go Go.RowKit

theorem Bank.sub {w0 w : World} {L L' : List Acc} (h : Bank w0 w L) (hs : L'.Sublist L) : Bank w0 w L' := ⟨h.since, fun p hp => h.own p (hs.subset hp), h.sep.sublist hs⟩
structure Held (w0 w : World) (Q : World → M.Rdr → Prop) (s : M.Rdr) (R : Nat) (Bd : Option Addr) (L : List Acc) : Prop where
  bank : Bank w0 w L
  q : Q w s
  keep : ∀ w w' s (row : Option Nat), Q w s → w.grownBy w' row → row ≠ some R → (∀ a, Bd = some a → row ≠ some a.block) → Q w' s
  lt : R < w.heap.size ∧ ∀ a, Bd = some a → a.block < w.heap.size
  base : w0.heap.size ≤ R
  away : ∀ p ∈ L, ∀ b, p.v.ownBlock = some b → b ≠ R ∧ ∀ a, Bd = some a → b ≠ a.block
section
variable {w0 w w' : World} {Q : World → M.Rdr → Prop} {s s' : M.Rdr} {R : Nat} {Bd : Option Addr} {L : List Acc}
theorem Held.step (h : Held w0 w Q s R Bd L) (hq : Q w' s') (hg : w.grownBy w' (some R)) : Held w0 w' Q s' R Bd L :=
  ⟨h.bank.other hg h.base (fun p hp e => (h.away p hp R e).1 rfl), hq, h.keep, ⟨Nat.lt_of_lt_of_le h.lt.1 hg.size, fun a e => Nat.lt_of_lt_of_le (h.lt.2 a e) hg.size⟩, h.base, h.away⟩
theorem Held.row (h : Held w0 w Q s R Bd L) (hq : Q w' s') (hg : w.grownBy w' (some R)) {e : TypeId} {size m : Nat} {v : Value} {xs : List Value} (ho : w'.ownsRow w.heap.size e size v m xs) : Held w0 w' Q s' R Bd (⟨v, m, e, size, xs⟩ :: L) := by
  have h1 := h.step hq hg
  refine ⟨h1.bank.add ho h.bank.since.size (fun p hp b hb => (h.bank.lt hp hb).2), hq, h.keep, h1.lt, h.base, fun p hp b hb => ?_⟩
  rcases List.mem_cons.1 hp with rfl | hp
  · have h2 := (ho.lt b hb).1
    have h3 := h.lt.1
    exact ⟨by omega, fun a e => by have := h.lt.2 a e; omega⟩
  · exact h.away p hp b hb
theorem Held.call (h : Held w0 w Q s R Bd L) (hb : Below w.heap.size w w') : Held w0 w' Q s R Bd L :=
  ⟨h.bank.call hb, h.keep _ _ _ none h.q (grown_none_of_below hb) (by simp) (fun _ _ => by simp), h.keep, ⟨Nat.lt_of_lt_of_le h.lt.1 hb.size, fun a e => Nat.lt_of_lt_of_le (h.lt.2 a e) hb.size⟩, h.base, h.away⟩
theorem Held.set (h : Held w0 w Q s R Bd L) (i : Nat) {g : Nat} {t : TypeId} {vs : List Value} (hi : L[i]? = some (boxAcc g t vs)) (j : Nat) (v : Value) : Held w0 (w.setCell ⟨g, j, Option.none⟩ v) Q s R Bd (L.set i (boxAcc g t (vs.set j v))) := by
  have ha := h.away _ (List.mem_of_getElem? hi) g rfl
  refine ⟨h.bank.boxSet i hi j v, h.keep _ _ _ (some g) h.q (grownBy_setCell w g j v) (fun e => ha.1 (Option.some.inj e)) (fun a e e2 => ha.2 a e (Option.some.inj e2)), h.keep, ⟨by simpa using h.lt.1, fun a e => by simpa using h.lt.2 a e⟩, h.base, fun p hp b hb => ?_⟩
  rcases List.mem_or_eq_of_mem_set hp with hp | rfl
  · exact h.away p hp b hb
  · have e : b = g := by simpa [boxAcc, Value.ownBlock] using hb.symm
    subst e
    exact ha
theorem Held.box (h : Held w0 w Q s R Bd L) (cs : Array Value) (t : TypeId) (hs : cs.size ≤ 1000000) : Held w0 (w.alloc (.cells cs t)) Q s R Bd (boxAcc w.heap.size t cs.toList :: L) := by
  have h1 := h.call ((Below.refl _ _).alloc (Nat.le_refl _) (.cells cs t))
  refine ⟨h.bank.box cs t hs, h1.q, h.keep, h1.lt, h.base, fun p hp b hb => ?_⟩
  rcases List.mem_cons.1 hp with rfl | hp
  · have e : b = w.heap.size := by simpa [boxAcc, Value.ownBlock] using hb.symm
    have h3 := h.lt.1
    exact ⟨by omega, fun a ea => by have := h.lt.2 a ea; omega⟩
  · exact h.away p hp b hb
/-- a reader that was just made -/
theorem Held.start {w1 : World} (hB : Bank w0 w1 L) (hq : Q w s) (hb : Below w1.heap.size w1 w) (hR : w1.heap.size ≤ R) (hRl : R < w.heap.size) (hBd : ∀ a, Bd = some a → w1.heap.size ≤ a.block ∧ a.block < w.heap.size)
    (keep : ∀ w w' s (row : Option Nat), Q w s → w.grownBy w' row → row ≠ some R → (∀ a, Bd = some a → row ≠ some a.block) → Q w' s) : Held w0 w Q s R Bd L :=
  ⟨hB.call hb, hq, keep, ⟨hRl, fun a e => (hBd a e).2⟩, Nat.le_trans hB.since.size hR, fun p hp b e => by
    have h1 := (hB.lt hp e).2
    exact ⟨by omega, fun a ea => by have := (hBd a ea).1; omega⟩⟩
end
end Go.Proofs.YtidcfjmibljkeaaDoor.K

/- The contracts of bundle's tried, over whatever closure. -/
namespace Go.Proofs.YtidcfjmibljkeaaDoor.K
open Go Go.RowKit

def orZero (n : Nat) (b : M.Bun) : M.Bun := if n = 0 then b else M.zeroBun
def CloPost (w : World) (b : M.Bun) (n : Nat) (e : Ending) (w' : World) : Prop := (n = 0 ∧ ∃ A k c B m d C l c2, e = .returned (.agg (bunL b.ver A k c B m d C l c2).toArray) ∧ k = b.code.length ∧ m = b.dig.length ∧ l = b.tag.length ∧ Bank w w' [rowAcc C l c2 b.tag, rowAcc B m d b.dig, rowAcc A k c b.code]) ∨ (n ≠ 0 ∧ e = .panicked (errP n) ∧ Since w w')
def CloBytes (w : World) (bs : List (BitVec 8)) (n : Nat) (e : Ending) (w' : World) : Prop := (n = 0 ∧ ∃ A N c, e = .returned (.slice A N c) ∧ N = bs.length ∧ w'.ownsRow w.heap.size 5 1 (.slice A N c) N (bv bs) ∧ Since w w') ∨ (n ≠ 0 ∧ e = .panicked (errP n) ∧ Since w w')
def CloBool (w : World) (n : Nat) (e : Ending) (w' : World) : Prop := (n = 0 ∧ e = .returned (.bool true) ∧ Since w w') ∨ (n ≠ 0 ∧ e = .panicked (errP n) ∧ Since w w')
def TriedBytes (w : World) (bs : List (BitVec 8)) (n : Nat) (e : Ending) (w' : World) : Prop := ∃ A N c, e = .returned (.tuple #[.slice A N c, .int .i64 (n : Int)]) ∧ N = (if n = 0 then bs else []).length ∧ w'.ownsRow w.heap.size 5 1 (.slice A N c) N (bv (if n = 0 then bs else [])) ∧ Since w w'
def TriedBool (w : World) (n : Nat) (e : Ending) (w' : World) : Prop := ∃ x, e = .returned (.tuple #[.bool x, .int .i64 (n : Int)]) ∧ Since w w'
set_option maxHeartbeats 4000000 in
set_option maxRecDepth 100000 in
theorem triedCheck_any (p : Addr) (n : Nat) (w : World) (hc : Calls Tryd.prog 31 #[.pointer (some p)] ((w.alloc (.cells #[.bool false] 4)).alloc (.cells #[.int .i64 0] 26)) (CloBool ((w.alloc (.cells #[.bool false] 4)).alloc (.cells #[.int .i64 0] 26)) n)) :
    Calls Tryd.prog 30 #[.func (.func 31) #[] #[.pointer (some p)]] w (TriedBool w n) := by
  have hmf : ∀ (fn : Fn) (first cap : Array Value) (w : World), (Instr.makeFunc fn first cap).run Tryd.prog w = .ok (.func fn first cap) w := fun _ _ _ _ => rfl
  have BK0 := Lib.hid (((Bank.nil (Below.refl w.heap.size w)).box #[.bool false] 4 (by simp)).box #[.int .i64 0] 26 (by simp))
  rw [World.size_alloc] at BK0
  have HC := Lib.hid hc
  clear hc
  go_enter_defers Tryd.func30, Tryd.ntmps30
  go_wp2_with fail
  generalize hw1 : (w.alloc (.cells #[.bool false] 4)).alloc (.cells #[.int .i64 0] 26) = w1 at *
  clear hw1
  refine HC.out.mono ?_
  rintro e w2 (⟨rfl, rfl, hs⟩ | ⟨hn, rfl, hs⟩)
  · have BK2 := Lib.hid (BK0.out.call hs)
    have c1 := BK2.out.cell 1 rfl 0 rfl
    have c0 := BK2.out.cell 0 rfl 0 rfl
    have f1 := BK2.out.free 1 rfl 0
    have f0 := BK2.out.free 0 rfl 0
    have BK3 := Lib.hid ((BK2.out.boxSet 1 rfl 0 (.bool true)).boxSet 0 rfl 0 (.int .i64 0))
    clear hs BK0 BK2
    go_wp2
    refine leaves_cons (f := 50) (args := #[.pointer (some ⟨w.heap.size + 1, 0, none⟩), .pointer (some ⟨w.heap.size, 0, none⟩)]) (by simp) (by simp [go_sem]) ?_
    refine (catchBoo_idle _ _ _).mono ?_
    rintro e u' w'' ⟨rfl, rfl, rfl⟩
    have r1 := BK3.out.cell 1 rfl 0 rfl
    have r0 := BK3.out.cell 0 rfl 0 rfl
    exact ⟨.tuple #[.bool true, .int .i64 0], by simp [results, Tryd.results30, go_sem, r1, r0], ⟨true, rfl, BK3.out.since⟩⟩
  · have BK2 := Lib.hid (BK0.out.call hs)
    have c0 := BK2.out.cell 0 rfl 0 rfl
    have f0 := BK2.out.free 0 rfl 0
    have hbx := (BK2.out.boxAt 1 rfl).2
    have BK3 := Lib.hid ((BK2.out.boxSet 0 rfl 0 (.int .i64 (n : Int))).boxSet 1 rfl 0 (.bool false))
    have HC0 := Lib.hid c0; have HF0 := Lib.hid f0; have HBX := Lib.hid hbx
    clear hs BK0 BK2 c0 f0 hbx
    go_wp2
    refine leaves_cons (f := 50) (args := #[.pointer (some ⟨w.heap.size + 1, 0, none⟩), .pointer (some ⟨w.heap.size, 0, none⟩)]) (by simp) (by simp [go_sem]) ?_
    refine (catchBoo_panicking (w.heap.size + 1) w.heap.size _ _ _ _ HC0.out HF0.out HBX.out (by omega)).mono ?_
    rintro e u' w'' ⟨rfl, rfl, rfl⟩
    have r1 := BK3.out.cell 1 rfl 0 rfl
    have r0 := BK3.out.cell 0 rfl 0 rfl
    exact ⟨.tuple #[.bool false, .int .i64 (n : Int)], by simp [results, Tryd.results30, go_sem, r1, r0], ⟨false, rfl, BK3.out.since⟩⟩
set_option maxHeartbeats 4000000 in
set_option maxRecDepth 100000 in
theorem triedPut_any (p : Addr) (bs : List (BitVec 8)) (n : Nat) (w : World) (hc : Calls Tryd.prog 23 #[.pointer (some p)] ((w.alloc (.cells #[.slice none 0 0] 22)).alloc (.cells #[.int .i64 0] 26)) (CloBytes ((w.alloc (.cells #[.slice none 0 0] 22)).alloc (.cells #[.int .i64 0] 26)) bs n)) :
    Calls Tryd.prog 22 #[.func (.func 23) #[] #[.pointer (some p)]] w (TriedBytes w bs n) := by
  have hmf : ∀ (fn : Fn) (first cap : Array Value) (w : World), (Instr.makeFunc fn first cap).run Tryd.prog w = .ok (.func fn first cap) w := fun _ _ _ _ => rfl
  have BK0 := Lib.hid (((Bank.nil (Below.refl w.heap.size w)).box #[.slice none 0 0] 22 (by simp)).box #[.int .i64 0] 26 (by simp))
  rw [World.size_alloc] at BK0
  have HC := Lib.hid hc
  clear hc
  go_enter_defers Tryd.func22, Tryd.ntmps22
  go_wp2_with fail
  generalize hw1 : ((w.alloc (.cells #[.slice none 0 0] 22)).alloc (.cells #[.int .i64 0] 26)) = w1 at *
  clear hw1
  refine HC.out.mono ?_
  rintro e w2 (⟨rfl, A, N, c, rfl, hN, ho, hs⟩ | ⟨hn, rfl, hs⟩)
  · have HN := Lib.hid hN
    have BK2 := Lib.hid (BK0.out.madeB hs ho)
    have c1 := BK2.out.cell 2 rfl 0 rfl
    have c0 := BK2.out.cell 1 rfl 0 rfl
    have f1 := BK2.out.free 2 rfl 0
    have f0 := BK2.out.free 1 rfl 0
    have BK3 := Lib.hid ((BK2.out.boxSet 2 rfl 0 (.slice A N c)).boxSet 1 rfl 0 (.int .i64 0))
    clear hs ho hN BK0 BK2
    go_wp2
    refine leaves_cons (f := 46) (args := #[.pointer (some ⟨w.heap.size + 1, 0, none⟩), .pointer (some ⟨w.heap.size, 0, none⟩)]) (by simp) (by simp [go_sem]) ?_
    refine (catchByt_idle _ _ _).mono ?_
    rintro e u' w'' ⟨rfl, rfl, rfl⟩
    have r1 := BK3.out.cell 2 rfl 0 rfl
    have r0 := BK3.out.cell 1 rfl 0 rfl
    exact ⟨.tuple #[.slice A N c, .int .i64 0], by simp [results, Tryd.results22, go_sem, r1, r0], ⟨A, N, c, rfl, HN.out, BK3.out.at 0 rfl, BK3.out.since⟩⟩
  · have BK2 := Lib.hid (BK0.out.call hs)
    have HNN := Lib.hid hn
    have BK3 := Lib.hid ((BK2.out.boxSet 0 rfl 0 (.int .i64 (n : Int))).boxSet 1 rfl 0 (.slice none 0 0))
    have HC0 := Lib.hid (BK2.out.cell 0 rfl 0 rfl); have HF0 := Lib.hid (BK2.out.free 0 rfl 0); have HBX := Lib.hid (BK2.out.boxAt 1 rfl).2
    clear hs hn BK0 BK2
    go_wp2
    refine leaves_cons (f := 46) (args := #[.pointer (some ⟨w.heap.size + 1, 0, none⟩), .pointer (some ⟨w.heap.size, 0, none⟩)]) (by simp) (by simp [go_sem]) ?_
    refine (catchByt_panicking (w.heap.size + 1) w.heap.size _ _ _ _ HC0.out HF0.out HBX.out (by omega)).mono ?_
    rintro e u' w'' ⟨rfl, rfl, rfl⟩
    have r1 := BK3.out.cell 1 rfl 0 rfl
    have r0 := BK3.out.cell 0 rfl 0 rfl
    exact ⟨.tuple #[.slice none 0 0, .int .i64 (n : Int)], by simp [results, Tryd.results22, go_sem, r1, r0], ⟨none, 0, 0, rfl, by rw [if_neg HNN.out]; rfl, by rw [if_neg HNN.out]; exact World.ownsRow_nil _ _ _ _, BK3.out.since⟩⟩
theorem results_cell_cell {fn : Func} {p q : Tmp} {ty ty2 : TypeId} {P : Program} (h : fn.results = #[.cell p ty, .cell q ty2]) (tmps : Array Value) (w : World) (g g2 : Nat) (u v : Value)
    (hp : tmps.getD p undef = .pointer (some ⟨g, 0, none⟩)) (hq : tmps.getD q undef = .pointer (some ⟨g2, 0, none⟩)) (hrun : (loadVar ty ⟨g, 0, none⟩).run P w = .ok u w) (hrun2 : (loadVar ty2 ⟨g2, 0, none⟩).run P w = .ok v w) : (results fn tmps).run P w = .ok (.tuple #[u, v]) w := by
  have hp' : tmps[p]?.getD undef = .pointer (some ⟨g, 0, none⟩) := by simpa using hp
  have hq' : tmps[q]?.getD undef = .pointer (some ⟨g2, 0, none⟩) := by simpa using hq
  simp [results, h, hp', hq', asAddr, hrun, hrun2]
/-- rows that a closure made, over the boxes that stood there -/
theorem bank_under {w0 w w' : World} {L L' : List Acc} (h : Bank w0 w L) (h' : Bank w w' L') : Bank w0 w' (L' ++ L) := by
  have h1 := h.call h'.since
  refine ⟨h1.since, fun p hp => ?_, List.pairwise_append.2 ⟨h'.sep, h1.sep, fun p hp q hq b hb1 hb2 => ?_⟩⟩
  · rcases List.mem_append.1 hp with hp | hp
    · exact row_base (h'.own p hp) h.since.size
    · exact h1.own p hp
  · have h2 := (h'.lt hp hb1).1
    have h3 := (h.lt hq hb2).2
    omega
set_option maxHeartbeats 8000000 in
set_option maxRecDepth 100000 in
theorem triedMake_any (p q r : Addr) (b : M.Bun) (n : Nat) (w : World) (hc : Calls Tryd.prog 27 #[.pointer (some p), .pointer (some q), .pointer (some r)] ((w.alloc (.cells #[.int .i64 0, .slice none 0 0, .slice none 0 0, .slice none 0 0] 25)).alloc (.cells #[.int .i64 0] 26)) (CloPost ((w.alloc (.cells #[.int .i64 0, .slice none 0 0, .slice none 0 0, .slice none 0 0] 25)).alloc (.cells #[.int .i64 0] 26)) b n)) :
    Calls Tryd.prog 14 #[.func (.func 27) #[] #[.pointer (some p), .pointer (some q), .pointer (some r)]] w (ToldE w (orZero n b) n) := by
  have hmf : ∀ (fn : Fn) (first cap : Array Value) (w : World), (Instr.makeFunc fn first cap).run Tryd.prog w = .ok (.func fn first cap) w := fun _ _ _ _ => rfl
  have BK0 := Lib.hid (((Bank.nil (Below.refl w.heap.size w)).box #[.int .i64 0, .slice none 0 0, .slice none 0 0, .slice none 0 0] 25 (by simp)).box #[.int .i64 0] 26 (by simp))
  rw [World.size_alloc] at BK0
  have HC := Lib.hid hc
  clear hc
  go_enter_defers Tryd.func14, Tryd.ntmps14
  go_wp2_with fail
  generalize hw1 : ((w.alloc (.cells #[.int .i64 0, .slice none 0 0, .slice none 0 0, .slice none 0 0] 25)).alloc (.cells #[.int .i64 0] 26)) = w1 at *
  clear hw1
  refine HC.out.mono ?_
  rintro e w2 (⟨rfl, A, k, c, B, m, d, C, l, c2, rfl, hk, hm, hl, hB⟩ | ⟨hn, rfl, hs⟩)
  · have HK := Lib.hid hk; have HM := Lib.hid hm; have HL := Lib.hid hl
    have BK2 := Lib.hid (bank_under BK0.out hB)
    have HRES := Lib.hid (BK2.out.boxAt 4 rfl).2
    have BK3 := Lib.hid (BK2.out.boxRow 4 rfl (bunL b.ver A k c B m d C l c2) rfl (by decide))
    have c0 := BK3.out.cell 3 rfl 0 rfl
    have f0 := BK3.out.free 3 rfl 0
    have BK4 := Lib.hid (BK3.out.boxSet 3 rfl 0 (.int .i64 0))
    clear hk hm hl hB BK0 BK2 BK3
    go_wp2_with (with_reducible refine wpList_store_row rfl 25 (.tmp 2) (.tmp 6) rfl w.heap.size (bunL b.ver A k c B m d C l c2).toArray rfl rfl 25 _ HRES.out (infoBunL b.ver A k c B m d C l c2) rfl (bunL_one _ _ _ _ _ _ _ _ _ _) ?_)
    refine leaves_cons (f := 38) (args := #[.pointer (some ⟨w.heap.size + 1, 0, none⟩), .pointer (some ⟨w.heap.size, 0, none⟩)]) (by simp) (by simp [go_sem]) ?_
    refine (catchBun_idle _ _ _).mono ?_
    rintro e u' w'' ⟨rfl, rfl, rfl⟩
    have hres := (BK4.out.boxAt 4 rfl).2
    have r0 := BK4.out.cell 3 rfl 0 rfl
    refine ⟨.tuple #[.agg (bunL b.ver A k c B m d C l c2).toArray, .int .i64 0], ?_, ⟨.agg (bunL b.ver A k c B m d C l c2).toArray, rfl, by unfold orZero; rw [if_pos rfl]; exact ⟨A, k, c, B, m, d, C, l, c2, rfl, HK.out, HM.out, HL.out, BK4.out.sub (.cons_cons _ (.cons_cons _ (.cons_cons _ (.cons _ (.cons _ .slnil)))))⟩⟩⟩
    have hld := load_bun b.ver A k c B m d C l c2 hres
    exact results_cell_cell rfl _ _ _ _ _ _ rfl rfl hld (by simp [go_sem, r0])
  · have BK2 := Lib.hid (BK0.out.call hs)
    have HNN := Lib.hid hn
    have BK3 := Lib.hid (((BK2.out.boxSet 0 rfl 0 (.int .i64 (n : Int))).alloc (.cells zeroV.toArray 25)).boxRow 1 rfl zeroV rfl (by decide))
    have HC0 := Lib.hid (BK2.out.cell 0 rfl 0 rfl); have HF0 := Lib.hid (BK2.out.free 0 rfl 0); have HBX := Lib.hid (BK2.out.boxAt 1 rfl).2
    clear hs hn BK0 BK2
    go_wp2
    refine leaves_cons (f := 38) (args := #[.pointer (some ⟨w.heap.size + 1, 0, none⟩), .pointer (some ⟨w.heap.size, 0, none⟩)]) (by simp) (by simp [go_sem]) ?_
    refine (catchBun_panicking (w.heap.size + 1) w.heap.size _ _ _ HC0.out HF0.out HBX.out (by omega)).mono ?_
    rintro e u' w'' ⟨rfl, rfl, rfl⟩
    have hres := (BK3.out.boxAt 1 rfl).2
    have r0 := BK3.out.cell 0 rfl 0 rfl
    refine ⟨.tuple #[.agg zeroV.toArray, .int .i64 (n : Int)], ?_, ⟨.agg zeroV.toArray, rfl, by unfold orZero; rw [if_neg HNN.out]; exact told_zero BK3.out.since⟩⟩
    have hld := load_bun 0 none 0 0 none 0 0 none 0 0 hres
    exact results_cell_cell rfl _ _ _ _ _ _ rfl rfl hld (by simp [go_sem, r0])
set_option maxHeartbeats 8000000 in
set_option maxRecDepth 100000 in
theorem triedGet_any (p : Addr) (b : M.Bun) (n : Nat) (w : World) (hc : Calls Tryd.prog 15 #[.pointer (some p)] ((w.alloc (.cells #[.int .i64 0, .slice none 0 0, .slice none 0 0, .slice none 0 0] 25)).alloc (.cells #[.int .i64 0] 26)) (CloPost ((w.alloc (.cells #[.int .i64 0, .slice none 0 0, .slice none 0 0, .slice none 0 0] 25)).alloc (.cells #[.int .i64 0] 26)) b n)) :
    Calls Tryd.prog 14 #[.func (.func 15) #[] #[.pointer (some p)]] w (ToldE w (orZero n b) n) := by
  have hmf : ∀ (fn : Fn) (first cap : Array Value) (w : World), (Instr.makeFunc fn first cap).run Tryd.prog w = .ok (.func fn first cap) w := fun _ _ _ _ => rfl
  have BK0 := Lib.hid (((Bank.nil (Below.refl w.heap.size w)).box #[.int .i64 0, .slice none 0 0, .slice none 0 0, .slice none 0 0] 25 (by simp)).box #[.int .i64 0] 26 (by simp))
  rw [World.size_alloc] at BK0
  have HC := Lib.hid hc
  clear hc
  go_enter_defers Tryd.func14, Tryd.ntmps14
  go_wp2_with fail
  generalize hw1 : ((w.alloc (.cells #[.int .i64 0, .slice none 0 0, .slice none 0 0, .slice none 0 0] 25)).alloc (.cells #[.int .i64 0] 26)) = w1 at *
  clear hw1
  refine HC.out.mono ?_
  rintro e w2 (⟨rfl, A, k, c, B, m, d, C, l, c2, rfl, hk, hm, hl, hB⟩ | ⟨hn, rfl, hs⟩)
  · have HK := Lib.hid hk; have HM := Lib.hid hm; have HL := Lib.hid hl
    have BK2 := Lib.hid (bank_under BK0.out hB)
    have HRES := Lib.hid (BK2.out.boxAt 4 rfl).2
    have BK3 := Lib.hid (BK2.out.boxRow 4 rfl (bunL b.ver A k c B m d C l c2) rfl (by decide))
    have c0 := BK3.out.cell 3 rfl 0 rfl
    have f0 := BK3.out.free 3 rfl 0
    have BK4 := Lib.hid (BK3.out.boxSet 3 rfl 0 (.int .i64 0))
    clear hk hm hl hB BK0 BK2 BK3
    go_wp2_with (with_reducible refine wpList_store_row rfl 25 (.tmp 2) (.tmp 6) rfl w.heap.size (bunL b.ver A k c B m d C l c2).toArray rfl rfl 25 _ HRES.out (infoBunL b.ver A k c B m d C l c2) rfl (bunL_one _ _ _ _ _ _ _ _ _ _) ?_)
    refine leaves_cons (f := 38) (args := #[.pointer (some ⟨w.heap.size + 1, 0, none⟩), .pointer (some ⟨w.heap.size, 0, none⟩)]) (by simp) (by simp [go_sem]) ?_
    refine (catchBun_idle _ _ _).mono ?_
    rintro e u' w'' ⟨rfl, rfl, rfl⟩
    have hres := (BK4.out.boxAt 4 rfl).2
    have r0 := BK4.out.cell 3 rfl 0 rfl
    refine ⟨.tuple #[.agg (bunL b.ver A k c B m d C l c2).toArray, .int .i64 0], ?_, ⟨.agg (bunL b.ver A k c B m d C l c2).toArray, rfl, by unfold orZero; rw [if_pos rfl]; exact ⟨A, k, c, B, m, d, C, l, c2, rfl, HK.out, HM.out, HL.out, BK4.out.sub (.cons_cons _ (.cons_cons _ (.cons_cons _ (.cons _ (.cons _ .slnil)))))⟩⟩⟩
    have hld := load_bun b.ver A k c B m d C l c2 hres
    exact results_cell_cell rfl _ _ _ _ _ _ rfl rfl hld (by simp [go_sem, r0])
  · have BK2 := Lib.hid (BK0.out.call hs)
    have HNN := Lib.hid hn
    have BK3 := Lib.hid (((BK2.out.boxSet 0 rfl 0 (.int .i64 (n : Int))).alloc (.cells zeroV.toArray 25)).boxRow 1 rfl zeroV rfl (by decide))
    have HC0 := Lib.hid (BK2.out.cell 0 rfl 0 rfl); have HF0 := Lib.hid (BK2.out.free 0 rfl 0); have HBX := Lib.hid (BK2.out.boxAt 1 rfl).2
    clear hs hn BK0 BK2
    go_wp2
    refine leaves_cons (f := 38) (args := #[.pointer (some ⟨w.heap.size + 1, 0, none⟩), .pointer (some ⟨w.heap.size, 0, none⟩)]) (by simp) (by simp [go_sem]) ?_
    refine (catchBun_panicking (w.heap.size + 1) w.heap.size _ _ _ HC0.out HF0.out HBX.out (by omega)).mono ?_
    rintro e u' w'' ⟨rfl, rfl, rfl⟩
    have hres := (BK3.out.boxAt 1 rfl).2
    have r0 := BK3.out.cell 0 rfl 0 rfl
    refine ⟨.tuple #[.agg zeroV.toArray, .int .i64 (n : Int)], ?_, ⟨.agg zeroV.toArray, rfl, by unfold orZero; rw [if_neg HNN.out]; exact told_zero BK3.out.since⟩⟩
    have hld := load_bun 0 none 0 0 none 0 0 none 0 0 hres
    exact results_cell_cell rfl _ _ _ _ _ _ rfl rfl hld (by simp [go_sem, r0])
end Go.Proofs.YtidcfjmibljkeaaDoor.K

/- The contracts of bytes.Clone and bytes.Equal. -/
namespace Go.Proofs.YtidcfjmibljkeaaDoor.K
open Go Go.RowKit

set_option maxHeartbeats 2000000 in
set_option maxRecDepth 100000 in
theorem clone_any (A : Option Addr) (n c : Nat) (bs : List (BitVec 8)) (w : World) (hr : RowRd w ⟨A, n, c⟩ bs) (hn : n ≤ 100000000000) :
    Calls Tryd.prog 28 #[.slice A n c] w (MadeO w bs) := by
  have HR := Lib.hid hr
  cases A with
  | none =>
    have hb : bs = [] := Rd.empty hr.rd
    have hn0 : n = 0 := by have h := hr.len; rw [hb] at h; exact h.symm
    have hc0 : c = 0 := hr.none rfl
    subst hb hn0 hc0
    clear hr
    have hnil := fun w => Lib.run_eql_slice_nil (P := Tryd.prog) w 22 5 Option.none 0 0 0 0 Tryd.underlying22
    go_enter Tryd.func28, Tryd.ntmps28
    go_wp2
    go_ret
    exact ⟨none, 0, 0, rfl, rfl, World.ownsRow_nil _ _ _ _, Below.refl _ _⟩
  | some a =>
    have BKL := Lib.hid (Bank.lit0 (Bank.nil (Below.refl w.heap.size w)) 5)
    have RL := Lib.hid (Since.row BKL.out.since HR.out)
    clear hr
    have hnil := fun w => Lib.run_eql_slice_nil (P := Tryd.prog) w 22 5 (some a) n c 0 0 Tryd.underlying22
    go_enter Tryd.func28, Tryd.ntmps28
    go_wp2_with (at_builtin; refine wpList_append_bytes BKL.out rfl _ _ 22 rfl 5 infoByte Tryd.underlying22 0 _ _ _ [] rfl rfl _ _ _ _ rfl RL.out (by omega) ?_; intro A4 n4 c4 w4 hn4 hB4; dsimp only [List.set] at hB4; rw [List.nil_append] at hB4; have HB4 := Lib.hid hB4; clear hn4 hB4)
    go_ret
    exact ⟨A4, n4, c4, rfl, (RowRd.of_row (HB4.out.at 0 rfl)).len.symm, HB4.out.at 0 rfl, HB4.out.since⟩
/-- bytes as a text -/
def toStr (bs : List (BitVec 8)) : ByteArray := strOfNums (bs.map fun x => (x.toNat : Int))
theorem toStr_inj {a b : List (BitVec 8)} (h : toStr a = toStr b) : a = b := by
  have h1 := congrArg (fun s : ByteArray => s.data.toList) h
  simp only [toStr, strOfNums_data, List.map_map] at h1
  refine (List.map_inj_right (f := ((fun n : Int => UInt8.ofNat n.toNat) ∘ fun x : BitVec 8 => (x.toNat : Int))) fun x y hxy => ?_).1 h1
  have h2 := congrArg UInt8.toNat hxy
  simp only [Function.comp, Int.toNat_natCast, UInt8.toNat_ofNat'] at h2
  have hx := x.isLt; have hy := y.isLt
  exact BitVec.eq_of_toNat_eq (by omega)
theorem conv_row {w : World} {A : Option Addr} {n c : Nat} {bs : List (BitVec 8)} (hr : RowRd w ⟨A, n, c⟩ bs) : (convert 22 9 (.slice A n c)).run Tryd.prog w = .ok (.string (toStr bs)) w := by
  have hlen : bs.length = n := hr.len
  cases A with
  | none =>
    have hb : bs = [] := Rd.empty hr.rd
    subst hb
    exact run_convert_bytes_nil w 22 5 Tryd.underlying22 Tryd.underlying5 n c 9 Tryd.underlying9
  | some a =>
    cases bs with
    | nil =>
      obtain rfl : n = 0 := hlen.symm
      rw [run_convert_bytes_string w 22 9 5 _ 0 c Tryd.underlying22 Tryd.underlying5 Tryd.underlying9]
      have hl : (loadCells a 0).run Tryd.prog w = .ok (([] : List Int).map (Value.int .u8)).toArray w := rfl
      rw [run_bytesToString w a 0 c [] hl]
      rfl
    | cons x l =>
      obtain ⟨b, o, e, _⟩ := hr.rd 0 (by simp)
      have e' : a = ⟨b, o, none⟩ := Option.some.inj e
      subst e'
      refine run_convert_bytes_arg w 22 5 Tryd.underlying22 Tryd.underlying5 b o n c ((x :: l).map fun x => (x.toNat : Int)) (by rw [List.length_map]; exact hlen) (fun i hi => ?_) 9 Tryd.underlying9
      obtain ⟨b', o', e2, hc⟩ := hr.rd i (by rw [hlen]; exact hi)
      obtain ⟨rfl, rfl⟩ : b = b' ∧ o = o' := by simpa using e2
      rw [hc]
      have hil : i < (x :: l).length := by rw [hlen]; exact hi
      rw [List.getD_eq_getElem?_getD, List.getElem?_map, List.getElem?_eq_getElem hil]
      rfl
theorem toList_inj {a b : List (BitVec 8)} (h : (toStr a).toList = (toStr b).toList) : a = b := by
  rw [toStr, toStr, Lib.strOfNums_toList, Lib.strOfNums_toList] at h
  refine toStr_inj ?_
  unfold toStr strOfNums
  exact congrArg (fun l : List UInt8 => (⟨l.toArray⟩ : ByteArray)) h
theorem str_eql {t : TypeId} (a b : List (BitVec 8)) : binOp .eql t (.string (toStr a)) (.string (toStr b)) = pure (.bool (decide (a = b))) := by
  by_cases h : a = b
  · subst h
    simp [binOp, Op.stringOp]
  · have h2 : ¬ (toStr a).toList = (toStr b).toList := fun e => h (toList_inj e)
    have h3 : ((toStr a).toList == (toStr b).toList) = false := by rw [beq_eq_false_iff_ne]; exact h2
    simp [binOp, Op.stringOp, h, h3]
set_option maxHeartbeats 2000000 in
set_option maxRecDepth 100000 in
theorem equal_any (A B : Option Addr) (n c m d : Nat) (bs cs : List (BitVec 8)) (w : World) (hx : RowRd w ⟨A, n, c⟩ bs) (hy : RowRd w ⟨B, m, d⟩ cs) :
    Calls Tryd.prog 32 #[.slice A n c, .slice B m d] w fun e w' => e = .returned (.bool (decide (bs = cs))) ∧ w = w' := by
  have h1 := conv_row hx
  have h2 := conv_row hy
  have h3 : ∀ t, binOp .eql t (.string (toStr bs)) (.string (toStr cs)) = pure (.bool (decide (bs = cs))) := fun t => str_eql bs cs
  clear hx hy
  go_enter Tryd.func32, Tryd.ntmps32
  go_wp2
  go_ret
  exact ⟨rfl, rfl⟩
end Go.Proofs.YtidcfjmibljkeaaDoor.K

/- The contract of the program's rest.take: bytes are taken, or it panics. -/
namespace Go.Proofs.YtidcfjmibljkeaaDoor.K
open Go Go.RowKit

def readP (A : Option Addr) (n c : Nat) (made bad : Bool) : List Value := [.slice A n c, .bool made, .bool bad]
/-- the block P is a reader of the program's whose left bytes are l -/
structure PrgR (w : World) (P : Nat) (l : List (BitVec 8)) (A : Option Addr) (n c : Nat) (made bad : Bool) : Prop where
  blk : ∃ t, w.heap[P]? = some (.cells (readP A n c made bad).toArray t (0, 0))
  rd : Rd w A l
  len : l.length = n
  none : A = Option.none → c = 0
  n_le : n ≤ 1000000000000
  cap : n ≤ c ∧ c ≤ 9223372036854775807
  ne : ∀ a, A = some a → a.block ≠ P
  form : ∀ a, A = some a → ∃ g o, a = ⟨g, o, Option.none⟩
theorem PrgR.cell {w : World} {P : Nat} {l : List (BitVec 8)} {A : Option Addr} {n c : Nat} {made bad : Bool} (h : PrgR w P l A n c made bad) {i : Nat} {v : Value} (hv : (readP A n c made bad)[i]? = some v) : w.cell? ⟨P, i, Option.none⟩ = some v := by
  obtain ⟨t, hb⟩ := h.blk
  exact block_cell hb hv
theorem PrgR.free {w : World} {P : Nat} {l : List (BitVec 8)} {A : Option Addr} {n c : Nat} {made bad : Bool} (h : PrgR w P l A n c made bad) (i : Nat) : w.frozen? ⟨P, i, Option.none⟩ = false := by
  obtain ⟨t, hb⟩ := h.blk
  exact frozen_of_row w P i _ t hb
theorem Rd.setCellP {w : World} {A : Option Addr} {l : List (BitVec 8)} (h : Rd w A l) {b i : Nat} (hb : ∀ a, A = some a → a.block ≠ b) (v : Value) : Rd (w.setCell ⟨b, i, none⟩ v) A l := fun k hk => by
  obtain ⟨g', o, e, hc⟩ := h k hk
  exact ⟨g', o, e, by rw [cell_setCell_ne _ (hb _ e)]; exact hc⟩
/-- what a panic bears -/
def shortP : List PanicEntry := [{ v := .iface 72 (.agg #[]), recovered := false }]

set_option maxHeartbeats 1000000 in
theorem take_bad (P : Nat) (l : List (BitVec 8)) (A : Option Addr) (n c : Nat) (made bad : Bool) (k : Int) (w : World) (h : PrgR w P l A n c made bad) (hk : k < 0 ∨ (n : Int) < k) :
    Calls Tryd.prog 56 #[.pointer (some ⟨P, 0, none⟩), .int .i64 k] w fun e w' => e = .panicked shortP ∧ w = w' := by
  have c0 : w.cell? ⟨P, 0, none⟩ = some (.slice A n c) := h.cell rfl
  clear h
  rcases hk with hk | hk
  · have d1 : decide (k < 0) = true := by simpa using hk
    go_enter Tryd.func56, Tryd.ntmps56
    go_wp2
    exact ⟨rfl, rfl, rfl⟩
  · have p1 : ¬ k < 0 := by omega
    have d1 : decide (k < 0) = false := by simpa using p1
    have d2 : decide ((n : Int) < k) = true := by simpa using hk
    go_enter Tryd.func56, Tryd.ntmps56
    go_wp2
    exact ⟨rfl, rfl, rfl⟩

/-- bytes were taken -/
def TakeOk (w : World) (P : Nat) (l : List (BitVec 8)) (A : Option Addr) (n c : Nat) (made bad : Bool) (k : Nat) (e : Ending) (w' : World) : Prop :=
  e = .returned (.slice A k c) ∧ (∃ A', PrgR w' P (l.drop k) A' (n - k) (c - k) made bad ∧ ∀ a', A' = some a' → ∃ a, A = some a ∧ a'.block = a.block) ∧ w.grownBy w' (some P) ∧ Rd w' A (l.take k)
theorem take_post {w : World} {P : Nat} {l : List (BitVec 8)} {A A' : Option Addr} {n c : Nat} {made bad : Bool} (h : PrgR w P l A n c made bad) {k : Nat} (hk : k ≤ n)
    (hA : (c = k ∧ A' = A) ∨ ∃ g o, A = some ⟨g, o, none⟩ ∧ A' = some ⟨g, o + k, none⟩) : TakeOk w P l A n c made bad k (.returned (.slice A k c)) (w.setCell ⟨P, 0, none⟩ (.slice A' (n - k) (c - k))) := by
  obtain ⟨t, hb⟩ := h.blk
  have hlen := h.len
  have hne' : ∀ a', A' = some a' → a'.block ≠ P := by
    intro a' e
    rcases hA with ⟨_, rfl⟩ | ⟨g, o, h1, h2⟩
    · exact h.ne a' e
    · rw [h2] at e; cases e
      exact h.ne ⟨g, o, none⟩ h1
  have hrd : Rd w A' (l.drop k) := by
    intro i hi
    have hi2 : k + i < l.length := by rw [List.length_drop] at hi; omega
    rcases hA with ⟨hc, rfl⟩ | ⟨g, o, h1, h2⟩
    · have := h.cap.1; omega
    · obtain ⟨b, o', e, hc⟩ := h.rd (k + i) hi2
      rw [h1] at e; cases e
      exact ⟨g, o + k, h2, by rw [Nat.add_assoc, hc]; simp⟩
  refine ⟨rfl, ⟨A', ⟨⟨t, block_set hb 0 _⟩, hrd.setCellP hne' _, by rw [List.length_drop]; omega, fun e => ?_, by have := h.n_le; omega, ⟨by have := h.cap; omega, by have := h.cap; omega⟩, hne', fun a e => ?_⟩, fun a' e => ?_⟩, grownBy_setCell w P 0 _, Rd.setCellP (fun i hi => ?_) h.ne _⟩
  · rcases hA with ⟨hc, _⟩ | ⟨g, o, _, h2⟩
    · omega
    · rw [h2] at e; cases e
  · rcases hA with ⟨_, rfl⟩ | ⟨g, o, _, h2⟩
    · exact h.form a e
    · rw [h2] at e; cases e; exact ⟨_, _, rfl⟩
  · rcases hA with ⟨_, rfl⟩ | ⟨g, o, h1, h2⟩
    · exact ⟨a', e, rfl⟩
    · rw [h2] at e; cases e; exact ⟨_, h1, rfl⟩
  · have hi2 : i < l.length := by rw [List.length_take] at hi; omega
    obtain ⟨b, o', e, hc⟩ := h.rd i hi2
    exact ⟨b, o', e, by rw [hc]; simp⟩

set_option maxHeartbeats 1000000 in
theorem take_ok (P : Nat) (l : List (BitVec 8)) (A : Option Addr) (n c : Nat) (made bad : Bool) (k : Nat) (w : World) (h : PrgR w P l A n c made bad) (hk : k ≤ n) :
    Calls Tryd.prog 56 #[.pointer (some ⟨P, 0, none⟩), .int .i64 (k : Int)] w (TakeOk w P l A n c made bad k) := by
  have c0 : w.cell? ⟨P, 0, none⟩ = some (.slice A n c) := h.cell rfl
  have f0 := h.free 0
  have hcap := h.cap
  have hnl := h.n_le
  have p1 : ¬ (k : Int) < 0 := by omega
  have p2 : ¬ (n : Int) < (k : Int) := by omega
  have p3 : (k : Int) ≤ (c : Int) := by omega
  have p4 : (k : Int) ≤ (n : Int) := by omega
  have p0 : (0 : Int) ≤ (k : Int) := by omega
  have H := Lib.hid h
  clear h
  by_cases hck : c = k
  · have hp := take_post H.out hk (A' := A) (.inl ⟨hck, rfl⟩)
    have hnk : n = k := by omega
    subst hnk
    subst hck
    simp only [Nat.sub_self] at hp
    have HP := Lib.hid hp
    clear hp
    go_enter Tryd.func56, Tryd.ntmps56
    go_wp2
    go_ret
    exact HP.out
  · obtain ⟨ad, rfl⟩ : ∃ ad, A = some ad := by
      cases A with
      | some ad => exact ⟨ad, rfl⟩
      | none => have h1 := H.out.none rfl; omega
    obtain ⟨g, o, rfl⟩ := H.out.form ad rfl
    have hp := take_post H.out hk (A' := some ⟨g, o + k, none⟩) (.inr ⟨g, o, rfl, rfl⟩)
    have HP := Lib.hid hp
    clear hp
    go_enter Tryd.func56, Tryd.ntmps56
    go_wp2
    go_ret
    exact HP.out

/-- a number was read -/
def NumOk (w : World) (P : Nat) (l : List (BitVec 8)) (A : Option Addr) (n c : Nat) (made bad : Bool) (e : Ending) (w' : World) : Prop :=
  e = .returned (.int .i64 (M.val (l.take 8))) ∧ (∃ A', PrgR w' P (l.drop 8) A' (n - 8) (c - 8) made bad ∧ ∀ a', A' = some a' → ∃ a, A = some a ∧ a'.block = a.block) ∧ w.grownBy w' (some P)
theorem PrgR.drewN {w : World} {P : Nat} {l : List (BitVec 8)} {A : Option Addr} {n c : Nat} {made bad : Bool} (h : PrgR w P l A n c made bad) (q : Nat) : PrgR (w.drewN q) P l A n c made bad :=
  ⟨h.blk, h.rd, h.len, h.none, h.n_le, h.cap, h.ne, h.form⟩
theorem conv_W64_int' {P : Program} (w : World) (src dst : TypeId) (x : BitVec 64) (hs : P.underlying src = some (.int .u64)) (hd : P.underlying dst = some (.int .i64)) : (convert src dst (W64 x)).run P w = .ok (.int .i64 x.toInt) w := by
  have h : IntKind.i64.wrap (x.toNat : Int) = x.toInt := by
    rw [BitVec.toInt_eq_toNat_bmod]
    simp [IntKind.wrap, IntKind.bits, IntKind.signed, Int.bmod]
    split <;> split <;> omega
  simp [convert, run_underlying hs, run_underlying hd, Conv.intToInt, W64, h]

set_option maxHeartbeats 1000000 in
theorem pnum_bad (P : Nat) (l : List (BitVec 8)) (A : Option Addr) (n c : Nat) (made bad : Bool) (w : World) (h : PrgR w P l A n c made bad) (hn : n < 8) :
    Calls Tryd.prog 41 #[.pointer (some ⟨P, 0, none⟩)] w fun e w' => e = .panicked shortP ∧ w = w' := by
  have H := Lib.hid h
  clear h
  go_enter Tryd.func41, Tryd.ntmps41
  go_wp2_with fail
  refine (take_bad P l A n c made bad 8 w H.out (by omega)).mono ?_
  rintro e w' ⟨rfl, rfl⟩
  go_wp2
  exact ⟨rfl, rfl, rfl⟩

set_option maxHeartbeats 1000000 in
theorem pnum_ok (P : Nat) (l : List (BitVec 8)) (A : Option Addr) (n c : Nat) (made bad : Bool) (w : World) (h : PrgR w P l A n c made bad) (hn : 8 ≤ n) :
    Calls Tryd.prog 41 #[.pointer (some ⟨P, 0, none⟩)] w (NumOk w P l A n c made bad) := by
  have hlen := h.len
  have H := Lib.hid h; have HLEN := Lib.hid hlen
  clear h hlen
  go_enter Tryd.func41, Tryd.ntmps41
  go_wp2_with fail
  refine (take_ok P l A n c made bad 8 w H.out hn).mono ?_
  rintro e w1 ⟨rfl, ⟨A', hpr, hA'⟩, hg, hrd⟩
  have hl8 : (l.take 8).length = 8 := by have := HLEN.out; rw [List.length_take]; omega
  obtain ⟨b, o, rfl, _, hD⟩ := hrd.lay (by omega)
  rw [hl8] at hD
  have HPR := Lib.hid hpr; have HG := Lib.hid hg; have HD := Lib.hid hD; have HL8 := Lib.hid hl8; have HA := Lib.hid hA'
  clear hpr hg hrd hD hl8 hA'
  go_wp2
  go_loopw [3, 5, 9] (fun v _ i wr => ∃ k : Nat, k ≤ 8 ∧ i = .int .i64 (k : Int) ∧ v = W64 (M.w64 ((l.take 8).take k)) ∧ w1 = wr) (fun _ _ i _ => 8 - (intOf i).toNat)
  case atStart => exact ⟨0, by omega, rfl, rfl, rfl⟩
  case round =>
    obtain ⟨k, hk, rfl, rfl, rfl⟩ := hrel
    have k0 : (0 : Int) ≤ (k : Int) := by omega
    rcases Nat.lt_or_ge k 8 with h9 | h9
    · have k1 : (k : Int) < 8 := by omega
      have cx : w1.cell? ⟨b, o + k, none⟩ = some (B8 ((l.take 8).getD k 0)) := HD.out k h9
      go_wp2
      go_roundw
      case rel =>
        refine ⟨k + 1, by omega, by go_num, ?_, by trivial⟩
        have hl := HL8.out
        have hk' : k < (l.take 8).length := by rw [hl]; exact h9
        rw [show (l.take 8).take (k + 1) = (l.take 8).take k ++ [(l.take 8)[k]] from List.take_succ_eq_append_getElem hk', M.w64_snoc, ← M.shift_or]
        have hk2 : k < l.length := by have := HLEN.out; omega
        congr 2
        simp [hk2]
      case measure => simp [intOf]; omega
    · have hk8 : k = 8 := by omega
      have k1 : ¬ (k : Int) < 8 := by omega
      have hcv := fun w => conv_W64_int' (P := Tryd.prog) w 66 3 (M.w64 ((l.take 8).take k)) Tryd.underlying66 Tryd.underlying3
      have HK8 := Lib.hid hk8
      clear hk8
      go_wp2
      go_ret
      refine ⟨?_, ⟨A', HPR.out, HA.out⟩, HG.out⟩
      have e : M.val (l.take 8) = (M.w64 ((l.take 8).take k)).toInt := by rw [HK8.out, List.take_take]; rfl
      rw [e]; rfl
end Go.Proofs.YtidcfjmibljkeaaDoor.K

/- The contracts of the program's rest.small and rest.bytes: they read, or panic. -/
namespace Go.Proofs.YtidcfjmibljkeaaDoor.K
open Go Go.RowKit

/-- it panicked, and the reader is one still -/
def PBad (w : World) (P : Nat) (made bad : Bool) (e : Ending) (w' : World) : Prop :=
  e = .panicked shortP ∧ (∃ l A n c, PrgR w' P l A n c made bad) ∧ w.grownBy w' (some P)
theorem grown_refl (w : World) (row : Option Nat) : w.grownBy w row := ⟨rfl, rfl, rfl, Nat.le_refl _, fun _ _ _ => rfl⟩
theorem grown_trans' {w w1 w2 : World} {row : Option Nat} (h : w.grownBy w1 row) (h' : w1.grownBy w2 row) : w.grownBy w2 row :=
  ⟨h'.os.trans h.os, h'.tape.trans h.tape, h'.output.trans h.output, Nat.le_trans h.size h'.size, fun k hk hne => (h'.block k (Nat.lt_of_lt_of_le hk h.size) hne).trans (h.block k hk hne)⟩
theorem pnum_bad' (P : Nat) (l : List (BitVec 8)) (A : Option Addr) (n c : Nat) (made bad : Bool) (w : World) (h : PrgR w P l A n c made bad) (hn : n < 8) :
    Calls Tryd.prog 41 #[.pointer (some ⟨P, 0, none⟩)] w (PBad w P made bad) :=
  (pnum_bad P l A n c made bad w h hn).mono fun e w' ⟨he, hw⟩ => by subst hw; exact ⟨he, ⟨l, A, n, c, h⟩, grown_refl _ _⟩


/-- bytes were read -/
def BytOk (w : World) (P : Nat) (l : List (BitVec 8)) (A : Option Addr) (made bad : Bool) (e : Ending) (w' : World) : Prop :=
  ∃ B m c' A' n2 c2 l', e = .returned (.slice B m c') ∧ w'.ownsRow w.heap.size 5 1 (.slice B m c') m (bv (M.rdBytes (some l)).1) ∧ (M.rdBytes (some l)).2 = some l' ∧ PrgR w' P l' A' n2 c2 made bad ∧ (∀ a', A' = some a' → ∃ a, A = some a ∧ a'.block = a.block) ∧ w.grownBy w' (some P)
theorem PrgR.grown {w w' : World} {P : Nat} {l : List (BitVec 8)} {A : Option Addr} {n c : Nat} {made bad : Bool} (h : PrgR w P l A n c made bad) {row : Option Nat} (hg : w.grownBy w' row) (hR : row ≠ some P) (hA : ∀ a, A = some a → row ≠ some a.block) : PrgR w' P l A n c made bad := by
  obtain ⟨t, hb⟩ := h.blk
  refine ⟨⟨t, (hg.block P (Array.getElem?_eq_some_iff.1 hb).1 (Ne.symm hR)).trans hb⟩, fun k hk => ?_, h.len, h.none, h.n_le, h.cap, h.ne, h.form⟩
  obtain ⟨b, o, e, hc⟩ := h.rd k hk
  exact ⟨b, o, e, hg.cell hc (Ne.symm (hA ⟨b, o, Option.none⟩ e))⟩

set_option maxHeartbeats 1000000 in
theorem bytes_bad (P : Nat) (l : List (BitVec 8)) (A : Option Addr) (n c : Nat) (made bad : Bool) (w : World) (h : PrgR w P l A n c made bad) (hb : (M.rdBytes (some l)).2 = none) :
    Calls Tryd.prog 44 #[.pointer (some ⟨P, 0, none⟩)] w (PBad w P made bad) := by
  have hlen := h.len
  have hga := World.grownBy_alloc w (.cells #[] 5)
  have h0 := h.grown (hga none) (by simp) (fun _ _ => by simp)
  have H0 := Lib.hid h0; have HGA := Lib.hid (hga (some P))
  clear h h0 hga
  rcases Nat.lt_or_ge n 8 with h8 | h8
  · go_enter Tryd.func44, Tryd.ntmps44
    go_wp2_with fail
    refine (pnum_bad' P l A n c made bad _ H0.out h8).mono ?_
    rintro e w1 ⟨rfl, hp, hg⟩
    have HP := Lib.hid hp; have HG := Lib.hid (grown_trans' HGA.out hg)
    clear hp hg
    go_wp2
    exact ⟨rfl, rfl, HP.out, HG.out⟩
  · have hv : M.val (l.take 8) < 0 ∨ ((n - 8 : Nat) : Int) < M.val (l.take 8) := by
      simp only [M.rdBytes, M.rdNumber] at hb
      rw [if_neg (by omega)] at hb
      simp only at hb
      split at hb
      · rename_i h'; rw [List.length_drop, hlen] at h'; exact h'
      · cases hb
    obtain ⟨v, hvv⟩ : ∃ v, v = M.val (l.take 8) := ⟨_, rfl⟩
    rw [← hvv] at hv
    have HV := Lib.hid hvv
    clear hvv hb hlen
    go_enter Tryd.func44, Tryd.ntmps44
    go_wp2_with fail
    refine (pnum_ok P l A n c made bad _ H0.out h8).mono ?_
    rintro e w1 ⟨rfl, ⟨A', hp, _⟩, hg⟩
    rw [← HV.out]
    have HP := Lib.hid hp; have HG := Lib.hid (grown_trans' HGA.out hg)
    clear hp hg
    go_wp2_with fail
    refine (take_bad P (l.drop 8) A' (n - 8) (c - 8) made bad v w1 HP.out hv).mono ?_
    rintro e w2 ⟨rfl, rfl⟩
    go_wp2
    exact ⟨rfl, rfl, ⟨_, _, _, _, HP.out⟩, HG.out⟩

theorem grown_more {w w2 w3 : World} {P X : Nat} (h : w.grownBy w2 (some P)) (h' : w2.grownBy w3 (some X)) (hX : w.heap.size ≤ X) : w.grownBy w3 (some P) :=
  ⟨h'.os.trans h.os, h'.tape.trans h.tape, h'.output.trans h.output, Nat.le_trans h.size h'.size, fun k hk hne => (h'.block k (Nat.lt_of_lt_of_le hk h.size) (by simp; omega)).trans (h.block k hk hne)⟩
theorem PrgR.lt {w : World} {P : Nat} {l : List (BitVec 8)} {A : Option Addr} {n c : Nat} {made bad : Bool} (h : PrgR w P l A n c made bad) : P < w.heap.size := by
  obtain ⟨t, hb⟩ := h.blk
  exact (Array.getElem?_eq_some_iff.1 hb).1

theorem away {w : World} {A0 A1 A2 : Option Addr} (h0 : ∀ a, A0 = some a → a.block < w.heap.size) (h1 : ∀ a', A1 = some a' → ∃ a, A0 = some a ∧ a'.block = a.block) (h2 : ∀ a', A2 = some a' → ∃ a, A1 = some a ∧ a'.block = a.block) : ∀ a, A2 = some a → some w.heap.size ≠ some a.block := by
  intro a e
  obtain ⟨a1, e1, g1⟩ := h2 a e
  obtain ⟨a0, e0, g0⟩ := h1 a1 e1
  have := h0 a0 e0
  simp; omega
set_option maxHeartbeats 1000000 in
set_option maxRecDepth 100000 in
theorem bytes_ok (P : Nat) (l : List (BitVec 8)) (A : Option Addr) (n c : Nat) (made bad : Bool) (w : World) (l' : List (BitVec 8)) (h : PrgR w P l A n c made bad) (hAB : ∀ a, A = some a → a.block < w.heap.size) (hb : (M.rdBytes (some l)).2 = some l') :
    Calls Tryd.prog 44 #[.pointer (some ⟨P, 0, none⟩)] w (BytOk w P l A made bad) := by
  obtain ⟨i0, hi, hz0, hz1, hz2⟩ := info_parts infoByte
  have hlen := h.len
  have hnl := h.n_le
  have hPl := h.lt
  have hga := World.grownBy_alloc w (.cells #[] 5)
  have h0 := h.grown (hga none) (by simp) (fun _ _ => by simp)
  have hrow := own_lit0 (w := w) (base := w.heap.size) (e := 5) (Nat.le_refl _)
  have hv : 8 ≤ n ∧ 0 ≤ M.val (l.take 8) ∧ M.val (l.take 8) ≤ ((n - 8 : Nat) : Int) ∧ M.rdBytes (some l) = ((l.drop 8).take (M.val (l.take 8)).toNat, some ((l.drop 8).drop (M.val (l.take 8)).toNat)) := by
    simp only [M.rdBytes, M.rdNumber] at hb ⊢
    by_cases h8 : l.length < 8
    · rw [if_pos h8] at hb; cases hb
    · rw [if_neg h8] at hb ⊢
      simp only at hb ⊢
      by_cases hc : M.val (l.take 8) < 0 ∨ ((l.drop 8).length : Int) < M.val (l.take 8)
      · rw [if_pos hc] at hb; cases hb
      · rw [if_neg hc]
        rw [List.length_drop, hlen] at hc
        exact ⟨by omega, by omega, by omega, rfl⟩
  obtain ⟨h8, hv0, hv1, hrb⟩ := hv
  obtain ⟨m, hm⟩ : ∃ m : Nat, M.val (l.take 8) = (m : Int) := ⟨(M.val (l.take 8)).toNat, by omega⟩
  rw [hm] at hrb hv1
  rw [Int.toNat_natCast] at hrb
  have hm1 : m ≤ n - 8 := by omega
  have HRB := Lib.hid hrb; have H0 := Lib.hid h0; have HGA := Lib.hid (hga (some P)); have HROW := Lib.hid hrow; have HM := Lib.hid hm; have HAB := Lib.hid hAB; have HLEN := Lib.hid hlen
  clear h h0 hga hrow hb hrb hm hv0 hv1 hAB hlen
  go_enter Tryd.func44, Tryd.ntmps44
  go_wp2_with fail
  refine (pnum_ok P l A n c made bad _ H0.out h8).mono ?_
  rintro e w1 ⟨rfl, ⟨A1, hp, hA1⟩, hg⟩
  rw [HM.out]
  have HP := Lib.hid hp; have HG := Lib.hid (grown_trans' HGA.out hg); have HA1 := Lib.hid hA1
  have HROW1 := Lib.hid (World.ownsRow.kept HROW.out hg (.inr (by simp [Value.ownBlock]; omega)))
  clear hp hg hA1 HROW
  go_wp2_with fail
  refine (take_ok P (l.drop 8) A1 (n - 8) (c - 8) made bad m w1 HP.out hm1).mono ?_
  rintro e w2 ⟨rfl, ⟨A2, hp2, hA2⟩, hg2, hrd2⟩
  have hcs := hrd2.cells
  have hlm : ((l.drop 8).take m).length = m := by have := HLEN.out; rw [List.length_take, List.length_drop]; omega
  have hl2 : (bv ((l.drop 8).take m)).length = m * 1 := by rw [bv_length, hlm]; omega
  have hnn : A1 = none → m = 0 ∧ c - 8 = 0 := fun e => ⟨by
    rw [e] at hrd2
    rw [hrd2.empty] at hlm; exact hlm.symm, HP.out.none e⟩
  have hs2 : w.heap.size ≤ w2.heap.size := Nat.le_trans HG.out.size hg2.size
  have HP2 := Lib.hid hp2; have HG2 := Lib.hid (grown_trans' HG.out hg2); have HA2 := Lib.hid hA2; have HCS := Lib.hid hcs; have HL2 := Lib.hid hl2; have HNN := Lib.hid hnn
  have HROW2 := Lib.hid (World.ownsRow.kept HROW1.out hg2 (.inr (by simp [Value.ownBlock]; omega)))
  clear hp2 hg2 hA2 hrd2 hcs hlm hl2 hnn HROW1 HP HG
  go_wp2_with (at_builtin; refine wpList_append_any _ rfl _ _ 22 rfl w.heap.size 5 i0 (.int .u8 0) 1 1 Tryd.underlying22 hi hz0 hz1 hz2 rfl (by decide) _ 0 (bv []) rfl HROW2.out A1 m (c - 8) (bv ((l.drop 8).take m)) rfl HNN.out HL2.out HCS.out (bv_one _) (by unfold maxLen; omega) (by omega) hs2 ?_; intro v3 w3 hown3 hgrow3; rw [← bv_append, List.nil_append, Nat.zero_add] at hown3; obtain ⟨B3, d3, rfl⟩ := row_slice hown3; have hgrow4 : w2.grownBy w3 (some w.heap.size) := hgrow3; have HG3 := Lib.hid (grown_more HG2.out hgrow4 (Nat.le_refl _)); have HP3 := Lib.hid (HP2.out.grown hgrow4 (fun e => by (cases e; omega)) (away HAB.out HA1.out HA2.out)); have HO3 := Lib.hid hown3; clear hown3 hgrow3 hgrow4)
  go_ret
  refine ⟨B3, m, d3, A2, _, _, (l.drop 8).drop m, rfl, by rw [HRB.out]; exact HO3.out, by rw [HRB.out], HP3.out, fun a e => ?_, HG3.out⟩
  obtain ⟨a1, e1, h1⟩ := HA2.out a e
  obtain ⟨a0, e0, h0⟩ := HA1.out a1 e1
  exact ⟨a0, e0, h1.trans h0⟩
end Go.Proofs.YtidcfjmibljkeaaDoor.K

/- The deferred closures of wire.reads. -/
namespace Go.Proofs.YtidcfjmibljkeaaDoor.K
open Go Go.RowKit

theorem tmps21 (a b x : Value) : (#[a, b] ++ ((Array.replicate 19 undef).setIfInBounds 4 x).setIfInBounds 0 x) = #[a, b, x, undef, undef, undef, x, undef, undef, undef, undef, undef, undef, undef, undef, undef, undef, undef, undef, undef, undef] := by
  apply Array.toList_inj.1
  simp [List.replicate]
theorem catchInt_idle (p q : Addr) (w : World) :
    CallsD Tryd.prog 55 #[.pointer (some p), .pointer (some q)] .returning w fun e u' w' => e = .returned (.tuple #[]) ∧ u' = .returning ∧ w' = w := by
  refine callsD_of_wpS Tryd.func55 rfl fun c₀ cs hu => ?_
  apply wpS_seq
  apply wpS_region
  simp [wpOpsS, go_sem, recoverD, hu, Tryd.ntmps55, Exit.thenS]
  refine wpS_of_wp ?_
  rw [tmps21]
  go_wp2
  cases c₀
  simp_all [bodyPostS, results, Tryd.results55]
set_option maxHeartbeats 1000000 in
set_option maxRecDepth 100000 in
theorem catchInt_panicking (O R P : Nat) (x : Int) (A : Option Addr) (l : List (BitVec 8)) (n c : Nat) (w : World) (ho : w.cell? ⟨O, 0, none⟩ = some (.int .i64 x)) (hof : w.frozen? ⟨O, 0, none⟩ = false) (hr : w.cell? ⟨R, 0, none⟩ = some (.pointer (some ⟨P, 0, none⟩))) (hp : PrgR w P l A n c true false) (hOP : O ≠ P) :
    CallsD Tryd.prog 55 #[.pointer (some ⟨O, 0, none⟩), .pointer (some ⟨R, 0, none⟩)] (.panicking shortP) w fun e u' w' =>
      e = .returned (.tuple #[]) ∧ u' = .panicking [{ v := .iface 72 (.agg #[]), recovered := true }] ∧ w' = ((w.alloc (.cells #[] 72)).setCell ⟨O, 0, none⟩ (.int .i64 0)).setCell ⟨P, 2, none⟩ (.bool true) := by
  have hta : ∀ w, (Instr.typeAssert (.iface 72 (.agg #[])) 20 72 true).run Tryd.prog w = .ok (.tuple #[.agg #[], .bool true]) w := fun _ => by kernel_rfl
  refine callsD_of_wpS Tryd.func55 rfl fun c₀ cs hu => ?_
  unfold shortP at hu
  have d0 : w.cell? ⟨P, 2, none⟩ = some (.bool false) := hp.cell rfl
  have hr' := cell_old (.cells #[] 72) hr
  have ho' := cell_old (.cells #[] 72) ho
  have hof' : (w.alloc (.cells #[] 72)).frozen? ⟨O, 0, none⟩ = false := (((Below.refl w.heap.size w).alloc (Nat.le_refl _) (.cells #[] 72)).frozen (p := ⟨O, 0, none⟩) (block_lt_of_cell ho)).trans hof
  have d2 : ((w.alloc (.cells #[] 72)).setCell ⟨O, 0, none⟩ (.int .i64 0)).cell? ⟨P, 2, none⟩ = some (.bool false) := (cell_setCell_ne _ (fun e => hOP e.symm)).trans (cell_old _ d0)
  have f2 : (w.alloc (.cells #[] 72)).frozen? ⟨P, 2, none⟩ = false := (((Below.refl w.heap.size w).alloc (Nat.le_refl _) (.cells #[] 72)).frozen (p := ⟨P, 2, none⟩) (block_lt_of_cell d0)).trans (hp.free 2)
  clear hp d0 hr ho hof
  apply wpS_seq
  apply wpS_region
  simp [wpOpsS, go_sem, recoverD, hu, Tryd.ntmps55, Exit.thenS]
  refine wpS_of_wp ?_
  rw [tmps21]
  go_wp2
  cases c₀
  simp_all [bodyPostS, results, Tryd.results55]
end Go.Proofs.YtidcfjmibljkeaaDoor.K
