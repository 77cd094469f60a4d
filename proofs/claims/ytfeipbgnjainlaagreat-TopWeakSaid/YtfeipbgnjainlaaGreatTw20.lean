/- What all servers look at: TPla, TExA, TCkC, TBkK, TShC, TShD -/
import Derived.Test.YtfeipbgnjainlaaGreatTw19
import Derived.Test.YtfeipbgnjainlaaGreatTw11
import Derived.Test.YtfeipbgnjainlaaGreatTw8
import Derived.Laws.OwnMore
import Derived.Test.YtfeipbgnjainlaaGreatTw2
set_option linter.unusedVariables false
set_option linter.unusedSimpArgs false
/- What is known of places, as accounts of a bank. -/
namespace Go.Proofs.YtfeipbgnjainlaaGreat.K
open Go Go.RowKit Go.Maps Go.Sort

/-- a row of whatever, in a block of its own -/
def rwA (g n c : Nat) (e : TypeId) (size : Nat) (xs : List Value) : Acc := ⟨.slice (some ⟨g,0,none⟩) n c,n,e,size,xs⟩
section
variable {w0 w : World} {L : List Acc} (h : Bank w0 w L) (i : Nat) {g n c : Nat} {e : TypeId} {size : Nat} {xs : List Value} (hi : L[i]? = some (rwA g n c e size xs))
include h hi
theorem Bank.rcell (j : Nat) {v : Value} (hv : xs[j]? = some v) : w.cell? ⟨g,j,Option.none⟩ = some v := by
 have ho : w.ownsRow w0.heap.size e size (.slice (some ⟨g,0,Option.none⟩) n c) n xs := h.at i hi
 have hl := ho.1
 have hj := (List.getElem?_eq_some_iff.1 hv).1
 rw [ho.cellAt j (by omega),hv]
theorem Bank.rfree (j : Nat) : w.frozen? ⟨g,j,Option.none⟩ = false := (show w.ownsRow w0.heap.size e size (.slice (some ⟨g,0,Option.none⟩) n c) n xs from h.at i hi).frozenAt j
theorem Bank.rset (j : Nat) (v : Value) : Bank w0 (w.setCell ⟨g,j,Option.none⟩ v) (L.set i (rwA g n c e size (xs.set j v))) := by
 obtain ⟨ho,hg⟩ := (show w.ownsRow w0.heap.size e size (.slice (some ⟨g,0,Option.none⟩) n c) n xs from h.at i hi).stored j v
 exact h.put i hi ho hg (.inl rfl)
end
theorem Bank.permB {w0 w : World} {L L' : List Acc} (h : Bank w0 w L) (hp : L.Perm L') : Bank w0 w L' := ⟨h.since,fun p hm => h.own p (hp.mem_iff.2 hm),(List.Perm.pairwise_iff (fun {_ _} h => Apartness.symm h) hp).1 h.sep⟩
theorem wp_bank {P : Program} {c : Code} {Q : Exit → Act → World → Prop} {a : Act} {w w0 : World} (L : List Acc) (hB : Bank w0 w L) (h : ∀ w',Bank w0 w' L → c.wp P Q a w') : c.wp P Q a w := h w hB
/-! ### flat rows of structs -/
section
variable {α : Type _} (f : α → List Value) (m : Nat) (hf : ∀ x,(f x).length = m)
include hf
theorem flat_get : ∀ (xs : List α) (k : Nat) (hk : k < xs.length) (j : Nat),j < m → (xs.flatMap f)[k * m + j]? = (f xs[k])[j]?
 | [],k,hk,_,_ => absurd hk (Nat.not_lt_zero _)
 | x :: xs,0,_,j,hj => by
  rw [List.flatMap_cons,Nat.zero_mul,Nat.zero_add,List.getElem?_append_left (by rw [hf]; exact hj)]; rfl
 | x :: xs,k + 1,hk,j,hj => by
  rw [List.flatMap_cons,List.getElem?_append_right (by rw [hf,Nat.succ_mul]; omega),hf,show (k + 1) * m + j - m = k * m + j by rw [Nat.succ_mul]; omega]
  exact flat_get xs k (by simpa using hk) j hj
theorem flat_len : ∀ xs : List α,(xs.flatMap f).length = xs.length * m
 | [] => by simp
 | x :: xs => by rw [List.flatMap_cons,List.length_append,hf,flat_len xs,List.length_cons,Nat.succ_mul]; omega
theorem flat_set : ∀ (xs : List α) (k j : Nat) (v : Value),k < xs.length → j < m → ∀ y z : List Value,(∀ x,xs[k]? = some x → f x = y) → z = y.set j v →
  (xs.flatMap f).set (k * m + j) v = (xs.take k).flatMap f ++ (z ++ (xs.drop (k + 1)).flatMap f)
 | [],k,_,_,hk,_,_,_,_,_ => absurd hk (Nat.not_lt_zero _)
 | x :: xs,0,j,v,_,hj,y,z,hy,hz => by
  rw [List.flatMap_cons,Nat.zero_mul,Nat.zero_add,List.set_append_left _ _ (by rw [hf]; exact hj),hz,hy x rfl]; rfl
 | x :: xs,k + 1,j,v,hk,hj,y,z,hy,hz => by
  rw [List.flatMap_cons,List.set_append_right _ _ (by rw [hf,Nat.succ_mul]; omega),hf,show (k + 1) * m + j - m = k * m + j by rw [Nat.succ_mul]; omega,
   flat_set xs k j v (by simpa using hk) hj y z (fun u hu => hy u (by simpa using hu)) hz,List.take_succ_cons,List.flatMap_cons,List.append_assoc]
  rfl
end
theorem set_mid {a b z : List Value} {n j : Nat} (v : Value) (ha : a.length = n) (hj : j < z.length) : (a ++ (z ++ b)).set (n + j) v = a ++ (z.set j v ++ b) := by
 subst ha
 rw [List.set_append_right _ _ (by omega),show a.length + j - a.length = j by omega,List.set_append_left _ _ hj]
theorem flat_done {α : Type _} (f : α → List Value) : ∀ (xs : List α) (k : Nat) (x : α),k < xs.length → (xs.take k).flatMap f ++ (f x ++ (xs.drop (k + 1)).flatMap f) = (xs.set k x).flatMap f
 | [],k,_,hk => absurd hk (Nat.not_lt_zero _)
 | y :: xs,0,x,_ => by simp
 | y :: xs,k + 1,x,hk => by
  rw [List.take_succ_cons,List.flatMap_cons,List.append_assoc,List.drop_succ_cons,flat_done f xs k x (by simpa using hk),List.set_cons_succ,List.flatMap_cons]
/-! ### what is known of registers -/
def knL (k : T.Kn) : List Value := [.int .u8 k.k,W64 k.s.lo,W64 k.s.hi]
theorem knL_len (k : T.Kn) : (knL k).length = 3 := rfl
def knsL (ks : List T.Kn) : List Value := ks.flatMap knL
theorem knsL_len (ks : List T.Kn) : (knsL ks).length = ks.length * 3 := flat_len knL 3 knL_len ks
theorem knsL_one (ks : List T.Kn) : ∀ u ∈ knsL ks,u.oneCell' = true := by
 intro u hu
 obtain ⟨k,_,h⟩ := List.mem_flatMap.1 hu
 simp only [knL,List.mem_cons,List.mem_nil_iff,or_false] at h
 rcases h with rfl | rfl | rfl <;> rfl
theorem knsL_get (ks : List T.Kn) (k : Nat) (hk : k < ks.length) : (knsL ks)[k * 3]? = some (.int .u8 ks[k].k) ∧ (knsL ks)[k * 3 + 1]? = some (W64 ks[k].s.lo) ∧ (knsL ks)[k * 3 + 2]? = some (W64 ks[k].s.hi) :=
 ⟨flat_get knL 3 knL_len ks k hk 0 (by omega),flat_get knL 3 knL_len ks k hk 1 (by omega),flat_get knL 3 knL_len ks k hk 2 (by omega)⟩
theorem knsL_set (ks : List T.Kn) (k : Nat) (hk : k < ks.length) (x : T.Kn) : (((knsL ks).set (k * 3) (.int .u8 x.k)).set (k * 3 + 1) (W64 x.s.lo)).set (k * 3 + 2) (W64 x.s.hi) = knsL (ks.set k x) := by
 have hl : ((ks.take k).flatMap knL).length = k * 3 := by rw [flat_len knL 3 knL_len,List.length_take]; congr 1; omega
 rw [show k * 3 = k * 3 + 0 from rfl,knsL,flat_set knL 3 knL_len ks k 0 _ hk (by omega) (knL ks[k]) _ (fun u hu => by rw [List.getElem?_eq_getElem hk] at hu; cases hu; rfl) rfl]
 rw [show k * 3 + 0 + 1 = k * 3 + 1 from rfl,show k * 3 + 0 + 2 = k * 3 + 2 from rfl,set_mid _ hl (by simp [knL]),set_mid _ hl (by simp [knL])]
 exact flat_done knL ks k x hk
/-! ### places -/
/-- a place, and where its rows lie -/
structure PV where
 p : T.Pl
 gr : Nat
 cr : Nat
 gb : Nat
 cb : Nat
 tb : TypeId
def PV.dead : PV := ⟨T.Pl.dead,0,0,0,0,0⟩
def PV.rv (x : PV) : Value := if x.p.live then .slice (some ⟨x.gr,0,none⟩) 11 x.cr else .slice none 0 0
def PV.yv (x : PV) : Value := if x.p.live then .slice (some ⟨x.gb,0,none⟩) 512 x.cb else .slice none 0 0
def PV.cells (x : PV) : List Value := [.bool x.p.live,x.rv,x.yv,.int .i64 x.p.least]
theorem PV.cells_len (x : PV) : x.cells.length = 4 := rfl
def PV.regA (x : PV) : Acc := rwA x.gr 11 x.cr 113 3 (knsL x.p.regs)
def PV.byA (x : PV) : Acc := rwA x.gb 512 x.cb x.tb 1 (x.p.bytes.map .bool)
def PV.accs (x : PV) : List Acc := if x.p.live then [x.regA,x.byA] else []
theorem PV.live_accs {x : PV} (h : x.p.live = true) : x.accs = [x.regA,x.byA] := by simp [PV.accs,h]
theorem PV.dead_accs {x : PV} (h : x.p.live = false) : x.accs = [] := by simp [PV.accs,h]
def pvsL (xs : List PV) : List Value := xs.flatMap PV.cells
def pvA (xs : List PV) : List Acc := xs.flatMap PV.accs
def plsA (P n c : Nat) (xs : List PV) : Acc := rwA P n c 82 4 (pvsL xs)
theorem pvsL_get (xs : List PV) (k : Nat) (hk : k < xs.length) : (pvsL xs)[k * 4]? = some (.bool xs[k].p.live) ∧ (pvsL xs)[k * 4 + 1]? = some xs[k].rv ∧ (pvsL xs)[k * 4 + 2]? = some xs[k].yv ∧ (pvsL xs)[k * 4 + 3]? = some (.int .i64 xs[k].p.least) :=
 ⟨flat_get PV.cells 4 PV.cells_len xs k hk 0 (by omega),flat_get PV.cells 4 PV.cells_len xs k hk 1 (by omega),flat_get PV.cells 4 PV.cells_len xs k hk 2 (by omega),flat_get PV.cells 4 PV.cells_len xs k hk 3 (by omega)⟩
theorem pvsL_set (xs : List PV) (k : Nat) (hk : k < xs.length) (x : PV) : ((((pvsL xs).set (k * 4) (.bool x.p.live)).set (k * 4 + 1) x.rv).set (k * 4 + 2) x.yv).set (k * 4 + 3) (.int .i64 x.p.least) = pvsL (xs.set k x) := by
 have hl : ((xs.take k).flatMap PV.cells).length = k * 4 := by rw [flat_len PV.cells 4 PV.cells_len,List.length_take]; congr 1; omega
 rw [show k * 4 = k * 4 + 0 from rfl,pvsL,flat_set PV.cells 4 PV.cells_len xs k 0 _ hk (by omega) xs[k].cells _ (fun u hu => by rw [List.getElem?_eq_getElem hk] at hu; cases hu; rfl) rfl]
 rw [show k * 4 + 0 + 1 = k * 4 + 1 from rfl,show k * 4 + 0 + 2 = k * 4 + 2 from rfl,show k * 4 + 0 + 3 = k * 4 + 3 from rfl,set_mid _ hl (by simp [PV.cells]),set_mid _ hl (by simp [PV.cells]),set_mid _ hl (by simp [PV.cells])]
 exact flat_done PV.cells xs k x hk
theorem pvsL_set2 (xs : List PV) (k : Nat) (hk : k < xs.length) (x : PV) (hlv : x.p.live = xs[k].p.live) (hrv : x.rv = xs[k].rv) : ((pvsL xs).set (k * 4 + 2) x.yv).set (k * 4 + 3) (.int .i64 x.p.least) = pvsL (xs.set k x) := by
 have hl : ((xs.take k).flatMap PV.cells).length = k * 4 := by rw [flat_len PV.cells 4 PV.cells_len,List.length_take]; congr 1; omega
 rw [pvsL,flat_set PV.cells 4 PV.cells_len xs k 2 _ hk (by omega) xs[k].cells _ (fun u hu => by rw [List.getElem?_eq_getElem hk] at hu; cases hu; rfl) rfl]
 rw [set_mid _ hl (by simp [PV.cells])]
 rw [show pvsL (xs.set k x) = _ from (flat_done PV.cells xs k x hk).symm]
 simp [PV.cells,hlv,hrv]
theorem pvA_pick : ∀ (xs : List PV) (k : Nat) (x : PV),xs[k]? = some x → (pvA xs).Perm (x.accs ++ pvA (xs.eraseIdx k))
 | [],_,_,h => by simp at h
 | y :: xs,0,x,h => by simp at h; subst h; exact List.Perm.refl _
 | y :: xs,k + 1,x,h => by
  have h2 := pvA_pick xs k x (by simpa using h)
  show (y.accs ++ pvA xs).Perm (x.accs ++ (y.accs ++ pvA (xs.eraseIdx k)))
  exact (List.Perm.append_left _ h2).trans (by rw [← List.append_assoc,← List.append_assoc]; exact List.Perm.append_right _ List.perm_append_comm)
theorem pvA_set (xs : List PV) (k : Nat) (x : PV) (hk : k < xs.length) : (x.accs ++ pvA (xs.eraseIdx k)).Perm (pvA (xs.set k x)) := by
 have h := pvA_pick (xs.set k x) k x (List.getElem?_set_self hk)
 rw [List.eraseIdx_set_eq] at h
 exact h.symm
end Go.Proofs.YtfeipbgnjainlaaGreat.K
/- The machine of exec, as a box of cells. -/
namespace Go.Proofs.YtfeipbgnjainlaaGreat.K
open Go Go.RowKit Go.Maps Go.Sort

def rgL (r : Int × T.U) : List Value := [.int .u8 r.1,W64 r.2]
theorem rgL_len (r : Int × T.U) : (rgL r).length = 2 := rfl
/-- the machine's cells: registers, stack, what is set, the packet, the next place, the verdict -/
def mcL (m : T.Mc) (pk vd : Value) : List Value := m.regs.flatMap rgL ++ (m.stk.map B8 ++ (m.set.map Value.bool ++ [pk,.int .i64 (m.at' : Int),vd]))
structure Mok (m : T.Mc) : Prop where
 rl : m.regs.length = 11
 tl : m.stk.length = 512
 sl : m.set.length = 512
section
variable {m : T.Mc} (h : Mok m) (pk vd : Value)
include h
theorem rg22 : (m.regs.flatMap rgL).length = 22 := by rw [flat_len rgL 2 rgL_len,h.rl]
theorem mcL_len : (mcL m pk vd).length = 1049 := by simp [mcL,rg22 h,h.tl,h.sl]
theorem mcL_reg (r : Nat) (hr : r < 11) : (mcL m pk vd)[r * 2]? = some (.int .u8 (m.reg (r : Int)).1) ∧ (mcL m pk vd)[r * 2 + 1]? = some (W64 (m.reg (r : Int)).2) := by
 have hrl : r < m.regs.length := by rw [h.rl]; exact hr
 have e : m.reg (r : Int) = m.regs[r] := by
  unfold T.Mc.reg
  rw [Int.toNat_natCast,List.getD_eq_getElem?_getD,List.getElem?_eq_getElem hrl]
  rfl
 have h0 := flat_get rgL 2 rgL_len m.regs r hrl 0 (by omega)
 have h1 := flat_get rgL 2 rgL_len m.regs r hrl 1 (by omega)
 rw [e,mcL]
 refine ⟨?_,?_⟩
 ·rw [List.getElem?_append_left (by rw [rg22 h]; omega)]; exact h0
 ·rw [List.getElem?_append_left (by rw [rg22 h]; omega)]; exact h1
theorem mcL_stk (j : Nat) (hj : j < 512) : (mcL m pk vd)[22 + j]? = some (B8 (m.stk.getD j 0)) := by
 rw [mcL,List.getElem?_append_right (by rw [rg22 h]; omega),rg22 h,Nat.add_sub_cancel_left,List.getElem?_append_left (by rw [List.length_map,h.tl]; exact hj),List.getElem?_map,List.getD_eq_getElem?_getD,List.getElem?_eq_getElem (by rw [h.tl]; exact hj)]
 rfl
theorem mcL_set (j : Nat) (hj : j < 512) : (mcL m pk vd)[534 + j]? = some (.bool (m.set.getD j false)) := by
 rw [mcL,List.getElem?_append_right (by rw [rg22 h]; omega),rg22 h,show 534 + j - 22 = 512 + j by omega,List.getElem?_append_right (by rw [List.length_map,h.tl]; omega),List.length_map,h.tl,Nat.add_sub_cancel_left,List.getElem?_append_left (by rw [List.length_map,h.sl]; exact hj),List.getElem?_map,List.getD_eq_getElem?_getD,List.getElem?_eq_getElem (by rw [h.sl]; exact hj)]
 rfl
theorem mcL_end (j : Nat) : (mcL m pk vd)[1046 + j]? = [pk,.int .i64 (m.at' : Int),vd][j]? := by
 rw [mcL,List.getElem?_append_right (by rw [rg22 h]; omega),rg22 h,show 1046 + j - 22 = 1024 + j by omega,List.getElem?_append_right (by rw [List.length_map,h.tl]; omega),List.length_map,h.tl,show 1024 + j - 512 = 512 + j by omega,List.getElem?_append_right (by rw [List.length_map,h.sl]; omega),List.length_map,h.sl,Nat.add_sub_cancel_left]
theorem mcL_put (r : Nat) (hr : r < 11) (v : Int × T.U) : ((mcL m pk vd).set (r * 2) (.int .u8 v.1)).set (r * 2 + 1) (W64 v.2) = mcL (m.put (r : Int) v) pk vd := by
 have hrl : r < m.regs.length := by rw [h.rl]; exact hr
 have hl : ((m.regs.take r).flatMap rgL).length = r * 2 := by rw [flat_len rgL 2 rgL_len,List.length_take]; congr 1; omega
 have e : (((m.regs.flatMap rgL).set (r * 2) (.int .u8 v.1)).set (r * 2 + 1) (W64 v.2)) = (m.regs.set r v).flatMap rgL := by
  rw [show r * 2 = r * 2 + 0 from rfl,flat_set rgL 2 rgL_len m.regs r 0 _ hrl (by omega) (rgL m.regs[r]) _ (fun u hu => by rw [List.getElem?_eq_getElem hrl] at hu; cases hu; rfl) rfl]
  rw [show r * 2 + 0 + 1 = r * 2 + 1 from rfl,set_mid _ hl (by simp [rgL])]
  exact flat_done rgL m.regs r v hrl
 rw [mcL,List.set_append_left _ _ (by rw [rg22 h]; omega),List.set_append_left _ _ (by rw [List.length_set,rg22 h]; omega),e]
 rfl
theorem mcL_at (k : Nat) : (mcL m pk vd).set 1047 (.int .i64 (k : Int)) = mcL { m with at' := k } pk vd := by
 rw [mcL,List.set_append_right _ _ (by rw [rg22 h]; omega),rg22 h,List.set_append_right _ _ (by rw [List.length_map,h.tl]; omega),List.length_map,h.tl,List.set_append_right _ _ (by rw [List.length_map,h.sl]; omega),List.length_map,h.sl]
 rfl
theorem mcL_vd (v : Value) : (mcL m pk vd).set 1048 v = mcL m pk v := by
 rw [mcL,List.set_append_right _ _ (by rw [rg22 h]; omega),rg22 h,List.set_append_right _ _ (by rw [List.length_map,h.tl]; omega),List.length_map,h.tl,List.set_append_right _ _ (by rw [List.length_map,h.sl]; omega),List.length_map,h.sl]
 rfl
theorem mcL_mark (j : Nat) (hj : j < 512) : (mcL m pk vd).set (534 + j) (.bool true) = mcL { m with set := m.set.set j true } pk vd := by
 rw [mcL,List.set_append_right _ _ (by rw [rg22 h]; omega),rg22 h,List.set_append_right _ _ (by rw [List.length_map,h.tl]; omega),List.length_map,h.tl,show 534 + j - 22 - 512 = j by omega,List.set_append_left _ _ (by rw [List.length_map,h.sl]; exact hj),← List.map_set]
 rfl
theorem Mok.put (r : Int) (v : Int × T.U) : Mok (m.put r v) := ⟨by simp [T.Mc.put,h.rl],h.tl,h.sl⟩
theorem Mok.ats (k : Nat) : Mok { m with at' := k } := ⟨h.rl,h.tl,h.sl⟩
end
end Go.Proofs.YtfeipbgnjainlaaGreat.K
/- (made by gencopied.py) The contract of check.copied. -/
set_option maxRecDepth 100000
set_option maxHeartbeats 4000000
namespace Go.Proofs.YtfeipbgnjainlaaGreat.K
open Go Go.RowKit Go.Maps Go.Sort

theorem own_someG {w : World} {base : Nat} {e : TypeId} {size : Nat} {A : Option Addr} {n c : Nat} {xs : List Value} (h : w.ownsRow base e size (.slice A n c) n xs) (hp : 0 < n) : ∃ g,A = some ⟨g,0,none⟩ := by
 rcases h.2 with ⟨h0,h1⟩ | ⟨g,cap,cur,hv,_⟩
 ·cases h0; omega
 ·simp only [Value.slice.injEq,true_and] at hv
  exact ⟨g,hv.1⟩
/-- what lies in a block of its own -/
def RdC (w : World) (g : Nat) (xs : List Value) : Prop := ∀ j u,xs[j]? = some u → w.cell? ⟨g,j,none⟩ = some u
theorem RdC.since {w w' : World} {g : Nat} {xs : List Value} (h : RdC w g xs) (hs : Since w w') : RdC w' g xs := fun j u hj => hs.keep (h j u hj)
theorem RdC.of {w0 w : World} {L : List Acc} (h : Bank w0 w L) (i : Nat) {g n c : Nat} {e : TypeId} {size : Nat} {xs : List Value} (hi : L[i]? = some (rwA g n c e size xs)) : RdC w g xs := fun j _ hj => h.rcell i hi j hj
/-- a place of its own -/
def PlV (y : PV) : Value := .agg #[.bool true,.slice (some ⟨y.gr,0,none⟩) 11 y.cr,.slice (some ⟨y.gb,0,none⟩) 512 y.cb,.int .i64 y.p.least]
def CopyP (w : World) (x : PV) (e : Ending) (w' : World) : Prop := ∃ y : PV,y.p = x.p ∧ e = .returned (PlV y) ∧ Bank w w' [y.regA,y.byA]
theorem copied_any (x : PV) (w : World) (hr : x.p.regs.length = 11) (hb : x.p.bytes.length = 512) (hcr : RdC w x.gr (knsL x.p.regs)) (hcb : RdC w x.gb (x.p.bytes.map Value.bool)) : Calls Tryz.prog 22 #[PlV x] w (CopyP w x) := by
 have H3 := Lib.hid (show (knsL x.p.regs).length = 11 * 3 by rw [knsL_len,hr])
 have H1 := Lib.hid (show (x.p.bytes.map Value.bool).length = 512 * 1 by rw [List.length_map,hb])
 have HO := Lib.hid (show ∀ u ∈ x.p.bytes.map Value.bool,u.oneCell' = true from fun u hu => by obtain ⟨b,_,rfl⟩ := List.mem_map.1 hu; rfl)
 have HCR := Lib.hid (fun w' (hs : Since w w') => (fun j u hj => by rw [Nat.zero_add]; exact hs.keep (hcr j u hj) : ∀ j u,(knsL x.p.regs)[j]? = some u → w'.cell? ⟨x.gr,0 + j,none⟩ = some u))
 have HCB := Lib.hid (fun w' (hs : Since w w') => (fun j u hj => by rw [Nat.zero_add]; exact hs.keep (hcb j u hj) : ∀ j u,(x.p.bytes.map Value.bool)[j]? = some u → w'.cell? ⟨x.gb,0 + j,none⟩ = some u))
 clear hr hb hcr hcb
 unfold PlV
 have BK0 := bk2 w [.bool true,.slice (some ⟨x.gr,0,none⟩) 11 x.cr,.slice (some ⟨x.gb,0,none⟩) 512 x.cb,.int .i64 x.p.least] 82 [.bool false,.slice none 0 0,.slice none 0 0,.int .i64 0] 82
 go_enter Tryz.func22,Tryz.ntmps22
 go_upto_region 1 with fail
 generalize w.heap.size = X at *
 refine wp_hid BK0 (fun w1 BK0 => ?_)
 obtain ⟨p0,p1,p2,p3,fp0,fp1,fp2,fp3⟩ := BK0.out.r4 1 rfl
 obtain ⟨r0,r1,r2,r3,fr0,fr1,fr2,fr3⟩ := BK0.out.r4 0 rfl
 refine WL.begin 7 (fun w' => w'.cell? ⟨X,1,none⟩ = some (.slice (some ⟨x.gr,0,none⟩) 11 x.cr) ∧ w'.cell? ⟨X,2,none⟩ = some (.slice (some ⟨x.gb,0,none⟩) 512 x.cb)) (fun _ => True) (by kernel_rfl) ⟨p1,p2⟩ trivial (fun hs => ?_)
 refine WL.tk [(0,[]),(1,[1]),(3,[]),(4,[4])] hs ?_; clear hs
 iterate 4
  (first | refine TKs.p (v := ?_) ?_ ?_ | refine TKs.l (v := ?_) ?_ ?_); rotate_left
  ·intro w hc; go_simp <;> rfl
  simp only [Act.put,sA,sZ,sS]
 refine TKs.mk ?_; intro hs
 refine WL.o1 (i := 2) (by kernel_rfl) rfl hs ?_; clear hs
 intro K hK
 go_simp
 refine (cloneKn_any x.gr 0 11 x.cr (knsL x.p.regs) _ H3.out (by decide) (HCR.out _ BK0.out.since.drew) (knsL_one _)).mono ?_
 rintro e w2 ⟨A',n',c',rfl,hn,hb⟩
 subst hn
 obtain ⟨gr,rfl⟩ := own_someG (hb.own _ (List.mem_singleton.2 rfl)) (by decide)
 have BK1 := Lib.hid (bank_join BK0.out.drew hb)
 clear hb
 refine hK.out _ _ (SApp.intro (fun _ => ⟨BK1.out.cell 2 rfl 1 rfl,BK1.out.cell 2 rfl 2 rfl⟩) trivial) ?_
 clear hK K; intro hs; try simp only [Act.put,sA,sZ,sS]
 refine WL.tk [(6,[])] hs ?_; clear hs
 iterate 1
  (first | refine TKs.p (v := ?_) ?_ ?_ | refine TKs.l (v := ?_) ?_ ?_); rotate_left
  ·intro w hc; go_simp <;> rfl
  simp only [Act.put,sA,sZ,sS]
 refine TKs.mk ?_; intro hs
 refine WL.o1 (i := 5) (by kernel_rfl) rfl hs ?_; clear hs
 intro K hK
 go_simp
 refine (cloneBo_any x.gb 0 512 x.cb (x.p.bytes.map Value.bool) _ H1.out (by decide) (HCB.out _ BK1.out.since) HO.out).mono ?_
 rintro e w3 ⟨A',n',c2',rfl,hn,hb⟩
 subst hn
 obtain ⟨gb,rfl⟩ := own_someG (hb.own _ (List.mem_singleton.2 rfl)) (by decide)
 have BK2 := Lib.hid (bank_join BK1.out hb)
 clear hb p0 p1 p2 p3 r0 r1 r2 r3 fp0 fp1 fp2 fp3 fr0 fr1 fr2 fr3
 have q1 := BK2.out.cell 3 rfl 1 rfl
 have g1 := BK2.out.free 3 rfl 1
 refine hK.out _ _ (SApp.intro (fun _ => ⟨BK2.out.cell 3 rfl 1 rfl,BK2.out.cell 3 rfl 2 rfl⟩) trivial) ?_
 clear hK K; intro hs; try simp only [Act.put,sA,sZ,sS]
 refine WL.o1 (i := 7) (by kernel_rfl) rfl hs ?_; clear hs
 intro K hK
 go_simp
 have BK3 := Lib.hid (BK2.out.boxSet 3 rfl 1 (.slice (some ⟨gr,0,none⟩) 11 c'))
 clear q1 g1
 have q2 := BK3.out.cell 3 rfl 2 rfl
 have g2 := BK3.out.free 3 rfl 2
 refine hK.out _ _ (SApp.intro (fun h => (by cases h)) trivial) ?_
 clear hK K; intro hs; try simp only [Act.put]
 refine WL.tk [(8,[])] hs ?_; clear hs
 iterate 1
  (first | refine TKs.p (v := ?_) ?_ ?_ | refine TKs.l (v := ?_) ?_ ?_); rotate_left
  ·intro w hc; go_simp <;> rfl
  simp only [Act.put,sA,sZ,sS]
 refine TKs.mk ?_; intro hs
 refine WL.o1 (i := 9) (by kernel_rfl) rfl hs ?_; clear hs
 intro K hK
 go_simp
 have BK4 := Lib.hid (BK3.out.boxSet 3 rfl 2 (.slice (some ⟨gb,0,none⟩) 512 c2'))
 clear q2 g2
 refine hK.out _ _ (SApp.intro (fun h => (by cases h)) trivial) ?_
 clear hK K; intro hs; try simp only [Act.put]
 clear hs; refine WL.done (by kernel_rfl) ?_ _; try simp only [Exit.then]
 obtain ⟨p0,p1,p2,p3⟩ := BK4.out.q4 3 rfl
 obtain ⟨r0,r1,r2,r3,fr0,fr1,fr2,fr3⟩ := BK4.out.r4 2 rfl
 go_wp2
 refine bodyPost_ret (v := .agg #[.bool true,.slice (some ⟨gr,0,none⟩) 11 c',.slice (some ⟨gb,0,none⟩) 512 c2',.int .i64 x.p.least]) ?_ rfl ⟨⟨x.p,gr,c',gb,c2',4⟩,rfl,rfl,(((((BK4.out.boxSet 2 rfl 0 (.bool true)).boxSet 2 rfl 1 (.slice (some ⟨gr,0,none⟩) 11 c')).boxSet 2 rfl 2 (.slice (some ⟨gb,0,none⟩) 512 c2')).boxSet 2 rfl 3 (.int .i64 x.p.least)).sub (.cons_cons _ (.cons_cons _ (List.nil_sublist _)))).swap⟩
 simp [results,Tryz.results22,go_sem,p0,p1,p2,p3,r0,r1,r2,r3]
end Go.Proofs.YtfeipbgnjainlaaGreat.K
/- (by hand) A bank beside blocks that are kept as they are: maps that a call made, which no bank holds. -/
namespace Go.Proofs.YtfeipbgnjainlaaGreat.K
open Go Go.RowKit Go.Maps Go.Sort

/-- a bank; and these blocks hold these objects, and are none of its rows -/
structure BankK (K : List (Nat × Obj)) (w0 w : World) (L : List Acc) : Prop where
 bank : Bank w0 w L
 kept : ∀ k ∈ K,w.heap[k.1]? = some k.2
 off : ∀ k ∈ K,∀ p ∈ L,p.v.ownBlock ≠ some k.1
theorem Bank.toK {w0 w : World} {L : List Acc} (h : Bank w0 w L) : BankK [] w0 w L := ⟨h,fun _ h => (by cases h),fun _ h => (by cases h)⟩
namespace BankK
variable {K : List (Nat × Obj)} {w0 w w' : World} {L M : List Acc}
theorem since (h : BankK K w0 w L) : Since w0 w := h.bank.since
theorem ltK (h : BankK K w0 w L) : ∀ k ∈ K,k.1 < w.heap.size := fun k hk => (Array.getElem?_eq_some_iff.1 (h.kept k hk)).1
theorem call (h : BankK K w0 w L) (hb : Below w.heap.size w w') : BankK K w0 w' L := ⟨h.bank.call hb,fun k hk => (hb.block k.1 (h.ltK k hk)).trans (h.kept k hk),h.off⟩
theorem drew (h : BankK K w0 w L) : BankK K w0 w.drew L := ⟨h.bank.drew,h.kept,h.off⟩
theorem drop {p : Acc} (h : BankK K w0 w (p :: L)) : BankK K w0 w L := ⟨h.bank.drop,h.kept,fun k hk q hq => h.off k hk q (List.mem_cons_of_mem _ hq)⟩
theorem lt (h : BankK K w0 w L) {p : Acc} (hp : p ∈ L) {b : Nat} (hb : p.v.ownBlock = some b) : w0.heap.size ≤ b ∧ b < w.heap.size := h.bank.lt hp hb
theorem boxL (h : BankK K w0 w L) (l : List Value) (t : TypeId) (hs : l.length ≤ 1000000) : BankK K w0 (w.alloc (.cells l.toArray t)) (boxAcc w.heap.size t l :: L) :=
 ⟨h.bank.boxL l t hs,fun k hk => (heap_alloc_old w _ (h.ltK k hk)).trans (h.kept k hk),fun k hk p hp e => by
  rcases List.mem_cons.1 hp with rfl | hp
  ·have h1 := h.ltK k hk
   have h2 : w.heap.size = k.1 := Option.some.inj e
   omega
  ·exact h.off k hk p hp e⟩
theorem join (h : BankK K w0 w L) (h2 : Bank w w' M) : BankK K w0 w' (M ++ L) :=
 ⟨bank_join h.bank h2,(h.call h2.since).kept,fun k hk p hp e => by
  rcases List.mem_append.1 hp with hp | hp
  ·have h1 := (h2.lt hp e).1
   have h3 := h.ltK k hk
   omega
  ·exact h.off k hk p hp e⟩
theorem cell (h : BankK K w0 w L) (i : Nat) {g : Nat} {t : TypeId} {vs : List Value} (hi : L[i]? = some (boxAcc g t vs)) (j : Nat) {v : Value} (hv : vs[j]? = some v) : w.cell? ⟨g,j,none⟩ = some v := h.bank.cell i hi j hv
theorem free (h : BankK K w0 w L) (i : Nat) {g : Nat} {t : TypeId} {vs : List Value} (hi : L[i]? = some (boxAcc g t vs)) (j : Nat) : w.frozen? ⟨g,j,none⟩ = false := h.bank.free i hi j
theorem q2 (h : BankK K w0 w L) (i : Nat) {g : Nat} {t : TypeId} {v0 v1 : Value} {vs : List Value} (hi : L[i]? = some (boxAcc g t (v0 :: v1 :: vs))) : w.cell? ⟨g,0,Option.none⟩ = some v0 ∧ w.cell? ⟨g,1,Option.none⟩ = some v1 := h.bank.q2 i hi
theorem q4 (h : BankK K w0 w L) (i : Nat) {g : Nat} {t : TypeId} {v0 v1 v2 v3 : Value} {vs : List Value} (hi : L[i]? = some (boxAcc g t (v0 :: v1 :: v2 :: v3 :: vs))) : w.cell? ⟨g,0,Option.none⟩ = some v0 ∧ w.cell? ⟨g,1,Option.none⟩ = some v1 ∧ w.cell? ⟨g,2,Option.none⟩ = some v2 ∧ w.cell? ⟨g,3,Option.none⟩ = some v3 := h.bank.q4 i hi
theorem r1 (h : BankK K w0 w L) (i : Nat) {g : Nat} {t : TypeId} {v0 : Value} {vs : List Value} (hi : L[i]? = some (boxAcc g t (v0 :: vs))) : w.cell? ⟨g,0,Option.none⟩ = some v0 ∧ w.frozen? ⟨g,0,Option.none⟩ = false := h.bank.r1 i hi
theorem boxSet (h : BankK K w0 w L) (i : Nat) {g : Nat} {t : TypeId} {vs : List Value} (hi : L[i]? = some (boxAcc g t vs)) (j : Nat) (v : Value) : BankK K w0 (w.setCell ⟨g,j,none⟩ v) (L.set i (boxAcc g t (vs.set j v))) :=
 ⟨h.bank.boxSet i hi j v,fun k hk => by
  have hne : k.1 ≠ g := fun e => h.off k hk _ (List.mem_of_getElem? hi) (by rw [e]; rfl)
  have hg := ((h.bank.at i hi).stored j v).2
  rw [hg.block k.1 (h.ltK k hk) (fun e => hne (Option.some.inj e))]
  exact h.kept k hk,fun k hk p hp e => by
  rcases List.mem_or_eq_of_mem_set hp with hp | rfl
  ·exact h.off k hk p hp e
  ·exact h.off k hk _ (List.mem_of_getElem? hi) e⟩
theorem turned {W W' : World} {row : Option Nat} {B : Nat} (h : BankK K w0 W L) (hB : w0.heap.size ≤ B) (hKB : ∀ k ∈ K,k.1 < B) (hg : W.grownBy W' row) (hr : ∀ r,row = some r → B ≤ r ∧ ∃ o : Obj,W.heap[r]? = some o ∧ o.isCells = false) : BankK K w0 W' L :=
 ⟨h.bank.turned hB hg hr,fun k hk => (hg.block k.1 (h.ltK k hk) (fun e => by have := (hr k.1 e.symm).1; have := hKB k hk; omega)).trans (h.kept k hk),h.off⟩
theorem permB {L' : List Acc} (h : BankK K w0 w L) (hp : L.Perm L') : BankK K w0 w L' := ⟨h.bank.permB hp,h.kept,fun k hk p hm => h.off k hk p (hp.mem_iff.2 hm)⟩
theorem sub {L' : List Acc} (h : BankK K w0 w L) (hp : L'.Sublist L) : BankK K w0 w L' := ⟨h.bank.sub hp,h.kept,fun k hk p hm => h.off k hk p (hp.mem hm)⟩
end BankK
theorem wp_hidK {P : Program} {c : Code} {Q : Exit → Act → World → Prop} {a : Act} {K : List (Nat × Obj)} {w0 w : World} {L : List Acc} (hB : RowKit.Hid (BankK K w0 w L)) (h : ∀ w',RowKit.Hid (BankK K w0 w' L) → c.wp P Q a w') : c.wp P Q a w := h w hB
theorem wp_bankK {K : List (Nat × Obj)} {P : Program} {c : Code} {Q : Exit → Act → World → Prop} {a : Act} {w w0 : World} (L : List Acc) (hB : BankK K w0 w L) (h : ∀ w',BankK K w0 w' L → c.wp P Q a w') : c.wp P Q a w := h w hB
end Go.Proofs.YtfeipbgnjainlaaGreat.K
/- (made by genfirst.py) The contract of shape.first over shape.Check's questions. -/
set_option maxRecDepth 100000
set_option maxHeartbeats 8000000
namespace Go.Proofs.YtfeipbgnjainlaaGreat.K
open Go Go.RowKit Go.Maps Go.Sort

/-- nothing is wrong at so many places; at the next one is -/
theorem firstOf_at {f : Nat → Int} {n k : Nat} (h : ∀ q,q < k → f q = 0) (hk : k < n) (hf : f k ≠ 0) : T.firstOf f n 0 = some (f k,k) := by
 suffices ∀ m j,j ≤ k → k < j + m → T.firstOf f m j = some (f k,k) from this n 0 (Nat.zero_le _) (by omega)
 intro m
 induction m with
 | zero => intro j h1 h2; omega
 | succ m ih =>
  intro j h1 h2
  unfold T.firstOf
  by_cases e : j = k
  ·subst e; rw [if_pos hf]
  ·rw [if_neg (fun x => x (h j (by omega)))]
   exact ih (j + 1) (by omega) (by omega)
theorem firstOf_no {f : Nat → Int} {n : Nat} (h : ∀ q,q < n → f q = 0) : T.firstOf f n 0 = none := T.firstOf_of fun k _ hk => h k (by omega)
theorem comes_length (l : List T.Ins) (hn : l ≠ []) : ∀ j,(T.comes l j).length = l.length
 | 0 => by unfold T.comes; rw [List.length_set,List.length_replicate]
 | j + 1 => by show (T.comeStep l (T.comes l j) j).length = _; rw [comeStep_all,markAll_length,comes_length l hn j]
theorem q4_eq (l : List T.Ins) (j : Nat) : T.q4 l j = if (T.comeStep l (T.comes l j) j).getD j false = false then 103 else 0 := rfl
/-- where the first three questions find nothing, places that come behind lie within -/
theorem nexts_lt {l : List T.Ins} (h1 : ∀ j,j < l.length → T.q1 l j = 0) (h2 : ∀ j,j < l.length → T.q2 l j = 0) (h3 : ∀ j,j < l.length → T.q3 l j = 0) {j : Nat} (hj : j < l.length) : (T.insAt l j).right = true ∧ ((T.insAt l j).jumps = true → 0 ≤ (T.insAt l j).off) ∧ (-32768 ≤ (T.insAt l j).off ∧ (T.insAt l j).off ≤ 32767) ∧ ∀ t ∈ T.nexts l j,t < l.length := by
 have hr : (T.insAt l j).right = true := by
  have := h1 j hj
  unfold T.q1 at this
  split at this
  ·assumption
  ·cases this
 have hjf : (T.insAt l j).jumps = true → 0 ≤ (T.insAt l j).off ∧ (j : Int) + 1 + (T.insAt l j).off < l.length := fun hjp => by
  have := h2 j hj
  unfold T.q2 at this
  rw [hjp] at this
  simp only [Bool.true_eq_false,if_false] at this
  split at this
  ·cases this
  ·split at this
   ·cases this
   ·exact ⟨by omega,by omega⟩
 have hnx : (T.insAt l j).op ≠ 28 → (T.insAt l j).op ≠ 16 → j + 1 < l.length := fun ha hb => by
  have := h3 j hj
  unfold T.q3 at this
  split at this
  ·cases this
  ·rename_i hc
   rcases Nat.lt_or_ge (j + 1) l.length with h | h
   ·exact h
   ·exact absurd ⟨by omega,ha,hb⟩ hc
 refine ⟨hr,fun h => (hjf h).1,(T.right_facts hr).2.2.1,fun t ht => ?_⟩
 unfold T.nexts at ht
 split at ht
 ·cases ht
 ·rename_i e28
  split at ht
  ·rename_i e16
   have hjp : (T.insAt l j).jumps = true := by unfold T.Ins.jumps; rw [e16]; rfl
   have := hjf hjp
   rw [List.mem_singleton] at ht
   omega
  ·rename_i e16
   have hb := hnx e28 e16
   split at ht
   ·rw [List.mem_singleton] at ht; omega
   ·rename_i hq
    have hjp : (T.insAt l j).jumps = true := by
     cases hx : (T.insAt l j).jumps with
     | true => rfl
     | false => exact absurd (.inl hx) hq
    have := hjf hjp
    rcases List.mem_cons.1 ht with rfl | ht
    ·exact hb
    ·rw [List.mem_singleton] at ht; omega
theorem right_off {l : List T.Ins} {j : Nat} (h : T.q1 l j = 0) : -32768 ≤ (T.insAt l j).off ∧ (T.insAt l j).off ≤ 32767 := by
 unfold T.q1 at h
 split at h
 ·rename_i hr; exact (T.right_facts hr).2.2.1
 ·cases h
/-- the answer -/
def shapeR (l : List T.Ins) : Int × Int := match T.shapeO l with
 | some r => (r.1,(r.2 : Int))
 | none => (0,0)
theorem first_any (b o c A C G F n : Nat) (l : List T.Ins) {w0 w : World} {L : List Acc} (i ia ic jf : Nat) (hB : Bank w0 w L) (hr : InsRd w0 b o l) (hl : l.length = n) (hn : n ≤ 4096) (hne : l ≠ [])
  (hi : L[i]? = some (boxAcc G 4 ((T.comes l 0).map Value.bool))) (hia : L[ia]? = some (boxAcc A 22 [.slice (some ⟨b,o,none⟩) n c])) (hic : L[ic]? = some (boxAcc C 80 [.slice (some ⟨G,0,none⟩) n n])) (hif : L[jf]? = some (boxAcc F 92 [.func (.func 25) #[] #[.pointer (some ⟨A,0,none⟩)],.func (.func 28) #[] #[.pointer (some ⟨A,0,none⟩)],.func (.func 30) #[] #[.pointer (some ⟨A,0,none⟩)],.func (.func 31) #[] #[.pointer (some ⟨A,0,none⟩),.pointer (some ⟨C,0,none⟩)]])) (h1 : i ≠ ia) (h2 : i ≠ ic) (h3 : i ≠ jf) :
  Calls Tryz.prog 24 #[.int .i64 (n : Int),.slice (some ⟨F,0,none⟩) 4 4] w fun e w' => e = .returned (.agg #[.int .i64 (shapeR l).1,.int .i64 (shapeR l).2]) ∧ ∃ come : List Bool,Bank w0 w' (L.set i (boxAcc G 4 (come.map Value.bool))) := by
 have HR := Lib.hid hr
 have HNE := Lib.hid hne
 clear hr
 have HIA := Lib.hid (fun x => show (L.set i x)[ia]? = some (boxAcc A 22 [.slice (some ⟨b,o,none⟩) n c]) by rw [List.getElem?_set_ne h1]; exact hia)
 have HIC := Lib.hid (fun x => show (L.set i x)[ic]? = some (boxAcc C 80 [.slice (some ⟨G,0,none⟩) n n]) by rw [List.getElem?_set_ne h2]; exact hic)
 have HIF := Lib.hid (fun x => show (L.set i x)[jf]? = some (boxAcc F 92 [.func (.func 25) #[] #[.pointer (some ⟨A,0,none⟩)],.func (.func 28) #[] #[.pointer (some ⟨A,0,none⟩)],.func (.func 30) #[] #[.pointer (some ⟨A,0,none⟩)],.func (.func 31) #[] #[.pointer (some ⟨A,0,none⟩),.pointer (some ⟨C,0,none⟩)]]) by rw [List.getElem?_set_ne h3]; exact hif)
 have HID := Lib.hid (fun x => show (L.set i x)[i]? = some x from List.getElem?_set_self (List.getElem?_eq_some_iff.1 hi).1)
 have hset : L.set i (boxAcc G 4 ((T.comes l 0).map Value.bool)) = L := set_same' hi
 have BK0 := hB.boxL [.int .i64 0,.int .i64 0] 27 (by simp)
 rw [← hset] at BK0
 have BK := Lib.hid BK0
 clear BK0 hB hset hi hia hic hif
 obtain ⟨D,hD⟩ : ∃ D,D = w.heap.size := ⟨_,rfl⟩
 rw [← hD] at BK
 go_enter Tryz.func24,Tryz.ntmps24
 go_upto_region 1 with fail
 rw [← hD]
 refine wp_hid BK (fun w1 BK => ?_)
 clear hD
 go_wp2
 go_loopw [6,7,8,11,16] (fun _ _ _ x _ wr => ∃ q : Nat,q ≤ 4 ∧ x = .int .i64 (q : Int) ∧ (1 ≤ q → ∀ j,j < n → T.q1 l j = 0) ∧ (2 ≤ q → ∀ j,j < n → T.q2 l j = 0) ∧ (3 ≤ q → ∀ j,j < n → T.q3 l j = 0) ∧ (4 ≤ q → ∀ j,j < n → T.q4 l j = 0) ∧ ∃ m,(q ≤ 3 → m = 0) ∧ Bank w0 wr (boxAcc D 27 [.int .i64 0,.int .i64 0] :: L.set i (boxAcc G 4 ((T.comes l m).map Value.bool)))) (fun _ _ _ x _ _ => 4 - (intOf x).toNat)
 case atStart => exact ⟨0,by decide,rfl,by omega,by omega,by omega,by omega,0,fun _ => rfl,BK.out⟩
 case round =>
  obtain ⟨q,hq,rfl,a1,a2,a3,a4,m,hm,hB⟩ := hrel
  have HBO := Lib.hid hB
  clear hB
  rcases (show q = 0 ∨ q = 1 ∨ q = 2 ∨ q = 3 ∨ q = 4 by omega) with rfl | rfl | rfl | rfl | rfl
  ·obtain rfl := hm (by decide)
   have hfc := HBO.out.cell (jf + 1) (HIF.out _) 0 rfl
   clear a1 a2 a3 a4 hm hq
   rw [show ((0 : Nat) : Int) = 0 from rfl]
   go_wp2
   go_loopw [7,8,16] (fun _ _ x wr => ∃ k : Nat,k ≤ n ∧ x = .int .i64 (k : Int) ∧ (∀ p,p < k → T.q1 l p = 0) ∧ Bank w0 wr (boxAcc D 27 [.int .i64 0,.int .i64 0] :: L.set i (boxAcc G 4 ((T.comes l 0).map Value.bool)))) (fun _ _ x _ => n - (intOf x).toNat)
   case atStart => exact ⟨0,Nat.zero_le _,rfl,fun p hp => absurd hp (Nat.not_lt_zero _),HBO.out⟩
   case round =>
    obtain ⟨k,hk,rfl,hno,hB⟩ := hrel
    have HB := Lib.hid hB
    have HNO := Lib.hid hno
    clear hB hno
    have k0 : (0 : Int) ≤ (k : Int) := by omega
    by_cases hlt : k < n
    ·have i1 : (k : Int) < (n : Int) := by omega
     have ha := HB.out.cell (ia + 1) (HIA.out _) 0 rfl
     go_wp2_with fail
     refine (ask1_any b o c A n l k _ ha (HR.out.since HB.out.since) hl hn hlt).mono ?_
     rintro e w5 ⟨rfl,hs⟩
     have HB5 := Lib.hid (show Bank w0 w5 (boxAcc D 27 [.int .i64 0,.int .i64 0] :: L.set i (boxAcc G 4 ((T.comes l 0).map Value.bool))) from HB.out.call hs)
     clear hs ha
     obtain ⟨d0,d1,f0,f1⟩ := HB5.out.r2 0 rfl
     skip
     by_cases hq : T.q1 l k = 0
     ·have HNO2 := Lib.hid (show ∀ p,p < k + 1 → T.q1 l p = 0 from fun p hp => by
       by_cases e : p = k
       ·rw [e]; exact hq
       ·exact HNO.out p (by omega))
      rw [hq]
      clear hq d0 d1 f0 f1
      go_wp2
      go_round
      case rel => exact ⟨k + 1,by omega,by go_num,HNO2.out,HB5.out⟩
      case measure => simp [intOf]; omega
     ·have HFO := Lib.hid (firstOf_at (n := n) HNO.out hlt hq)
      obtain ⟨r,hr⟩ : ∃ r,T.q1 l k = r := ⟨_,rfl⟩
      rw [hr] at hq HFO ⊢
      have e9 : (r != 0) = true := by simpa using hq
      clear hr hq
      have HRR := Lib.hid (show shapeR l = (r,(k : Int)) by
       unfold shapeR T.shapeO
       rw [hl,HFO.out]
       rfl)
      go_wp2
      refine bodyPost_ret (v := .agg #[.int .i64 r,.int .i64 (k : Int)]) ?_ rfl ⟨by rw [HRR.out],T.comes l 0,((HB5.out.boxSet 0 rfl 0 (.int .i64 r)).boxSet 0 rfl 1 (.int .i64 (k : Int))).drop⟩
      simp [results,Tryz.results24,go_sem,d0,d1]
    ·have i1 : ¬ (k : Int) < (n : Int) := by omega
     obtain rfl : k = n := by omega
     go_wp2
     go_roundw
     case rel => exact ⟨1,by decide,by go_num,fun _ => HNO.out,fun h => absurd h (by decide),fun h => absurd h (by decide),fun h => absurd h (by decide),0,fun _ => rfl,HB.out⟩
     case measure => simp [intOf]
  ·obtain rfl := hm (by decide)
   have HQ1 := Lib.hid (a1 (by decide))
   have hfc := HBO.out.cell (jf + 1) (HIF.out _) 1 rfl
   clear a1 a2 a3 a4 hm hq
   rw [show ((1 : Nat) : Int) = 1 from rfl]
   go_wp2
   go_loopw [7,8,16] (fun _ _ x wr => ∃ k : Nat,k ≤ n ∧ x = .int .i64 (k : Int) ∧ (∀ p,p < k → T.q2 l p = 0) ∧ Bank w0 wr (boxAcc D 27 [.int .i64 0,.int .i64 0] :: L.set i (boxAcc G 4 ((T.comes l 0).map Value.bool)))) (fun _ _ x _ => n - (intOf x).toNat)
   case atStart => exact ⟨0,Nat.zero_le _,rfl,fun p hp => absurd hp (Nat.not_lt_zero _),HBO.out⟩
   case round =>
    obtain ⟨k,hk,rfl,hno,hB⟩ := hrel
    have HB := Lib.hid hB
    have HNO := Lib.hid hno
    clear hB hno
    have k0 : (0 : Int) ≤ (k : Int) := by omega
    by_cases hlt : k < n
    ·have i1 : (k : Int) < (n : Int) := by omega
     have ha := HB.out.cell (ia + 1) (HIA.out _) 0 rfl
     go_wp2_with fail
     refine (ask2_any b o c A n l k _ ha (HR.out.since HB.out.since) hl hn hlt (right_off (HQ1.out k hlt))).mono ?_
     rintro e w5 ⟨rfl,hs⟩
     have HB5 := Lib.hid (show Bank w0 w5 (boxAcc D 27 [.int .i64 0,.int .i64 0] :: L.set i (boxAcc G 4 ((T.comes l 0).map Value.bool))) from HB.out.call hs)
     clear hs ha
     obtain ⟨d0,d1,f0,f1⟩ := HB5.out.r2 0 rfl
     skip
     by_cases hq : T.q2 l k = 0
     ·have HNO2 := Lib.hid (show ∀ p,p < k + 1 → T.q2 l p = 0 from fun p hp => by
       by_cases e : p = k
       ·rw [e]; exact hq
       ·exact HNO.out p (by omega))
      rw [hq]
      clear hq d0 d1 f0 f1
      go_wp2
      go_round
      case rel => exact ⟨k + 1,by omega,by go_num,HNO2.out,HB5.out⟩
      case measure => simp [intOf]; omega
     ·have HFO := Lib.hid (firstOf_at (n := n) HNO.out hlt hq)
      obtain ⟨r,hr⟩ : ∃ r,T.q2 l k = r := ⟨_,rfl⟩
      rw [hr] at hq HFO ⊢
      have e9 : (r != 0) = true := by simpa using hq
      clear hr hq
      have HRR := Lib.hid (show shapeR l = (r,(k : Int)) by
       unfold shapeR T.shapeO
       rw [hl,firstOf_no HQ1.out,HFO.out]
       rfl)
      go_wp2
      refine bodyPost_ret (v := .agg #[.int .i64 r,.int .i64 (k : Int)]) ?_ rfl ⟨by rw [HRR.out],T.comes l 0,((HB5.out.boxSet 0 rfl 0 (.int .i64 r)).boxSet 0 rfl 1 (.int .i64 (k : Int))).drop⟩
      simp [results,Tryz.results24,go_sem,d0,d1]
    ·have i1 : ¬ (k : Int) < (n : Int) := by omega
     obtain rfl : k = n := by omega
     go_wp2
     go_roundw
     case rel => exact ⟨2,by decide,by go_num,fun _ => HQ1.out,fun _ => HNO.out,fun h => absurd h (by decide),fun h => absurd h (by decide),0,fun _ => rfl,HB.out⟩
     case measure => simp [intOf]
  ·obtain rfl := hm (by decide)
   have HQ1 := Lib.hid (a1 (by decide))
   have HQ2 := Lib.hid (a2 (by decide))
   have hfc := HBO.out.cell (jf + 1) (HIF.out _) 2 rfl
   clear a1 a2 a3 a4 hm hq
   rw [show ((2 : Nat) : Int) = 2 from rfl]
   go_wp2
   go_loopw [7,8,16] (fun _ _ x wr => ∃ k : Nat,k ≤ n ∧ x = .int .i64 (k : Int) ∧ (∀ p,p < k → T.q3 l p = 0) ∧ Bank w0 wr (boxAcc D 27 [.int .i64 0,.int .i64 0] :: L.set i (boxAcc G 4 ((T.comes l 0).map Value.bool)))) (fun _ _ x _ => n - (intOf x).toNat)
   case atStart => exact ⟨0,Nat.zero_le _,rfl,fun p hp => absurd hp (Nat.not_lt_zero _),HBO.out⟩
   case round =>
    obtain ⟨k,hk,rfl,hno,hB⟩ := hrel
    have HB := Lib.hid hB
    have HNO := Lib.hid hno
    clear hB hno
    have k0 : (0 : Int) ≤ (k : Int) := by omega
    by_cases hlt : k < n
    ·have i1 : (k : Int) < (n : Int) := by omega
     have ha := HB.out.cell (ia + 1) (HIA.out _) 0 rfl
     go_wp2_with fail
     refine (ask3_any b o c A n l k _ ha (HR.out.since HB.out.since) hl hn hlt).mono ?_
     rintro e w5 ⟨rfl,hs⟩
     have HB5 := Lib.hid (show Bank w0 w5 (boxAcc D 27 [.int .i64 0,.int .i64 0] :: L.set i (boxAcc G 4 ((T.comes l 0).map Value.bool))) from HB.out.call hs)
     clear hs ha
     obtain ⟨d0,d1,f0,f1⟩ := HB5.out.r2 0 rfl
     skip
     by_cases hq : T.q3 l k = 0
     ·have HNO2 := Lib.hid (show ∀ p,p < k + 1 → T.q3 l p = 0 from fun p hp => by
       by_cases e : p = k
       ·rw [e]; exact hq
       ·exact HNO.out p (by omega))
      rw [hq]
      clear hq d0 d1 f0 f1
      go_wp2
      go_round
      case rel => exact ⟨k + 1,by omega,by go_num,HNO2.out,HB5.out⟩
      case measure => simp [intOf]; omega
     ·have HFO := Lib.hid (firstOf_at (n := n) HNO.out hlt hq)
      obtain ⟨r,hr⟩ : ∃ r,T.q3 l k = r := ⟨_,rfl⟩
      rw [hr] at hq HFO ⊢
      have e9 : (r != 0) = true := by simpa using hq
      clear hr hq
      have HRR := Lib.hid (show shapeR l = (r,(k : Int)) by
       unfold shapeR T.shapeO
       rw [hl,firstOf_no HQ1.out,firstOf_no HQ2.out,HFO.out]
       rfl)
      go_wp2
      refine bodyPost_ret (v := .agg #[.int .i64 r,.int .i64 (k : Int)]) ?_ rfl ⟨by rw [HRR.out],T.comes l 0,((HB5.out.boxSet 0 rfl 0 (.int .i64 r)).boxSet 0 rfl 1 (.int .i64 (k : Int))).drop⟩
      simp [results,Tryz.results24,go_sem,d0,d1]
    ·have i1 : ¬ (k : Int) < (n : Int) := by omega
     obtain rfl : k = n := by omega
     go_wp2
     go_roundw
     case rel => exact ⟨3,by decide,by go_num,fun _ => HQ1.out,fun _ => HQ2.out,fun _ => HNO.out,fun h => absurd h (by decide),0,fun _ => rfl,HB.out⟩
     case measure => simp [intOf]
  ·obtain rfl := hm (by decide)
   have HQ1 := Lib.hid (a1 (by decide))
   have HQ2 := Lib.hid (a2 (by decide))
   have HQ3 := Lib.hid (a3 (by decide))
   have hfc := HBO.out.cell (jf + 1) (HIF.out _) 3 rfl
   clear a1 a2 a3 a4 hm hq
   rw [show ((3 : Nat) : Int) = 3 from rfl]
   go_wp2
   go_loopw [7,8,16] (fun _ _ x wr => ∃ k : Nat,k ≤ n ∧ x = .int .i64 (k : Int) ∧ (∀ p,p < k → T.q4 l p = 0) ∧ Bank w0 wr (boxAcc D 27 [.int .i64 0,.int .i64 0] :: L.set i (boxAcc G 4 ((T.comes l k).map Value.bool)))) (fun _ _ x _ => n - (intOf x).toNat)
   case atStart => exact ⟨0,Nat.zero_le _,rfl,fun p hp => absurd hp (Nat.not_lt_zero _),HBO.out⟩
   case round =>
    obtain ⟨k,hk,rfl,hno,hB⟩ := hrel
    have HB := Lib.hid hB
    have HNO := Lib.hid hno
    clear hB hno
    have k0 : (0 : Int) ≤ (k : Int) := by omega
    by_cases hlt : k < n
    ·have i1 : (k : Int) < (n : Int) := by omega
     have ha := HB.out.cell (ia + 1) (HIA.out _) 0 rfl
     have HNX := Lib.hid (nexts_lt (by rw [hl]; exact HQ1.out) (by rw [hl]; exact HQ2.out) (by rw [hl]; exact HQ3.out) (show k < l.length by omega))
     rw [hl] at HNX
     go_wp2_with fail
     refine (ask4_any b o c A C G n l (T.comes l k) k (i + 1) (ia + 1) (ic + 1) HB.out HR.out hl hn hlt HNX.out.1 HNX.out.2.1 HNX.out.2.2.1 HNX.out.2.2.2 (by rw [comes_length l HNE.out,hl]) (HID.out _) (HIA.out _) (HIC.out _) (by omega) (by omega)).mono ?_
     rintro e w5 ⟨rfl,hs⟩
     have HB5 := Lib.hid (show Bank w0 w5 (boxAcc D 27 [.int .i64 0,.int .i64 0] :: L.set i (boxAcc G 4 ((T.comes l (k + 1)).map Value.bool))) from (by have h := hs; rw [List.set_cons_succ,List.set_set] at h; exact h))
     clear hs ha
     obtain ⟨d0,d1,f0,f1⟩ := HB5.out.r2 0 rfl
     rw [← q4_eq]
     by_cases hq : T.q4 l k = 0
     ·have HNO2 := Lib.hid (show ∀ p,p < k + 1 → T.q4 l p = 0 from fun p hp => by
       by_cases e : p = k
       ·rw [e]; exact hq
       ·exact HNO.out p (by omega))
      rw [hq]
      clear hq d0 d1 f0 f1
      go_wp2
      go_round
      case rel => exact ⟨k + 1,by omega,by go_num,HNO2.out,HB5.out⟩
      case measure => simp [intOf]; omega
     ·have HFO := Lib.hid (firstOf_at (n := n) HNO.out hlt hq)
      obtain ⟨r,hr⟩ : ∃ r,T.q4 l k = r := ⟨_,rfl⟩
      rw [hr] at hq HFO ⊢
      have e9 : (r != 0) = true := by simpa using hq
      clear hr hq
      have HRR := Lib.hid (show shapeR l = (r,(k : Int)) by
       unfold shapeR T.shapeO
       rw [hl,firstOf_no HQ1.out,firstOf_no HQ2.out,firstOf_no HQ3.out,HFO.out]
       rfl)
      go_wp2
      refine bodyPost_ret (v := .agg #[.int .i64 r,.int .i64 (k : Int)]) ?_ rfl ⟨by rw [HRR.out],T.comes l (k + 1),((HB5.out.boxSet 0 rfl 0 (.int .i64 r)).boxSet 0 rfl 1 (.int .i64 (k : Int))).drop⟩
      simp [results,Tryz.results24,go_sem,d0,d1]
    ·have i1 : ¬ (k : Int) < (n : Int) := by omega
     obtain rfl : k = n := by omega
     go_wp2
     go_roundw
     case rel => exact ⟨4,by decide,by go_num,fun _ => HQ1.out,fun _ => HQ2.out,fun _ => HQ3.out,fun _ => HNO.out,k,fun h => absurd h (by decide),HB.out⟩
     case measure => simp [intOf]
  ·have HRR := Lib.hid (show shapeR l = (0,0) by
    unfold shapeR T.shapeO
    rw [hl,firstOf_no (a1 (by decide)),firstOf_no (a2 (by decide)),firstOf_no (a3 (by decide)),firstOf_no (a4 (by decide))]
    rfl)
   obtain ⟨d0,d1,f0,f1⟩ := HBO.out.r2 0 rfl
   clear a1 a2 a3 a4 hm hq
   rw [show ((4 : Nat) : Int) = 4 from rfl]
   go_wp2
   refine bodyPost_ret (v := .agg #[.int .i64 0,.int .i64 0]) ?_ rfl ⟨by rw [HRR.out],T.comes l m,((HBO.out.boxSet 0 rfl 0 (.int .i64 0)).boxSet 0 rfl 1 (.int .i64 0)).drop⟩
   simp [results,Tryz.results24,go_sem,d0,d1]
end Go.Proofs.YtfeipbgnjainlaaGreat.K
/- (made by gencheck13.py) The contract of shape.Check. -/
set_option maxRecDepth 100000
set_option maxHeartbeats 4000000
namespace Go.Proofs.YtfeipbgnjainlaaGreat.K
open Go Go.RowKit Go.Maps Go.Sort

theorem infoBo : (Tryz.prog.info? 4).map (fun i => (i.zero,i.size,i.bytes)) = some (some (.bool false),1,1) := by kernel_rfl
theorem make_bools (n : Nat) (hn : n ≤ 4096) (W : World) : (Instr.makeSlice 80 (.int .i64 (n : Int)) (.int .i64 (n : Int))).run Tryz.prog W = .ok (.slice (some ⟨W.heap.size,0,none⟩) n n) (W.alloc (.cells ((List.replicate n false).map Value.bool).toArray 4)) := by
 obtain ⟨i0,hi,hz0,hz1,hz2⟩ := info_parts infoBo
 have h := run_makeSlice (P := Tryz.prog) W 80 4 i0 (.bool false) Tryz.underlying80 hi hz0 .i64 .i64 (n : Int) (n : Int) (by omega) (by omega) (by rw [hz1]; omega) (by rw [hz2]; omega) (by omega)
 rw [h,hz1,Nat.mul_one,Int.toNat_natCast]
 have e : madeCells (Value.bool false).cells n = ((List.replicate n false).map Value.bool).toArray := by
  have h2 := toList_madeCells_one (.bool false) n
  rw [List.map_replicate,← h2,Array.toArray_toList]
  rfl
 rw [e]
/-- what shape.Check answers -/
def shapeV (l : List T.Ins) : Value := .agg #[.int .i64 (T.shapeF l).1,.int .i64 ((T.shapeF l).2 : Int)]
theorem shapeCheck_any (b o c n : Nat) (l : List T.Ins) (w : World) (hr : InsRd w b o l) (hl : l.length = n) (hn : n ≤ 4096) :
  Calls Tryz.prog 13 #[.slice (some ⟨b,o,none⟩) n c] w (Ret w (shapeV l)) := by
 have hmf : ∀ (fn : Fn) (first cap : Array Value) (w : World),(Instr.makeFunc fn first cap).run Tryz.prog w = .ok (.func fn first cap) w := fun _ _ _ _ => rfl
 have HR := Lib.hid hr
 clear hr
 have BK0 := bk2 w [.slice (some ⟨b,o,none⟩) n c] 22 [.int .i64 0,.int .i64 0] 27
 go_enter Tryz.func13,Tryz.ntmps13
 go_upto_region 1 with fail
 generalize w.heap.size = X at *
 refine wp_hid BK0 (fun w1 BK0 => ?_)
 have a0 := BK0.out.cell 1 rfl 0 rfl
 obtain ⟨r0,r1,fr0,fr1⟩ := BK0.out.r2 0 rfl
 by_cases h0 : n = 0
 ·have HV := Lib.hid (show T.shapeF l = (6,0) by unfold T.shapeF; rw [if_pos (by omega)])
  subst h0
  go_wp2
  refine bodyPost_ret (v := .agg #[.int .i64 6,.int .i64 0]) ?_ rfl ⟨by rw [shapeV,HV.out]; rfl,((BK0.out.boxSet 0 rfl 0 (.int .i64 6)).boxSet 0 rfl 1 (.int .i64 0)).since⟩
  simp [results,Tryz.results13,go_sem,a0,r0,r1]
 have e0 : ((n : Int) == 0) = false := by simp; omega
 have e1 : ¬ (4096 : Int) < (n : Int) := by omega
 have HNE := Lib.hid (show l ≠ [] from fun e => by rw [e] at hl; exact h0 (by simpa using hl.symm))
 have hmk := fun w => make_bools n hn w
 go_upto_region 6 with fail
 clear a0 r0 r1 fr0 fr1
 obtain ⟨g,hg⟩ : ∃ g,g = w1.heap.size := ⟨_,rfl⟩
 rw [← hg]
 refine wp_gen [boxAcc (g + 1) 80 [.slice (some ⟨g,0,none⟩) n n],boxAcc g 4 ((List.replicate n false).map Value.bool),boxAcc (X + 1) 27 [.int .i64 0,.int .i64 0],boxAcc X 22 [.slice (some ⟨b,o,none⟩) n c]] (by
  have h := (BK0.out.boxL ((List.replicate n false).map Value.bool) 4 (by simp; omega)).boxL [.slice (some ⟨g,0,none⟩) n n] 80 (by simp)
  rw [World.size_alloc,← hg,show ((List.replicate n false).map Value.bool).toArray = Array.replicate n (Value.bool false) by simp] at h
  exact h) (fun w2 hz => ?_)
 have BK1 := Lib.hid hz
 clear hz hg BK0
 have z0 := BK1.out.cell 0 rfl 0 rfl
 have hg0 : ((List.replicate n false).map Value.bool)[0]? = some (.bool false) := by rw [List.getElem?_map,List.getElem?_replicate,if_pos (by omega)]; rfl
 have y0 := BK1.out.cell 1 rfl 0 hg0
 have yf := BK1.out.free 1 rfl 0
 have n0 : (0 : Int) < (n : Int) := by omega
 clear hg0
 go_upto_region 7 with fail
 refine wp_gen [boxAcc (g + 1) 80 [.slice (some ⟨g,0,none⟩) n n],boxAcc g 4 ((T.comes l 0).map Value.bool),boxAcc (X + 1) 27 [.int .i64 0,.int .i64 0],boxAcc X 22 [.slice (some ⟨b,o,none⟩) n c]] (by
  have h := BK1.out.boxSet 1 rfl 0 (.bool true)
  have e : (T.comes l 0).map Value.bool = ((List.replicate n false).map Value.bool).set 0 (.bool true) := by
   unfold T.comes
   rw [hl,List.map_set]
  rw [e]
  exact h) (fun w3 hz => ?_)
 have BK2 := Lib.hid hz
 clear hz BK1 z0 y0 yf
 have a0 := BK2.out.cell 3 rfl 0 rfl
 go_wp2_with fail
 obtain ⟨D,hD⟩ : ∃ D,D = w3.heap.size := ⟨_,rfl⟩
 have BK3 := Lib.hid (BK2.out.boxL [.func (.func 25) #[] #[.pointer (some ⟨X,0,none⟩)],.func (.func 28) #[] #[.pointer (some ⟨X,0,none⟩)],.func (.func 30) #[] #[.pointer (some ⟨X,0,none⟩)],.func (.func 31) #[] #[.pointer (some ⟨X,0,none⟩),.pointer (some ⟨g + 1,0,none⟩)]] 92 (by simp))
 rw [← hD] at BK3 ⊢
 refine (first_any b o c X (g + 1) g D n l 2 4 1 0 BK3.out HR.out hl hn HNE.out rfl rfl rfl rfl (by decide) (by decide) (by decide)).mono ?_
 rintro e w5 ⟨rfl,come,hb⟩
 have BK4 := Lib.hid hb
 clear hb BK3 BK2 hD a0
 obtain ⟨r0,r1,fr0,fr1⟩ := BK4.out.r2 3 rfl
 have HV := Lib.hid (show shapeV l = .agg #[.int .i64 (shapeR l).1,.int .i64 (shapeR l).2] by
  unfold shapeV shapeR T.shapeF
  rw [if_neg (by omega),if_neg (by omega)]
  cases T.shapeO l <;> rfl)
 go_wp2
 refine bodyPost_ret (v := .agg #[.int .i64 (shapeR l).1,.int .i64 (shapeR l).2]) ?_ rfl ⟨by rw [HV.out],((BK4.out.boxSet 3 rfl 0 (.int .i64 (shapeR l).1)).boxSet 3 rfl 1 (.int .i64 (shapeR l).2)).since⟩
 simp [results,Tryz.results13,go_sem,r0,r1]
end Go.Proofs.YtfeipbgnjainlaaGreat.K
