/- Merged: ApartBytes, Lit, Box, Held, KitEnts, WireTake, WireRest, WireCatch, WireReads, WireReadsB, RefReader. -/
import Derived.Test.YtfpjmeknjhhakaaSq3
import Derived.Deep.RegionLaw
import Derived.Defers
import Derived.Recover
import Derived.WalkLawsBesides
import Derived.Laws.Pointers
set_option linter.unusedVariables false
/- The contracts of barbicankit's putBytes and ApartBytes: rows of bytes that lie apart are told to. -/
namespace Go.Proofs.Ytfpjmeknjhhakaa.K
open Go Go.RowKit

theorem IsBag.set {w : World} {g : Nat} {v : Value} (h : IsBag w g v) (v' : Value) : IsBag (w.setCell ⟨g, 5, none⟩ v') g v' := by
  obtain ⟨t, h⟩ := h
  exact ⟨t, block_set h 5 v'⟩
theorem IsBag.grown {w w1 : World} {g B k : Nat} {v x : Value} {e t : TypeId} {vals : List Value} (h : IsBag w g v) (ho : w.ownsRow B e 1 v k vals) (hB : g < B) (hg : (w.alloc (.cells #[x] t)).grownBy w1 v.ownBlock) : IsBag w1 g v := by
  have hl := h.lt
  have hvg : v.ownBlock ≠ some g := fun h => by
    have := (ho.lt g h).1; omega
  obtain ⟨t, h⟩ := h
  exact ⟨t, (hg.block g (by simp; omega) (Ne.symm hvg)).trans ((heap_alloc_old w _ hl).trans h)⟩
theorem IsBag.free {w : World} {g : Nat} {v : Value} (h : IsBag w g v) (j : Nat) : w.frozen? ⟨g, j, none⟩ = false := by
  obtain ⟨t, h⟩ := h
  exact frozen_of_row w g j _ t h

set_option maxHeartbeats 1000000 in
set_option maxRecDepth 100000 in
theorem putBytes_any (g B : Nat) (v : Value) (k : Nat) (vals : List Value) (A : Option Addr) (n c : Nat) (w : World) (hg : IsBag w g v) (hown : w.ownsRow B 27 1 v k vals) (hgB : g < B) (hB : B ≤ w.heap.size) (hk : k ≤ 1000000) :
    Calls Try.prog 48 #[.pointer (some ⟨g, 0, none⟩), .slice A n c] w fun e w' => e = .returned (.tuple #[]) ∧ ∃ v', IsBag w' g v' ∧ w'.ownsRow B 27 1 v' (k + 1) (vals ++ [.slice A n c]) ∧ Below g w w' := by
  obtain ⟨j0, hj0, hy0, hy1, hy2⟩ := info_parts infoBytes
  have c5 := hg.five
  have hgl := hg.lt
  have HG := Lib.hid hg; have HO := Lib.hid hown
  clear hg hown
  go_enter Try.func48, Try.ntmps48
  go_wp2_with (first
    | (at_builtin; refine wpList_append_own _ rfl _ _ 39 rfl B 27 j0 (.slice none 0 0) 1 24 Try.underlying39 hj0 hy0 hy1 hy2 rfl (by decide) v k vals rfl (HO.out.alloc _) ⟨w.heap.size, 0, none⟩ 1 1 [.slice A n c] rfl rfl (cell_last _ _ _) (by intro u hu; simp at hu; subst hu; rfl) (by unfold maxLen; omega) (by omega) (by simp; omega) ?_; intro v' w1 hown1 hgrow1 _; obtain ⟨L, cL, rfl, hgL, _⟩ := hown1.form (Nat.succ_pos _); have hg1 : IsBag w1 g v := IsBag.grown HG.out HO.out hgB hgrow1; have d5 := hg1.five; have f5 := hg1.free 5; have HG1 := Lib.hid hg1; have HO1 := Lib.hid hown1; clear hg1 hown1)
    | (with_reducible refine wpList_store_one rfl 39 (.tmp 13) (.tmp 11) rfl ⟨g, 5, none⟩ _ _ rfl rfl rfl (by kernel_rfl) d5 f5 ?_))
  go_end0
  refine ⟨rfl, _, HG1.out.set _, ?_, ?_⟩
  · exact HO1.out.kept (grownBy_setCell w1 g 5 _) (.inr (by simp [Value.ownBlock]; omega))
  · exact (((Below.refl _ _).mono (Nat.le_of_lt hgl)).alloc (Nat.le_of_lt hgl) _).grown hgrow1 (by simp; omega) (fun k' hk' => by have := (HO.out.lt k' hk').1; omega) |>.setCell (Nat.le_refl _) _

set_option maxHeartbeats 2000000 in
set_option maxRecDepth 100000 in
theorem ApartBytes_any (S : Option Addr) (m cS : Nat) (r : Nat → Rw) (f : Nat → List (BitVec 8)) (base : Nat) (w : World)
    (hS : ∀ j, j < m → ∃ b o, S = some ⟨b, o, none⟩ ∧ w.cell? ⟨b, o + j, none⟩ = some (r j).v) (hown : ∀ j, j < m → (r j).own w base 5 (f j))
    (hsep : ∀ i j, i < m → j < m → i ≠ j → ∀ b, (r i).blk = some b → (r j).blk ≠ some b) (hm : m ≤ 1000000) (hn : ∀ j, j < m → (r j).n ≤ 1000000000000) (hbase : base ≤ w.heap.size) :
    Calls Try.prog 19 #[.slice S m cS] w fun e w' => e = .returned (.bool true) ∧ Below base w w' := by
  have hlt : ∀ j, j < m → ∀ b, (r j).blk = some b → b < w.heap.size := fun j hj b hb => ((hown j hj).lt b hb).2
  have HS := Lib.hid hS; have HOWN := Lib.hid hown; have HSEP := Lib.hid hsep; have HN := Lib.hid hn; have HLT := Lib.hid hlt
  clear hS hown hsep hn hlt
  go_enter Try.func19, Try.ntmps19
  go_wp2
  have hbag : IsBag (w.alloc (.cells (bagCells nilS).toArray 117)) w.heap.size nilS := ⟨_, heap_alloc_new w _⟩
  have hb0 : Below w.heap.size w (w.alloc (.cells (bagCells nilS).toArray 117)) := (Below.refl _ _).alloc (Nat.le_refl _) _
  have hsz : (w.alloc (.cells (bagCells nilS).toArray 117)).heap.size = w.heap.size + 1 := by simp
  have hsz1 : w.heap.size + 1 ≤ (w.alloc (.cells (bagCells nilS).toArray 117)).heap.size := by omega
  have HBAG := Lib.hid hbag; have HB0 := Lib.hid hb0; have HZ := Lib.hid hsz1
  clear hbag hb0 hsz hsz1
  go_loopw [4] (fun i wr => ∃ k : Nat, k ≤ m ∧ i = .int .i64 (k : Int) ∧ ∃ v, IsBag wr w.heap.size v ∧ wr.ownsRow (w.heap.size + 1) 27 1 v k ((List.range k).map fun j => (r j).v) ∧ (k = 0 → v = nilS) ∧ Below w.heap.size w wr ∧ w.heap.size + 1 ≤ wr.heap.size) (fun i _ => m - (intOf i).toNat)
  case atStart => exact ⟨0, Nat.zero_le _, rfl, nilS, HBAG.out, World.ownsRow_nil _ _ _ _, fun _ => rfl, HB0.out, HZ.out⟩
  case round =>
    clear HBAG HB0 HZ
    obtain ⟨k, hk, rfl, v, hbag, hown, hv0, hb, hsz⟩ := hrel
    have k0 : (0 : Int) ≤ (k : Int) := by omega
    have HBAG := Lib.hid hbag; have HO := Lib.hid hown; have HV := Lib.hid hv0
    clear hbag hown hv0
    rcases Nat.lt_or_ge k m with h1 | h1
    · have i1 : (k : Int) < (m : Int) := by omega
      obtain ⟨b, o, rfl, hc⟩ := HS.out k h1
      obtain ⟨A, n, c, hr⟩ : ∃ A n c, r k = ⟨A, n, c⟩ := ⟨_, _, _, rfl⟩
      have hc1 : wr.cell? ⟨b, o + k, none⟩ = some (.slice A n c) := (hb.cell (block_lt_of_cell hc)).trans (by rw [hc, hr]; rfl)
      have HR := Lib.hid hr
      clear hc hr
      go_wp2_with fail
      refine (putBytes_any w.heap.size (w.heap.size + 1) v k _ A n c wr HBAG.out HO.out (by omega) hsz (by omega)).mono ?_
      rintro e w2 ⟨rfl, v', hg', ho', hb'⟩
      have HG' := Lib.hid hg'; have HO' := Lib.hid ho'; have HB' := Lib.hid (hb.trans hb')
      have hsz2 := hb'.size
      clear hg' ho' hb' hc1
      go_wp2
      go_roundw
      case rel =>
        refine ⟨k + 1, by omega, by go_num, v', HG'.out, ?_, fun h => by omega, HB'.out, by omega⟩
        have o := HO'.out
        rw [List.range_succ, List.map_append, List.map_cons, List.map_nil, HR.out]
        exact o
      case measure => simp [intOf]; omega
    · have hkm : k = m := by omega
      have i1 : ¬ (k : Int) < (m : Int) := by omega
      rw [hkm] at HO HV
      go_wp2_with fail
      have hcall : ∀ w1, Below wr.heap.size wr w1 → Calls Try.prog 87 #[v] w1 fun e w' => e = .returned (.bool true) ∧ Below base w1 w' ∧ w'.heap[w.heap.size]? = w1.heap[w.heap.size]? := by
        intro w1 hb1
        have hb01 : Below w.heap.size w w1 := hb.trans (hb1.mono hb.size)
        rcases Nat.eq_zero_or_pos m with hm0 | hm0
        · rw [HV.out hm0]
          refine (flatBytes_nil w1).mono ?_
          rintro e w2 ⟨he, hb2⟩
          exact ⟨he, hb2.mono (Nat.le_trans hbase hb01.size), hb2.block _ (by have := hb1.size; omega)⟩
        · obtain ⟨L, cL, rfl, hL1, hL2⟩ := HO.out.form (by omega)
          have hs1 := hb1.size
          refine (flatBytes_any (fun b => b = L ∨ b = w.heap.size) L m cL r f base w1 ⟨fun j hj => ?_, HSEP.out, fun _ h => absurd h (Nat.not_lt_zero _), fun _ _ _ h => absurd h (Nat.not_lt_zero _), fun _ _ h => absurd h (Nat.not_lt_zero _), fun b hb2 => ⟨?_, fun j hj h => ?_, fun _ h => absurd h (Nat.not_lt_zero _)⟩⟩ (fun j hj => ?_) hm HN.out (Nat.le_trans hbase hb01.size) (.inl rfl)).mono ?_
          · exact World.ownsRow.kept (HOWN.out j hj) (row := none) ⟨hb01.os, hb01.tape, hb01.output, hb01.size, fun k' hk' _ => hb01.block k' hk'⟩ (by cases h : (r j).v.ownBlock <;> simp)
          · rcases hb2 with rfl | rfl <;> omega
          · have := HLT.out j hj b h
            rcases hb2 with rfl | rfl <;> omega
          · have hc := (HO.out).cellAt j (by omega)
            refine (hb1.cell (p := ⟨L, j, none⟩) hL2).trans (hc.trans ?_)
            simp [hj]
          · rintro e w2 ⟨he, h2, h3⟩
            exact ⟨he, h2, h3 _ (.inr rfl)⟩
      refine (apart_any w.heap.size v base wr HBAG.out (by omega) hcall).mono ?_
      rintro e w2 ⟨rfl, hb2⟩
      have HB2 := Lib.hid ((hb.mono hbase).trans hb2)
      clear hb2 hcall
      go_wp2
      go_ret
      exact ⟨rfl, HB2.out⟩
end Go.Proofs.Ytfpjmeknjhhakaa.K

/- Literal slices, lent ones, and the kit's questions about them. -/
namespace Go.Proofs.Ytfpjmeknjhhakaa.K
open Go Go.RowKit

theorem row_lit (w : World) (cs : Array Value) (t : TypeId) (bs : List (BitVec 8)) (n c : Nat) (h : cs.toList = bv bs) (hn : bs.length = n) : RowRd (w.alloc (.cells cs t)) ⟨some ⟨w.heap.size, 0, none⟩, n, c⟩ bs :=
  ⟨Rd.of_block (heap_alloc_new w _) (by rw [h, ← bv_length, List.take_length]), hn, fun h => by cases h⟩
/-- two rows that read the same -/
theorem SameBytes_eq (A B : Option Addr) (n m c d : Nat) (bs : List (BitVec 8)) (w : World) (hx : RowRd w ⟨A, n, c⟩ bs) (hy : RowRd w ⟨B, m, d⟩ bs) (hn2 : n ≤ 4611686018427387904) :
    Calls Try.prog 17 #[.slice A n c, .slice B m d] w fun e w' => e = .returned (.bool true) ∧ Below w.heap.size w w' := by
  have hnm : m ≤ 4611686018427387904 := by have := hx.len; have := hy.len; simp at *; omega
  refine (SameBytes_any A B n m c d bs bs w hx.rd hy.rd hx.len hy.len hn2 hnm).mono ?_
  rintro e w1 ⟨rfl, q, rfl⟩
  exact ⟨by rw [decide_eq_true rfl], below_drewN (Below.refl _ _) q⟩
theorem grown_none_of_below {w w1 : World} (h : Below w.heap.size w w1) : w.grownBy w1 none := ⟨h.os, h.tape, h.output, h.size, fun k hk _ => h.block k hk⟩
abbrev RB := Rw × List (BitVec 8)
def flat (l : List RB) : List (BitVec 8) := (l.map (·.2)).flatten
def accOf (p : RB) : Acc := ⟨p.1.v, p.1.n, 5, 1, bv p.2⟩
theorem apart_lit {w0 w : World} (l : List RB) (cs : Array Value) (k c : Nat) (hcs : cs = (l.map fun p => p.1.v).toArray) (hk : k = l.length) (hB : Bank w0 w (l.reverse.map accOf)) (hm : l.length ≤ 1000000) (hn : ∀ p ∈ l, p.1.n ≤ 1000000000000) :
    Calls Try.prog 19 #[.slice (some ⟨w.heap.size, 0, none⟩) k c] (w.alloc (.cells cs 27)) fun e w' => e = .returned (.bool true) ∧ Since w0 w' := by
  subst hcs hk
  have hB2 := hB.alloc (.cells (l.map fun p => p.1.v).toArray 27)
  have hrow : ∀ j, (h : j < l.length) → rowsOf l j = l[j].1 ∧ bytesAt l j = l[j].2 := fun j h => by simp [rowsOf, bytesAt, h]
  refine (ApartBytes_any (some ⟨w.heap.size, 0, none⟩) l.length c (rowsOf l) (bytesAt l) w0.heap.size (w.alloc (.cells (l.map fun p => p.1.v).toArray 27)) (fun j hj => ?_) (fun j hj => ?_) (fun i j hi hj hij => ?_) hm (fun j hj => ?_) hB2.since.size).mono ?_
  · refine ⟨w.heap.size, 0, rfl, ?_⟩
    rw [World.cell?_alloc_new, (hrow j hj).1]
    simp [hj]
  · have := hB2.own (accOf l[j]) (List.mem_map.2 ⟨l[j], by simp, rfl⟩)
    unfold Rw.own
    rw [(hrow j hj).1, (hrow j hj).2]
    exact this
  · have h1 : (l.reverse.map accOf)[l.length - 1 - i]? = some (accOf l[i]) := by
      rw [List.getElem?_map, List.getElem?_reverse (by omega)]
      simp [show l.length - 1 - (l.length - 1 - i) = i by omega, hi]
    have h2 : (l.reverse.map accOf)[l.length - 1 - j]? = some (accOf l[j]) := by
      rw [List.getElem?_map, List.getElem?_reverse (by omega)]
      simp [show l.length - 1 - (l.length - 1 - j) = j by omega, hj]
    rw [(hrow i hi).1, (hrow j hj).1]
    exact hB2.sepAt h1 h2 (by omega)
  · rw [(hrow j hj).1]; exact hn _ (List.getElem_mem _)
  · rintro e w' ⟨he, hb⟩
    exact ⟨he, hB2.since.trans hb⟩
/-- lent bytes -/
def Lent1 (w0 : World) (n : Nat) (bs : List (BitVec 8)) (e : Ending) (w' : World) : Prop := ∃ g, e = .returned (.slice (some ⟨g, 0, none⟩) n (n + 12)) ∧ w0.heap.size ≤ g ∧ w'.heap[g]? = some (.cells (bv (bs ++ marks 1 0 12)).toArray 5 (0, 0)) ∧ Since w0 w'
theorem lent_from (w0 : World) (A : Option Addr) (n c : Nat) (bs : List (BitVec 8)) (hr : RowRd w0 ⟨A, n, c⟩ bs) (hn2 : n ≤ 140737488000000) {w : World} (h : Since w0 w) :
    Calls Try.prog 42 #[.slice A n c] w (Lent1 w n bs) := by
  have hr' := h.row hr
  exact (LentBytes_any A n c bs w hr'.rd hr'.len hn2 hr'.none).mono fun e w' ⟨g, he, hg, hb, hbe⟩ => ⟨g, he, hg, hb, hbe⟩
/-- kept, as lent -/
theorem kept_made {w0 : World} {g : Nat} {A : Option Addr} {n c : Nat} {bs : List (BitVec 8)} (hg : w0.heap[g]? = some (.cells (bv (bs ++ marks 1 0 12)).toArray 5 (0, 0))) (hr : RowRd w0 ⟨A, n, c⟩ bs) (hn2 : n ≤ 140737488000000) {w : World} (h : Since w0 w) :
    Calls Try.prog 18 #[.slice (some ⟨g, 0, none⟩) n (n + 12), .slice A n c] w fun e w' => e = .returned (.bool true) ∧ Below w.heap.size w w' :=
  (KeptBytes_any g A n c bs w (h.at hg) (h.row hr).rd hr.len hn2).mono fun e w' ⟨he, q, hw⟩ => ⟨he, by subst hw; exact below_drewN (Below.refl _ _) q⟩
theorem same_made {w0 : World} {A B : Option Addr} {n m c d : Nat} {bs : List (BitVec 8)} (hx : RowRd w0 ⟨A, n, c⟩ bs) (hy : RowRd w0 ⟨B, m, d⟩ bs) (hn2 : n ≤ 4611686018427387904) {w : World} (h : Since w0 w) :
    Calls Try.prog 17 #[.slice A n c, .slice B m d] w fun e w' => e = .returned (.bool true) ∧ Below w.heap.size w w' :=
  SameBytes_eq A B n m c d bs w (h.row hx) (h.row hy) hn2
/-- lent bytes read as the bytes -/
theorem lent_row {w : World} {g n : Nat} {bs : List (BitVec 8)} (hg : w.heap[g]? = some (.cells (bv (bs ++ marks 1 0 12)).toArray 5 (0, 0))) (hn : bs.length = n) : RowRd w ⟨some ⟨g, 0, none⟩, n, n + 12⟩ bs :=
  ⟨Rd.of_block hg (by rw [List.toList_toArray, bv_append, List.take_left' (bv_length bs)]), hn, fun h => by cases h⟩
end Go.Proofs.Ytfpjmeknjhhakaa.K

/- Boxes as accounts of a bank: blocks of cells that the call made, written cell by cell or whole. -/
namespace Go.Proofs.Ytfpjmeknjhhakaa.K
open Go Go.RowKit

def rowAcc (A : Option Addr) (N c : Nat) (bs : List (BitVec 8)) : Acc := ⟨.slice A N c, N, 5, 1, bv bs⟩
/-- a block of cells as a row -/
def boxAcc (g : Nat) (t : TypeId) (vs : List Value) : Acc := ⟨.slice (some ⟨g, 0, none⟩) vs.length vs.length, vs.length, t, 1, vs⟩
theorem Bank.box {w0 w : World} {L : List Acc} (h : Bank w0 w L) (cs : Array Value) (t : TypeId) (hs : cs.size ≤ 1000000) : Bank w0 (w.alloc (.cells cs t)) (boxAcc w.heap.size t cs.toList :: L) := by
  have := h.litV cs t hs
  exact this
/-- a box's block -/
theorem Bank.boxAt {w0 w : World} {L : List Acc} (h : Bank w0 w L) (i : Nat) {g : Nat} {t : TypeId} {vs : List Value} (hi : L[i]? = some (boxAcc g t vs)) : w0.heap.size ≤ g ∧ w.heap[g]? = some (.cells vs.toArray t (0, 0)) := own_full (h.at i hi)
/-- a cell of a box is written -/
theorem Bank.boxSet {w0 w : World} {L : List Acc} (h : Bank w0 w L) (i : Nat) {g : Nat} {t : TypeId} {vs : List Value} (hi : L[i]? = some (boxAcc g t vs)) (j : Nat) (v : Value) : Bank w0 (w.setCell ⟨g, j, Option.none⟩ v) (L.set i (boxAcc g t (vs.set j v))) := by
  obtain ⟨ho, hg⟩ := (h.at i hi).stored j v
  refine h.put i hi ?_ hg (.inl ?_)
  · show (w.setCell ⟨g, j, Option.none⟩ v).ownsRow _ _ _ (.slice _ (vs.set j v).length (vs.set j v).length) (vs.set j v).length _
    rw [List.length_set]
    exact ho
  · show Value.ownBlock (.slice _ (vs.set j v).length (vs.set j v).length) = _
    rw [List.length_set]
    rfl
theorem Bank.ne {w0 w : World} {L : List Acc} (h : Bank w0 w L) {i j : Nat} {g g' : Nat} {t t' : TypeId} {vs vs' : List Value} (hi : L[i]? = some (boxAcc g t vs)) (hj : L[j]? = some (boxAcc g' t' vs')) (hij : i ≠ j) : g ≠ g' := by
  intro e
  subst e
  exact h.sepAt hi hj hij g rfl rfl
theorem Bank.cell {w0 w : World} {L : List Acc} (h : Bank w0 w L) (i : Nat) {g : Nat} {t : TypeId} {vs : List Value} (hi : L[i]? = some (boxAcc g t vs)) (j : Nat) {v : Value} (hv : vs[j]? = some v) : w.cell? ⟨g, j, Option.none⟩ = some v := block_cell (h.boxAt i hi).2 hv
theorem Bank.free {w0 w : World} {L : List Acc} (h : Bank w0 w L) (i : Nat) {g : Nat} {t : TypeId} {vs : List Value} (hi : L[i]? = some (boxAcc g t vs)) (j : Nat) : w.frozen? ⟨g, j, Option.none⟩ = false := frozen_of_row w g j _ _ (h.boxAt i hi).2
theorem own_someB {w : World} {base : Nat} {e : TypeId} {A : Option Addr} {n c : Nat} {xs : List Value} (h : w.ownsRow base e 1 (.slice A n c) n xs) (hp : 0 < n) : ∃ g, A = some ⟨g, 0, none⟩ := by
  rcases h.2 with ⟨h0, h1⟩ | ⟨g, cap, cur, hv, _⟩
  · cases h0; omega
  · simp only [Value.slice.injEq, true_and] at hv
    exact ⟨g, hv.1⟩
/-- a box is written whole -/
theorem Bank.boxRow {w0 w : World} {L : List Acc} (h : Bank w0 w L) (i : Nat) {g : Nat} {t : TypeId} {vs : List Value} (hi : L[i]? = some (boxAcc g t vs)) (vs' : List Value) (hl : vs'.length = vs.length) (hs : vs.length ≤ 1000000) : Bank w0 (w.setRow g vs'.toArray) (L.set i (boxAcc g t vs')) := by
  obtain ⟨hb, hg⟩ := h.boxAt i hi
  refine h.put i hi ?_ (show w.grownBy (w.setRow g vs'.toArray) (some g) from ⟨rfl, rfl, rfl, by simp [World.setRow], fun k hk hne => setRow_other w g k _ (fun e => hne (by rw [e]))⟩) (.inl ?_)
  · refine ⟨?_, .inr ⟨g, _, _, rfl, hb, setRow_heap _ _ _ _ _ _ hg, Nat.le_refl _, ?_, ?_, ?_⟩⟩
    · show vs'.length = vs'.length * 1; omega
    · show vs'.length ≤ maxLen; unfold maxLen; omega
    · show _ = vs'.length * 1; simp
    · show vs'.toArray.toList.take (vs'.length * 1) = vs'; simp
  · show Value.ownBlock (.slice _ vs'.length vs'.length) = _
    rw [hl]; rfl
end Go.Proofs.Ytfpjmeknjhhakaa.K

/- A reader beside a bank: its block and what it reads of are none of the bank's. Plain lemmas over any program. -/
namespace Go.Proofs.Ytfpjmeknjhhakaa.K
open Go Go.RowKit

theorem Bank.sub {w0 w : World} {L L' : List Acc} (h : Bank w0 w L) (hs : L'.Sublist L) : Bank w0 w L' := ⟨h.since, fun p hp => h.own p (hs.subset hp), h.sep.sublist hs⟩
structure Held (w0 w : World) (Q : World → M.Rdr → Prop) (s : M.Rdr) (R : Nat) (Bd : Option Addr) (L : List Acc) : Prop where
  bank : Bank w0 w L
  q : Q w s
  keep : ∀ w w' s (row : Option Nat), Q w s → w.grownBy w' row → row ≠ some R → (∀ a, Bd = some a → row ≠ some a.block) → Q w' s
  lt : R < w.heap.size ∧ ∀ a, Bd = some a → a.block < w.heap.size
  base : w0.heap.size ≤ R
  away : ∀ p ∈ L, ∀ b, p.v.ownBlock = some b → b ≠ R ∧ ∀ a, Bd = some a → b ≠ a.block
section
variable {w0 w w' : World} {Q : World → M.Rdr → Prop} {s s' : M.Rdr} {R : Nat} {Bd : Option Addr} {L : List Acc}
theorem Held.step (h : Held w0 w Q s R Bd L) (hq : Q w' s') (hg : w.grownBy w' (some R)) : Held w0 w' Q s' R Bd L :=
  ⟨h.bank.other hg h.base (fun p hp e => (h.away p hp R e).1 rfl), hq, h.keep, ⟨Nat.lt_of_lt_of_le h.lt.1 hg.size, fun a e => Nat.lt_of_lt_of_le (h.lt.2 a e) hg.size⟩, h.base, h.away⟩
theorem Held.row (h : Held w0 w Q s R Bd L) (hq : Q w' s') (hg : w.grownBy w' (some R)) {e : TypeId} {size m : Nat} {v : Value} {xs : List Value} (ho : w'.ownsRow w.heap.size e size v m xs) : Held w0 w' Q s' R Bd (⟨v, m, e, size, xs⟩ :: L) := by
  have h1 := h.step hq hg
  refine ⟨h1.bank.add ho h.bank.since.size (fun p hp b hb => (h.bank.lt hp hb).2), hq, h.keep, h1.lt, h.base, fun p hp b hb => ?_⟩
  rcases List.mem_cons.1 hp with rfl | hp
  · have h2 := (ho.lt b hb).1
    have h3 := h.lt.1
    exact ⟨by omega, fun a e => by have := h.lt.2 a e; omega⟩
  · exact h.away p hp b hb
theorem Held.call (h : Held w0 w Q s R Bd L) (hb : Below w.heap.size w w') : Held w0 w' Q s R Bd L :=
  ⟨h.bank.call hb, h.keep _ _ _ none h.q (grown_none_of_below hb) (by simp) (fun _ _ => by simp), h.keep, ⟨Nat.lt_of_lt_of_le h.lt.1 hb.size, fun a e => Nat.lt_of_lt_of_le (h.lt.2 a e) hb.size⟩, h.base, h.away⟩
theorem Held.set (h : Held w0 w Q s R Bd L) (i : Nat) {g : Nat} {t : TypeId} {vs : List Value} (hi : L[i]? = some (boxAcc g t vs)) (j : Nat) (v : Value) : Held w0 (w.setCell ⟨g, j, Option.none⟩ v) Q s R Bd (L.set i (boxAcc g t (vs.set j v))) := by
  have ha := h.away _ (List.mem_of_getElem? hi) g rfl
  refine ⟨h.bank.boxSet i hi j v, h.keep _ _ _ (some g) h.q (grownBy_setCell w g j v) (fun e => ha.1 (Option.some.inj e)) (fun a e e2 => ha.2 a e (Option.some.inj e2)), h.keep, ⟨by simpa using h.lt.1, fun a e => by simpa using h.lt.2 a e⟩, h.base, fun p hp b hb => ?_⟩
  rcases List.mem_or_eq_of_mem_set hp with hp | rfl
  · exact h.away p hp b hb
  · have e : b = g := by simpa [boxAcc, Value.ownBlock] using hb.symm
    subst e
    exact ha
theorem Held.box (h : Held w0 w Q s R Bd L) (cs : Array Value) (t : TypeId) (hs : cs.size ≤ 1000000) : Held w0 (w.alloc (.cells cs t)) Q s R Bd (boxAcc w.heap.size t cs.toList :: L) := by
  have h1 := h.call ((Below.refl _ _).alloc (Nat.le_refl _) (.cells cs t))
  refine ⟨h.bank.box cs t hs, h1.q, h.keep, h1.lt, h.base, fun p hp b hb => ?_⟩
  rcases List.mem_cons.1 hp with rfl | hp
  · have e : b = w.heap.size := by simpa [boxAcc, Value.ownBlock] using hb.symm
    have h3 := h.lt.1
    exact ⟨by omega, fun a ea => by have := h.lt.2 a ea; omega⟩
  · exact h.away p hp b hb
/-- a reader that was just made -/
theorem Held.start {w1 : World} (hB : Bank w0 w1 L) (hq : Q w s) (hb : Below w1.heap.size w1 w) (hR : w1.heap.size ≤ R) (hRl : R < w.heap.size) (hBd : ∀ a, Bd = some a → w1.heap.size ≤ a.block ∧ a.block < w.heap.size)
    (keep : ∀ w w' s (row : Option Nat), Q w s → w.grownBy w' row → row ≠ some R → (∀ a, Bd = some a → row ≠ some a.block) → Q w' s) : Held w0 w Q s R Bd L :=
  ⟨hB.call hb, hq, keep, ⟨hRl, fun a e => (hBd a e).2⟩, Nat.le_trans hB.since.size hR, fun p hp b e => by
    have h1 := (hB.lt hp e).2
    exact ⟨by omega, fun a ea => by have := (hBd a ea).1; omega⟩⟩
end
end Go.Proofs.Ytfpjmeknjhhakaa.K

/- The contracts of barbicankit's markEntry, LentEntries. -/
namespace Go.Proofs.Ytfpjmeknjhhakaa.K
open Go Go.RowKit

theorem infoEntry : (Try.prog.info? 81).map (fun i => (i.zero, i.size, i.bytes)) = some (some (.agg #[.int .i64 0, .int .u8 0, .int .i64 0, .int .i64 0, .bool false, .slice none 0 0]), 6, 64) := by kernel_rfl
theorem own_fullE {w : World} {base : Nat} {e : TypeId} {g n es : Nat} {xs : List Value} (h : w.ownsRow base e es (.slice (some ⟨g, 0, none⟩) n n) n xs) : base ≤ g ∧ w.heap[g]? = some (.cells xs.toArray e (0, 0)) := by
  rcases h.2 with ⟨h1, _⟩ | ⟨g', cap, cur, hv, hb, hg, _, _, hs, ht⟩
  · simp at h1
  · simp only [Value.slice.injEq, Option.some.injEq, Addr.mk.injEq, and_true, true_and] at hv
    obtain ⟨rfl, rfl⟩ := hv
    refine ⟨hb, ?_⟩
    rw [hg, ← ht, List.take_of_length_le (by simp; omega)]
/-- the mark of a place, an entry's cells -/
def mEnt (k i : Int) : List Value := entL (markI k i) 0 0 0#8 false none 0 0
def zeroEL : List Value := entL 0 0 0 0#8 false none 0 0
theorem entL_oneL (t v s : Int) (K : BitVec 8) (G : Bool) (A : Option Addr) (n c : Nat) : ∀ u ∈ entL t v s K G A n c, u.oneCell' = true := by
  intro u hu
  simp only [entL, List.mem_cons, List.mem_nil_iff, or_false] at hu
  rcases hu with rfl | rfl | rfl | rfl | rfl | rfl <;> rfl
theorem load_ent (t v s : Int) (K : BitVec 8) (G : Bool) (A : Option Addr) (n c : Nat) {w : World} {g : Nat} (h : w.heap[g]? = some (.cells (entL t v s K G A n c).toArray 81 (0, 0))) : (loadVar 81 ⟨g, 0, none⟩).run Try.prog w = .ok (.agg (entL t v s K G A n c).toArray) w := by
  have x0 : w.cell? ⟨g, 0, none⟩ = some (.int .i64 t) := block_cell h rfl
  have x1 : w.cell? ⟨g, 1, none⟩ = some (B8 K) := block_cell h rfl
  have x2 : w.cell? ⟨g, 2, none⟩ = some (.int .i64 v) := block_cell h rfl
  have x3 : w.cell? ⟨g, 3, none⟩ = some (.int .i64 s) := block_cell h rfl
  have x4 : w.cell? ⟨g, 4, none⟩ = some (.bool G) := block_cell h rfl
  have x5 : w.cell? ⟨g, 5, none⟩ = some (.slice A n c) := block_cell h rfl
  simp [go_sem, x0, x1, x2, x3, x4, x5, entL]
set_option maxHeartbeats 4000000 in
set_option maxRecDepth 100000 in
theorem markEntry_any (k i : Int) (w : World) : Calls Try.prog 140 #[.int .i64 k, .int .i64 i] w fun e w' => e = .returned (.agg #[.int .i64 (markI k i), B8 0#8, .int .i64 0, .int .i64 0, .bool false, .slice none 0 0]) ∧ Since w w' := by
  have BK0 := Lib.hid ((Bank.nil (Below.refl w.heap.size w)).box zeroEL.toArray 81 (by decide))
  go_enter Try.func140, Try.ntmps140
  go_wp2_with fail
  generalize hw1 : w.alloc (.cells #[.int .i64 0, .int .u8 0, .int .i64 0, .int .i64 0, .bool false, .slice none 0 0] 81) = w1 at *
  have BK1 := Lib.hid (show Bank w w1 [boxAcc w.heap.size 81 zeroEL] from by rw [← hw1]; exact BK0.out)
  clear hw1 BK0
  refine (mark_any k i _).mono ?_
  rintro e w' ⟨rfl, rfl⟩
  have HRES := Lib.hid (BK1.out.boxAt 0 rfl).2
  have HS := Lib.hid (BK1.out.boxRow 0 rfl (mEnt k i) rfl (by decide)).since
  have hinf : (Try.prog.info? 81).map (·.size) = some (#[.int .i64 (markI k i), .int .u8 0, .int .i64 0, .int .i64 0, .bool false, .slice none 0 0] : Array Value).size := infoEntL (markI k i) 0 0 0#8 false none 0 0
  have hone : (#[.int .i64 (markI k i), .int .u8 0, .int .i64 0, .int .i64 0, .bool false, .slice none 0 0] : Array Value).all (·.oneCell') = true := entL_one (markI k i) 0 0 0#8 false none 0 0
  go_wp2_with (with_reducible refine wpList_store_row rfl 81 (.tmp 4) (.tmp 8) rfl w.heap.size #[.int .i64 (markI k i), .int .u8 0, .int .i64 0, .int .i64 0, .bool false, .slice none 0 0] rfl rfl 81 _ HRES.out hinf rfl hone ?_)
  refine bodyPost_ret (v := .agg (mEnt k i).toArray) ?_ ?_ ?_
  · exact results_cell_row rfl _ _ w.heap.size 81 _ (0, 0) _ rfl (setRow_heap _ _ _ _ _ _ HRES.out) Try.underlying81 rfl (infoEntL _ _ _ _ _ _ _ _)
  · rfl
  · exact ⟨rfl, HS.out⟩
/-- cells of a lent entry: its data lie at block d -/
def lentE (e : M.Ent) (d : Nat) : List Value := entL e.term e.version e.server e.kind e.good (some ⟨d, 0, none⟩) e.data.length (e.data.length + 12)
def lentEs (es : List M.Ent) (d : Nat → Nat) (k : Nat) : List Value := (List.range k).flatMap fun i => lentE (es.getD i M.zeroEnt) (d i)
def markEs (k : Nat) : List Value := (List.range k).flatMap fun (i : Nat) => mEnt 1 i
theorem lentEs_succ (es : List M.Ent) (d : Nat → Nat) (k : Nat) : lentEs es d (k + 1) = lentEs es d k ++ lentE (es.getD k M.zeroEnt) (d k) := by simp [lentEs, List.range_succ]
theorem markEs_succ (k : Nat) : markEs (k + 1) = markEs k ++ mEnt 1 k := by simp [markEs, List.range_succ]
theorem lentE_length (e : M.Ent) (d : Nat) : (lentE e d).length = 6 := rfl
theorem mEnt_length (k i : Int) : (mEnt k i).length = 6 := rfl
theorem lentEs_length (es : List M.Ent) (d : Nat → Nat) : ∀ k, (lentEs es d k).length = k * 6
  | 0 => rfl
  | k + 1 => by rw [lentEs_succ, List.length_append, lentEs_length es d k, lentE_length]; omega
theorem markEs_length : ∀ k, (markEs k).length = k * 6
  | 0 => rfl
  | k + 1 => by rw [markEs_succ, List.length_append, markEs_length k, mEnt_length]; omega
theorem lentEs_congr (es : List M.Ent) (d d' : Nat → Nat) (k : Nat) (h : ∀ j, j < k → d j = d' j) : lentEs es d k = lentEs es d' k := by
  induction k with
  | zero => rfl
  | succ k ih => rw [lentEs_succ, lentEs_succ, ih fun j hj => h j (by omega), h k (by omega)]
theorem cells_lit1 (w : World) (vs : List Value) (t : TypeId) : ∀ j u, vs[j]? = some u → (w.alloc (.cells vs.toArray t)).cell? ((⟨w.heap.size, 0, none⟩ : Addr).add j) = some u := fun j u hu => by
  rw [Addr.add_lit, Nat.zero_add]
  exact block_cell (heap_alloc_new w _) hu
theorem cells_litE2 (w : World) (o : Obj) (vs : List Value) (t : TypeId) : ∀ j u, vs[j]? = some u → ((w.alloc o).alloc (.cells vs.toArray t)).cell? ((⟨w.heap.size + 1, 0, none⟩ : Addr).add j) = some u := fun j u hu => by
  have h := cells_lit1 (w.alloc o) vs t j u hu
  rwa [World.size_alloc] at h
/-- the data of lent entries -/
def LentData (w0 w : World) (es : List M.Ent) (d : Nat → Nat) (k : Nat) : Prop := ∀ j, j < k → w0.heap.size < d j ∧ w.heap[d j]? = some (.cells (bv ((es.getD j M.zeroEnt).data ++ marks 1 0 12)).toArray 5 (0, 0))
theorem LentData.call {w0 w w' : World} {es : List M.Ent} {d : Nat → Nat} {k : Nat} (h : LentData w0 w es d k) (hs : Since w w') : LentData w0 w' es d k := fun j hj => ⟨(h j hj).1, Since.at hs (h j hj).2⟩
theorem LentData.grown {w0 w w' : World} {es : List M.Ent} {d : Nat → Nat} {k : Nat} (h : LentData w0 w es d k) (hg : w.grownBy w' (some w0.heap.size)) : LentData w0 w' es d k := fun j hj =>
  ⟨(h j hj).1, (hg.block _ (Array.getElem?_eq_some_iff.1 (h j hj).2).1 (fun e => by have := (h j hj).1; simp at e; omega)).trans (h j hj).2⟩
/-- an account of entries -/
def entAcc (g k c : Nat) (xs : List Value) : Acc := ⟨.slice (some ⟨g, 0, none⟩) k c, k, 81, 6, xs⟩
/-- lent entries -/
def LentEs (w : World) (n : Nat) (es : List M.Ent) (e : Ending) (w' : World) : Prop := ∃ g d, e = .returned (.slice (some ⟨g, 0, none⟩) n (n + 12)) ∧ w.heap.size ≤ g ∧ w'.heap[g]? = some (.cells (lentEs es d n ++ markEs 12).toArray 81 (0, 0)) ∧ (∀ j, j < n → w.heap.size ≤ d j ∧ w'.heap[d j]? = some (.cells (bv ((es.getD j M.zeroEnt).data ++ marks 1 0 12)).toArray 5 (0, 0))) ∧ Since w w'
end Go.Proofs.Ytfpjmeknjhhakaa.K

/- The contract of the program's rest.take: bytes are taken, or it panics. -/
namespace Go.Proofs.Ytfpjmeknjhhakaa.K
open Go Go.RowKit

def readP (A : Option Addr) (n c : Nat) (made bad : Bool) : List Value := [.slice A n c, .bool made, .bool bad]
/-- the block P is a reader of the program's whose left bytes are l -/
structure PrgR (w : World) (P : Nat) (l : List (BitVec 8)) (A : Option Addr) (n c : Nat) (made bad : Bool) : Prop where
  blk : ∃ t, w.heap[P]? = some (.cells (readP A n c made bad).toArray t (0, 0))
  rd : Rd w A l
  len : l.length = n
  none : A = Option.none → c = 0
  n_le : n ≤ 1000000000000
  cap : n ≤ c ∧ c ≤ 9223372036854775807
  ne : ∀ a, A = some a → a.block ≠ P
  form : ∀ a, A = some a → ∃ g o, a = ⟨g, o, Option.none⟩
theorem PrgR.cell {w : World} {P : Nat} {l : List (BitVec 8)} {A : Option Addr} {n c : Nat} {made bad : Bool} (h : PrgR w P l A n c made bad) {i : Nat} {v : Value} (hv : (readP A n c made bad)[i]? = some v) : w.cell? ⟨P, i, Option.none⟩ = some v := by
  obtain ⟨t, hb⟩ := h.blk
  exact block_cell hb hv
theorem PrgR.free {w : World} {P : Nat} {l : List (BitVec 8)} {A : Option Addr} {n c : Nat} {made bad : Bool} (h : PrgR w P l A n c made bad) (i : Nat) : w.frozen? ⟨P, i, Option.none⟩ = false := by
  obtain ⟨t, hb⟩ := h.blk
  exact frozen_of_row w P i _ t hb
theorem Rd.setCellP {w : World} {A : Option Addr} {l : List (BitVec 8)} (h : Rd w A l) {b i : Nat} (hb : ∀ a, A = some a → a.block ≠ b) (v : Value) : Rd (w.setCell ⟨b, i, none⟩ v) A l := fun k hk => by
  obtain ⟨g', o, e, hc⟩ := h k hk
  exact ⟨g', o, e, by rw [cell_setCell_ne _ (hb _ e)]; exact hc⟩
/-- what a panic bears -/
def shortP : List PanicEntry := [{ v := .iface 283 (.agg #[]), recovered := false }]

set_option maxHeartbeats 1000000 in
theorem take_bad (P : Nat) (l : List (BitVec 8)) (A : Option Addr) (n c : Nat) (made bad : Bool) (k : Int) (w : World) (h : PrgR w P l A n c made bad) (hk : k < 0 ∨ (n : Int) < k) :
    Calls Try.prog 168 #[.pointer (some ⟨P, 0, none⟩), .int .i64 k] w fun e w' => e = .panicked shortP ∧ w = w' := by
  have c0 : w.cell? ⟨P, 0, none⟩ = some (.slice A n c) := h.cell rfl
  clear h
  rcases hk with hk | hk
  · have d1 : decide (k < 0) = true := by simpa using hk
    go_enter Try.func168, Try.ntmps168
    go_wp2
    exact ⟨rfl, rfl, rfl⟩
  · have p1 : ¬ k < 0 := by omega
    have d1 : decide (k < 0) = false := by simpa using p1
    have d2 : decide ((n : Int) < k) = true := by simpa using hk
    go_enter Try.func168, Try.ntmps168
    go_wp2
    exact ⟨rfl, rfl, rfl⟩

/-- bytes were taken -/
def TakeOk (w : World) (P : Nat) (l : List (BitVec 8)) (A : Option Addr) (n c : Nat) (made bad : Bool) (k : Nat) (e : Ending) (w' : World) : Prop :=
  e = .returned (.slice A k c) ∧ (∃ A', PrgR w' P (l.drop k) A' (n - k) (c - k) made bad ∧ ∀ a', A' = some a' → ∃ a, A = some a ∧ a'.block = a.block) ∧ w.grownBy w' (some P) ∧ Rd w' A (l.take k)
theorem take_post {w : World} {P : Nat} {l : List (BitVec 8)} {A A' : Option Addr} {n c : Nat} {made bad : Bool} (h : PrgR w P l A n c made bad) {k : Nat} (hk : k ≤ n)
    (hA : (c = k ∧ A' = A) ∨ ∃ g o, A = some ⟨g, o, none⟩ ∧ A' = some ⟨g, o + k, none⟩) : TakeOk w P l A n c made bad k (.returned (.slice A k c)) (w.setCell ⟨P, 0, none⟩ (.slice A' (n - k) (c - k))) := by
  obtain ⟨t, hb⟩ := h.blk
  have hlen := h.len
  have hne' : ∀ a', A' = some a' → a'.block ≠ P := by
    intro a' e
    rcases hA with ⟨_, rfl⟩ | ⟨g, o, h1, h2⟩
    · exact h.ne a' e
    · rw [h2] at e; cases e
      exact h.ne ⟨g, o, none⟩ h1
  have hrd : Rd w A' (l.drop k) := by
    intro i hi
    have hi2 : k + i < l.length := by rw [List.length_drop] at hi; omega
    rcases hA with ⟨hc, rfl⟩ | ⟨g, o, h1, h2⟩
    · have := h.cap.1; omega
    · obtain ⟨b, o', e, hc⟩ := h.rd (k + i) hi2
      rw [h1] at e; cases e
      exact ⟨g, o + k, h2, by rw [Nat.add_assoc, hc]; simp⟩
  refine ⟨rfl, ⟨A', ⟨⟨t, block_set hb 0 _⟩, hrd.setCellP hne' _, by rw [List.length_drop]; omega, fun e => ?_, by have := h.n_le; omega, ⟨by have := h.cap; omega, by have := h.cap; omega⟩, hne', fun a e => ?_⟩, fun a' e => ?_⟩, grownBy_setCell w P 0 _, Rd.setCellP (fun i hi => ?_) h.ne _⟩
  · rcases hA with ⟨hc, _⟩ | ⟨g, o, _, h2⟩
    · omega
    · rw [h2] at e; cases e
  · rcases hA with ⟨_, rfl⟩ | ⟨g, o, _, h2⟩
    · exact h.form a e
    · rw [h2] at e; cases e; exact ⟨_, _, rfl⟩
  · rcases hA with ⟨_, rfl⟩ | ⟨g, o, h1, h2⟩
    · exact ⟨a', e, rfl⟩
    · rw [h2] at e; cases e; exact ⟨_, h1, rfl⟩
  · have hi2 : i < l.length := by rw [List.length_take] at hi; omega
    obtain ⟨b, o', e, hc⟩ := h.rd i hi2
    exact ⟨b, o', e, by rw [hc]; simp⟩

set_option maxHeartbeats 1000000 in
theorem take_ok (P : Nat) (l : List (BitVec 8)) (A : Option Addr) (n c : Nat) (made bad : Bool) (k : Nat) (w : World) (h : PrgR w P l A n c made bad) (hk : k ≤ n) :
    Calls Try.prog 168 #[.pointer (some ⟨P, 0, none⟩), .int .i64 (k : Int)] w (TakeOk w P l A n c made bad k) := by
  have c0 : w.cell? ⟨P, 0, none⟩ = some (.slice A n c) := h.cell rfl
  have f0 := h.free 0
  have hcap := h.cap
  have hnl := h.n_le
  have p1 : ¬ (k : Int) < 0 := by omega
  have p2 : ¬ (n : Int) < (k : Int) := by omega
  have p3 : (k : Int) ≤ (c : Int) := by omega
  have p4 : (k : Int) ≤ (n : Int) := by omega
  have p0 : (0 : Int) ≤ (k : Int) := by omega
  have H := Lib.hid h
  clear h
  by_cases hck : c = k
  · have hp := take_post H.out hk (A' := A) (.inl ⟨hck, rfl⟩)
    have hnk : n = k := by omega
    subst hnk
    subst hck
    simp only [Nat.sub_self] at hp
    have HP := Lib.hid hp
    clear hp
    go_enter Try.func168, Try.ntmps168
    go_wp2
    go_ret
    exact HP.out
  · obtain ⟨ad, rfl⟩ : ∃ ad, A = some ad := by
      cases A with
      | some ad => exact ⟨ad, rfl⟩
      | none => have h1 := H.out.none rfl; omega
    obtain ⟨g, o, rfl⟩ := H.out.form ad rfl
    have hp := take_post H.out hk (A' := some ⟨g, o + k, none⟩) (.inr ⟨g, o, rfl, rfl⟩)
    have HP := Lib.hid hp
    clear hp
    go_enter Try.func168, Try.ntmps168
    go_wp2
    go_ret
    exact HP.out

/-- a number was read -/
def NumOk (w : World) (P : Nat) (l : List (BitVec 8)) (A : Option Addr) (n c : Nat) (made bad : Bool) (e : Ending) (w' : World) : Prop :=
  e = .returned (.int .i64 (M.val (l.take 8))) ∧ (∃ A', PrgR w' P (l.drop 8) A' (n - 8) (c - 8) made bad ∧ ∀ a', A' = some a' → ∃ a, A = some a ∧ a'.block = a.block) ∧ w.grownBy w' (some P)
theorem PrgR.drewN {w : World} {P : Nat} {l : List (BitVec 8)} {A : Option Addr} {n c : Nat} {made bad : Bool} (h : PrgR w P l A n c made bad) (q : Nat) : PrgR (w.drewN q) P l A n c made bad :=
  ⟨h.blk, h.rd, h.len, h.none, h.n_le, h.cap, h.ne, h.form⟩
theorem conv_W64_int' {P : Program} (w : World) (src dst : TypeId) (x : BitVec 64) (hs : P.underlying src = some (.int .u64)) (hd : P.underlying dst = some (.int .i64)) : (convert src dst (W64 x)).run P w = .ok (.int .i64 x.toInt) w := by
  have h : IntKind.i64.wrap (x.toNat : Int) = x.toInt := by
    rw [BitVec.toInt_eq_toNat_bmod]
    simp [IntKind.wrap, IntKind.bits, IntKind.signed, Int.bmod]
    split <;> split <;> omega
  simp [convert, run_underlying hs, run_underlying hd, Conv.intToInt, W64, h]

set_option maxHeartbeats 1000000 in
theorem pnum_bad (P : Nat) (l : List (BitVec 8)) (A : Option Addr) (n c : Nat) (made bad : Bool) (w : World) (h : PrgR w P l A n c made bad) (hn : n < 8) :
    Calls Try.prog 158 #[.pointer (some ⟨P, 0, none⟩)] w fun e w' => e = .panicked shortP ∧ w = w' := by
  have H := Lib.hid h
  clear h
  go_enter Try.func158, Try.ntmps158
  go_wp2_with fail
  refine (take_bad P l A n c made bad 8 w H.out (by omega)).mono ?_
  rintro e w' ⟨rfl, rfl⟩
  go_wp2
  exact ⟨rfl, rfl, rfl⟩

set_option maxHeartbeats 1000000 in
theorem pnum_ok (P : Nat) (l : List (BitVec 8)) (A : Option Addr) (n c : Nat) (made bad : Bool) (w : World) (h : PrgR w P l A n c made bad) (hn : 8 ≤ n) :
    Calls Try.prog 158 #[.pointer (some ⟨P, 0, none⟩)] w (NumOk w P l A n c made bad) := by
  have hlen := h.len
  have H := Lib.hid h; have HLEN := Lib.hid hlen
  clear h hlen
  go_enter Try.func158, Try.ntmps158
  go_wp2_with fail
  refine (take_ok P l A n c made bad 8 w H.out hn).mono ?_
  rintro e w1 ⟨rfl, ⟨A', hpr, hA'⟩, hg, hrd⟩
  have hl8 : (l.take 8).length = 8 := by have := HLEN.out; rw [List.length_take]; omega
  obtain ⟨b, o, rfl, _, hD⟩ := hrd.lay (by omega)
  rw [hl8] at hD
  have HPR := Lib.hid hpr; have HG := Lib.hid hg; have HD := Lib.hid hD; have HL8 := Lib.hid hl8; have HA := Lib.hid hA'
  clear hpr hg hrd hD hl8 hA'
  go_wp2
  go_loopw [3, 5, 9] (fun v _ i wr => ∃ k : Nat, k ≤ 8 ∧ i = .int .i64 (k : Int) ∧ v = W64 (M.w64 ((l.take 8).take k)) ∧ w1 = wr) (fun _ _ i _ => 8 - (intOf i).toNat)
  case atStart => exact ⟨0, by omega, rfl, rfl, rfl⟩
  case round =>
    obtain ⟨k, hk, rfl, rfl, rfl⟩ := hrel
    have k0 : (0 : Int) ≤ (k : Int) := by omega
    rcases Nat.lt_or_ge k 8 with h9 | h9
    · have k1 : (k : Int) < 8 := by omega
      have cx : w1.cell? ⟨b, o + k, none⟩ = some (B8 ((l.take 8).getD k 0)) := HD.out k h9
      go_wp2
      go_roundw
      case rel =>
        refine ⟨k + 1, by omega, by go_num, ?_, by trivial⟩
        have hl := HL8.out
        have hk' : k < (l.take 8).length := by rw [hl]; exact h9
        rw [show (l.take 8).take (k + 1) = (l.take 8).take k ++ [(l.take 8)[k]] from List.take_succ_eq_append_getElem hk', M.w64_snoc, ← M.shift_or]
        have hk2 : k < l.length := by have := HLEN.out; omega
        congr 2
        simp [hk2]
      case measure => simp [intOf]; omega
    · have hk8 : k = 8 := by omega
      have k1 : ¬ (k : Int) < 8 := by omega
      have hcv := fun w => conv_W64_int' (P := Try.prog) w 160 3 (M.w64 ((l.take 8).take k)) Try.underlying160 Try.underlying3
      have HK8 := Lib.hid hk8
      clear hk8
      go_wp2
      go_ret
      refine ⟨?_, ⟨A', HPR.out, HA.out⟩, HG.out⟩
      have e : M.val (l.take 8) = (M.w64 ((l.take 8).take k)).toInt := by rw [HK8.out, List.take_take]; rfl
      rw [e]; rfl
end Go.Proofs.Ytfpjmeknjhhakaa.K

/- The contracts of the program's rest.small and rest.bytes: they read, or panic. -/
namespace Go.Proofs.Ytfpjmeknjhhakaa.K
open Go Go.RowKit

/-- it panicked, and the reader is one still -/
def PBad (w : World) (P : Nat) (made bad : Bool) (e : Ending) (w' : World) : Prop :=
  e = .panicked shortP ∧ (∃ l A n c, PrgR w' P l A n c made bad) ∧ w.grownBy w' (some P)
theorem grown_refl (w : World) (row : Option Nat) : w.grownBy w row := ⟨rfl, rfl, rfl, Nat.le_refl _, fun _ _ _ => rfl⟩
theorem grown_trans' {w w1 w2 : World} {row : Option Nat} (h : w.grownBy w1 row) (h' : w1.grownBy w2 row) : w.grownBy w2 row :=
  ⟨h'.os.trans h.os, h'.tape.trans h.tape, h'.output.trans h.output, Nat.le_trans h.size h'.size, fun k hk hne => (h'.block k (Nat.lt_of_lt_of_le hk h.size) hne).trans (h.block k hk hne)⟩
theorem pnum_bad' (P : Nat) (l : List (BitVec 8)) (A : Option Addr) (n c : Nat) (made bad : Bool) (w : World) (h : PrgR w P l A n c made bad) (hn : n < 8) :
    Calls Try.prog 158 #[.pointer (some ⟨P, 0, none⟩)] w (PBad w P made bad) :=
  (pnum_bad P l A n c made bad w h hn).mono fun e w' ⟨he, hw⟩ => by subst hw; exact ⟨he, ⟨l, A, n, c, h⟩, grown_refl _ _⟩

set_option maxHeartbeats 1000000 in
theorem small_ok (P : Nat) (l : List (BitVec 8)) (A : Option Addr) (n c : Nat) (made bad : Bool) (most : Int) (w : World) (h : PrgR w P l A n c made bad) (hn : 8 ≤ n) (h0 : 0 ≤ M.val (l.take 8)) (h1 : M.val (l.take 8) ≤ most) :
    Calls Try.prog 159 #[.pointer (some ⟨P, 0, none⟩), .int .i64 most] w (NumOk w P l A n c made bad) := by
  obtain ⟨v, hv⟩ : ∃ v, v = M.val (l.take 8) := ⟨_, rfl⟩
  rw [← hv] at h0 h1
  have g0 : ¬ v < 0 := by omega
  have g1 : ¬ most < v := by omega
  have H := Lib.hid h; have HV := Lib.hid hv
  clear h hv
  go_enter Try.func159, Try.ntmps159
  go_wp2_with fail
  refine (pnum_ok P l A n c made bad w H.out hn).mono ?_
  rintro e w1 ⟨rfl, hp, hg⟩
  rw [← HV.out]
  have HP := Lib.hid hp; have HG := Lib.hid hg
  clear hp hg
  go_wp2
  go_ret
  exact ⟨by rw [← HV.out]; rfl, HP.out, HG.out⟩
set_option maxHeartbeats 1000000 in
theorem small_bad (P : Nat) (l : List (BitVec 8)) (A : Option Addr) (n c : Nat) (made bad : Bool) (most : Int) (w : World) (h : PrgR w P l A n c made bad) (hb : n < 8 ∨ (8 ≤ n ∧ (M.val (l.take 8) < 0 ∨ most < M.val (l.take 8)))) :
    Calls Try.prog 159 #[.pointer (some ⟨P, 0, none⟩), .int .i64 most] w (PBad w P made bad) := by
  have H := Lib.hid h
  clear h
  rcases hb with hn | ⟨hn, hb⟩
  · go_enter Try.func159, Try.ntmps159
    go_wp2_with fail
    refine (pnum_bad' P l A n c made bad w H.out hn).mono ?_
    rintro e w1 ⟨rfl, hp, hg⟩
    have HP := Lib.hid hp; have HG := Lib.hid hg
    clear hp hg
    go_wp2
    exact ⟨rfl, rfl, HP.out, HG.out⟩
  · obtain ⟨v, hv⟩ : ∃ v, v = M.val (l.take 8) := ⟨_, rfl⟩
    rw [← hv] at hb
    have HV := Lib.hid hv
    clear hv
    rcases hb with hb | hb
    · have d1 : decide (v < 0) = true := by simpa using hb
      go_enter Try.func159, Try.ntmps159
      go_wp2_with fail
      refine (pnum_ok P l A n c made bad w H.out hn).mono ?_
      rintro e w1 ⟨rfl, ⟨A', hp, _⟩, hg⟩
      rw [← HV.out]
      have HP := Lib.hid hp; have HG := Lib.hid hg
      clear hp hg
      go_wp2
      exact ⟨rfl, rfl, ⟨_, _, _, _, HP.out⟩, HG.out⟩
    · by_cases hv0 : v < 0
      · have d1 : decide (v < 0) = true := by simpa using hv0
        go_enter Try.func159, Try.ntmps159
        go_wp2_with fail
        refine (pnum_ok P l A n c made bad w H.out hn).mono ?_
        rintro e w1 ⟨rfl, ⟨A', hp, _⟩, hg⟩
        rw [← HV.out]
        have HP := Lib.hid hp; have HG := Lib.hid hg
        clear hp hg
        go_wp2
        exact ⟨rfl, rfl, ⟨_, _, _, _, HP.out⟩, HG.out⟩
      · have d1 : decide (v < 0) = false := by simpa using hv0
        have d2 : decide (most < v) = true := by simpa using hb
        go_enter Try.func159, Try.ntmps159
        go_wp2_with fail
        refine (pnum_ok P l A n c made bad w H.out hn).mono ?_
        rintro e w1 ⟨rfl, ⟨A', hp, _⟩, hg⟩
        rw [← HV.out]
        have HP := Lib.hid hp; have HG := Lib.hid hg
        clear hp hg
        go_wp2
        exact ⟨rfl, rfl, ⟨_, _, _, _, HP.out⟩, HG.out⟩

/-- bytes were read -/
def BytOk (w : World) (P : Nat) (l : List (BitVec 8)) (A : Option Addr) (made bad : Bool) (e : Ending) (w' : World) : Prop :=
  ∃ B m c' A' n2 c2 l', e = .returned (.slice B m c') ∧ w'.ownsRow w.heap.size 5 1 (.slice B m c') m (bv (M.rdBytes (some l)).1) ∧ (M.rdBytes (some l)).2 = some l' ∧ PrgR w' P l' A' n2 c2 made bad ∧ (∀ a', A' = some a' → ∃ a, A = some a ∧ a'.block = a.block) ∧ w.grownBy w' (some P)
theorem PrgR.grown {w w' : World} {P : Nat} {l : List (BitVec 8)} {A : Option Addr} {n c : Nat} {made bad : Bool} (h : PrgR w P l A n c made bad) {row : Option Nat} (hg : w.grownBy w' row) (hR : row ≠ some P) (hA : ∀ a, A = some a → row ≠ some a.block) : PrgR w' P l A n c made bad := by
  obtain ⟨t, hb⟩ := h.blk
  refine ⟨⟨t, (hg.block P (Array.getElem?_eq_some_iff.1 hb).1 (Ne.symm hR)).trans hb⟩, fun k hk => ?_, h.len, h.none, h.n_le, h.cap, h.ne, h.form⟩
  obtain ⟨b, o, e, hc⟩ := h.rd k hk
  exact ⟨b, o, e, hg.cell hc (Ne.symm (hA ⟨b, o, Option.none⟩ e))⟩

set_option maxHeartbeats 1000000 in
theorem bytes_bad (P : Nat) (l : List (BitVec 8)) (A : Option Addr) (n c : Nat) (made bad : Bool) (w : World) (h : PrgR w P l A n c made bad) (hb : (M.rdBytes (some l)).2 = none) :
    Calls Try.prog 160 #[.pointer (some ⟨P, 0, none⟩)] w (PBad w P made bad) := by
  have hlen := h.len
  have hga := World.grownBy_alloc w (.cells #[] 5)
  have h0 := h.grown (hga none) (by simp) (fun _ _ => by simp)
  have H0 := Lib.hid h0; have HGA := Lib.hid (hga (some P))
  clear h h0 hga
  rcases Nat.lt_or_ge n 8 with h8 | h8
  · go_enter Try.func160, Try.ntmps160
    go_wp2_with fail
    refine (pnum_bad' P l A n c made bad _ H0.out h8).mono ?_
    rintro e w1 ⟨rfl, hp, hg⟩
    have HP := Lib.hid hp; have HG := Lib.hid (grown_trans' HGA.out hg)
    clear hp hg
    go_wp2
    exact ⟨rfl, rfl, HP.out, HG.out⟩
  · have hv : M.val (l.take 8) < 0 ∨ ((n - 8 : Nat) : Int) < M.val (l.take 8) := by
      simp only [M.rdBytes, M.rdNumber] at hb
      rw [if_neg (by omega)] at hb
      simp only at hb
      split at hb
      · rename_i h'; rw [List.length_drop, hlen] at h'; exact h'
      · cases hb
    obtain ⟨v, hvv⟩ : ∃ v, v = M.val (l.take 8) := ⟨_, rfl⟩
    rw [← hvv] at hv
    have HV := Lib.hid hvv
    clear hvv hb hlen
    go_enter Try.func160, Try.ntmps160
    go_wp2_with fail
    refine (pnum_ok P l A n c made bad _ H0.out h8).mono ?_
    rintro e w1 ⟨rfl, ⟨A', hp, _⟩, hg⟩
    rw [← HV.out]
    have HP := Lib.hid hp; have HG := Lib.hid (grown_trans' HGA.out hg)
    clear hp hg
    go_wp2_with fail
    refine (take_bad P (l.drop 8) A' (n - 8) (c - 8) made bad v w1 HP.out hv).mono ?_
    rintro e w2 ⟨rfl, rfl⟩
    go_wp2
    exact ⟨rfl, rfl, ⟨_, _, _, _, HP.out⟩, HG.out⟩

theorem grown_more {w w2 w3 : World} {P X : Nat} (h : w.grownBy w2 (some P)) (h' : w2.grownBy w3 (some X)) (hX : w.heap.size ≤ X) : w.grownBy w3 (some P) :=
  ⟨h'.os.trans h.os, h'.tape.trans h.tape, h'.output.trans h.output, Nat.le_trans h.size h'.size, fun k hk hne => (h'.block k (Nat.lt_of_lt_of_le hk h.size) (by simp; omega)).trans (h.block k hk hne)⟩
theorem PrgR.lt {w : World} {P : Nat} {l : List (BitVec 8)} {A : Option Addr} {n c : Nat} {made bad : Bool} (h : PrgR w P l A n c made bad) : P < w.heap.size := by
  obtain ⟨t, hb⟩ := h.blk
  exact (Array.getElem?_eq_some_iff.1 hb).1

theorem away {w : World} {A0 A1 A2 : Option Addr} (h0 : ∀ a, A0 = some a → a.block < w.heap.size) (h1 : ∀ a', A1 = some a' → ∃ a, A0 = some a ∧ a'.block = a.block) (h2 : ∀ a', A2 = some a' → ∃ a, A1 = some a ∧ a'.block = a.block) : ∀ a, A2 = some a → some w.heap.size ≠ some a.block := by
  intro a e
  obtain ⟨a1, e1, g1⟩ := h2 a e
  obtain ⟨a0, e0, g0⟩ := h1 a1 e1
  have := h0 a0 e0
  simp; omega
set_option maxHeartbeats 1000000 in
set_option maxRecDepth 100000 in
theorem bytes_ok (P : Nat) (l : List (BitVec 8)) (A : Option Addr) (n c : Nat) (made bad : Bool) (w : World) (l' : List (BitVec 8)) (h : PrgR w P l A n c made bad) (hAB : ∀ a, A = some a → a.block < w.heap.size) (hb : (M.rdBytes (some l)).2 = some l') :
    Calls Try.prog 160 #[.pointer (some ⟨P, 0, none⟩)] w (BytOk w P l A made bad) := by
  obtain ⟨i0, hi, hz0, hz1, hz2⟩ := info_parts infoByte
  have hlen := h.len
  have hnl := h.n_le
  have hPl := h.lt
  have hga := World.grownBy_alloc w (.cells #[] 5)
  have h0 := h.grown (hga none) (by simp) (fun _ _ => by simp)
  have hrow := own_lit0 (w := w) (base := w.heap.size) (e := 5) (Nat.le_refl _)
  have hv : 8 ≤ n ∧ 0 ≤ M.val (l.take 8) ∧ M.val (l.take 8) ≤ ((n - 8 : Nat) : Int) ∧ M.rdBytes (some l) = ((l.drop 8).take (M.val (l.take 8)).toNat, some ((l.drop 8).drop (M.val (l.take 8)).toNat)) := by
    simp only [M.rdBytes, M.rdNumber] at hb ⊢
    by_cases h8 : l.length < 8
    · rw [if_pos h8] at hb; cases hb
    · rw [if_neg h8] at hb ⊢
      simp only at hb ⊢
      by_cases hc : M.val (l.take 8) < 0 ∨ ((l.drop 8).length : Int) < M.val (l.take 8)
      · rw [if_pos hc] at hb; cases hb
      · rw [if_neg hc]
        rw [List.length_drop, hlen] at hc
        exact ⟨by omega, by omega, by omega, rfl⟩
  obtain ⟨h8, hv0, hv1, hrb⟩ := hv
  obtain ⟨m, hm⟩ : ∃ m : Nat, M.val (l.take 8) = (m : Int) := ⟨(M.val (l.take 8)).toNat, by omega⟩
  rw [hm] at hrb hv1
  rw [Int.toNat_natCast] at hrb
  have hm1 : m ≤ n - 8 := by omega
  have HRB := Lib.hid hrb; have H0 := Lib.hid h0; have HGA := Lib.hid (hga (some P)); have HROW := Lib.hid hrow; have HM := Lib.hid hm; have HAB := Lib.hid hAB; have HLEN := Lib.hid hlen
  clear h h0 hga hrow hb hrb hm hv0 hv1 hAB hlen
  go_enter Try.func160, Try.ntmps160
  go_wp2_with fail
  refine (pnum_ok P l A n c made bad _ H0.out h8).mono ?_
  rintro e w1 ⟨rfl, ⟨A1, hp, hA1⟩, hg⟩
  rw [HM.out]
  have HP := Lib.hid hp; have HG := Lib.hid (grown_trans' HGA.out hg); have HA1 := Lib.hid hA1
  have HROW1 := Lib.hid (World.ownsRow.kept HROW.out hg (.inr (by simp [Value.ownBlock]; omega)))
  clear hp hg hA1 HROW
  go_wp2_with fail
  refine (take_ok P (l.drop 8) A1 (n - 8) (c - 8) made bad m w1 HP.out hm1).mono ?_
  rintro e w2 ⟨rfl, ⟨A2, hp2, hA2⟩, hg2, hrd2⟩
  have hcs := hrd2.cells
  have hlm : ((l.drop 8).take m).length = m := by have := HLEN.out; rw [List.length_take, List.length_drop]; omega
  have hl2 : (bv ((l.drop 8).take m)).length = m * 1 := by rw [bv_length, hlm]; omega
  have hnn : A1 = none → m = 0 ∧ c - 8 = 0 := fun e => ⟨by
    rw [e] at hrd2
    rw [hrd2.empty] at hlm; exact hlm.symm, HP.out.none e⟩
  have hs2 : w.heap.size ≤ w2.heap.size := Nat.le_trans HG.out.size hg2.size
  have HP2 := Lib.hid hp2; have HG2 := Lib.hid (grown_trans' HG.out hg2); have HA2 := Lib.hid hA2; have HCS := Lib.hid hcs; have HL2 := Lib.hid hl2; have HNN := Lib.hid hnn
  have HROW2 := Lib.hid (World.ownsRow.kept HROW1.out hg2 (.inr (by simp [Value.ownBlock]; omega)))
  clear hp2 hg2 hA2 hrd2 hcs hlm hl2 hnn HROW1 HP HG
  go_wp2_with (at_builtin; refine wpList_append_any _ rfl _ _ 27 rfl w.heap.size 5 i0 (.int .u8 0) 1 1 Try.underlying27 hi hz0 hz1 hz2 rfl (by decide) _ 0 (bv []) rfl HROW2.out A1 m (c - 8) (bv ((l.drop 8).take m)) rfl HNN.out HL2.out HCS.out (bv_one _) (by unfold maxLen; omega) (by omega) hs2 ?_; intro v3 w3 hown3 hgrow3; rw [← bv_append, List.nil_append, Nat.zero_add] at hown3; obtain ⟨B3, d3, rfl⟩ := row_slice hown3; have hgrow4 : w2.grownBy w3 (some w.heap.size) := hgrow3; have HG3 := Lib.hid (grown_more HG2.out hgrow4 (Nat.le_refl _)); have HP3 := Lib.hid (HP2.out.grown hgrow4 (fun e => by (cases e; omega)) (away HAB.out HA1.out HA2.out)); have HO3 := Lib.hid hown3; clear hown3 hgrow3 hgrow4)
  go_ret
  refine ⟨B3, m, d3, A2, _, _, (l.drop 8).drop m, rfl, by rw [HRB.out]; exact HO3.out, by rw [HRB.out], HP3.out, fun a e => ?_, HG3.out⟩
  obtain ⟨a1, e1, h1⟩ := HA2.out a e
  obtain ⟨a0, e0, h0⟩ := HA1.out a1 e1
  exact ⟨a0, e0, h1.trans h0⟩
end Go.Proofs.Ytfpjmeknjhhakaa.K

/- The deferred closures of wire.reads. -/
namespace Go.Proofs.Ytfpjmeknjhhakaa.K
open Go Go.RowKit

theorem tmps21 (a b x : Value) : (#[a, b] ++ ((Array.replicate 19 undef).setIfInBounds 4 x).setIfInBounds 0 x) = #[a, b, x, undef, undef, undef, x, undef, undef, undef, undef, undef, undef, undef, undef, undef, undef, undef, undef, undef, undef] := by
  apply Array.toList_inj.1
  simp [List.replicate]
theorem catchInt_idle (p q : Addr) (w : World) :
    CallsD Try.prog 169 #[.pointer (some p), .pointer (some q)] .returning w fun e u' w' => e = .returned (.tuple #[]) ∧ u' = .returning ∧ w' = w := by
  refine callsD_of_wpS Try.func169 rfl fun c₀ cs hu => ?_
  apply wpS_seq
  apply wpS_region
  simp [wpOpsS, go_sem, recoverD, hu, Try.ntmps169, Exit.thenS]
  refine wpS_of_wp ?_
  rw [tmps21]
  go_wp2
  cases c₀
  simp_all [bodyPostS, results, Try.results169]
set_option maxHeartbeats 1000000 in
set_option maxRecDepth 100000 in
theorem catchInt_panicking (O R P : Nat) (x : Int) (A : Option Addr) (l : List (BitVec 8)) (n c : Nat) (w : World) (ho : w.cell? ⟨O, 0, none⟩ = some (.int .i64 x)) (hof : w.frozen? ⟨O, 0, none⟩ = false) (hr : w.cell? ⟨R, 0, none⟩ = some (.pointer (some ⟨P, 0, none⟩))) (hp : PrgR w P l A n c true false) (hOP : O ≠ P) :
    CallsD Try.prog 169 #[.pointer (some ⟨O, 0, none⟩), .pointer (some ⟨R, 0, none⟩)] (.panicking shortP) w fun e u' w' =>
      e = .returned (.tuple #[]) ∧ u' = .panicking [{ v := .iface 283 (.agg #[]), recovered := true }] ∧ w' = ((w.alloc (.cells #[] 283)).setCell ⟨O, 0, none⟩ (.int .i64 0)).setCell ⟨P, 2, none⟩ (.bool true) := by
  have hta : ∀ w, (Instr.typeAssert (.iface 283 (.agg #[])) 20 283 true).run Try.prog w = .ok (.tuple #[.agg #[], .bool true]) w := fun _ => by kernel_rfl
  refine callsD_of_wpS Try.func169 rfl fun c₀ cs hu => ?_
  unfold shortP at hu
  have d0 : w.cell? ⟨P, 2, none⟩ = some (.bool false) := hp.cell rfl
  have hr' := cell_old (.cells #[] 283) hr
  have ho' := cell_old (.cells #[] 283) ho
  have hof' : (w.alloc (.cells #[] 283)).frozen? ⟨O, 0, none⟩ = false := (((Below.refl w.heap.size w).alloc (Nat.le_refl _) (.cells #[] 283)).frozen (p := ⟨O, 0, none⟩) (block_lt_of_cell ho)).trans hof
  have d2 : ((w.alloc (.cells #[] 283)).setCell ⟨O, 0, none⟩ (.int .i64 0)).cell? ⟨P, 2, none⟩ = some (.bool false) := (cell_setCell_ne _ (fun e => hOP e.symm)).trans (cell_old _ d0)
  have f2 : (w.alloc (.cells #[] 283)).frozen? ⟨P, 2, none⟩ = false := (((Below.refl w.heap.size w).alloc (Nat.le_refl _) (.cells #[] 283)).frozen (p := ⟨P, 2, none⟩) (block_lt_of_cell d0)).trans (hp.free 2)
  clear hp d0 hr ho hof
  apply wpS_seq
  apply wpS_region
  simp [wpOpsS, go_sem, recoverD, hu, Try.ntmps169, Exit.thenS]
  refine wpS_of_wp ?_
  rw [tmps21]
  go_wp2
  cases c₀
  simp_all [bodyPostS, results, Try.results169]
end Go.Proofs.Ytfpjmeknjhhakaa.K

/- The contracts of the program's reader: Bad, Number. -/
namespace Go.Proofs.Ytfpjmeknjhhakaa.K
open Go Go.RowKit

theorem pBad_nil (w : World) : Calls Try.prog 125 #[.pointer none] w fun e w' => e = .returned (.bool true) ∧ w = w' := by
  go_enter Try.func125, Try.ntmps125
  go_wp2
  go_ret
  exact ⟨rfl, rfl⟩
theorem pBad_any (P : Nat) (l : List (BitVec 8)) (A : Option Addr) (n c : Nat) (bad : Bool) (w : World) (h : PrgR w P l A n c true bad) : Calls Try.prog 125 #[.pointer (some ⟨P, 0, none⟩)] w fun e w' => e = .returned (.bool bad) ∧ w = w' := by
  have c1 : w.cell? ⟨P, 1, none⟩ = some (.bool true) := h.cell rfl
  have c2 : w.cell? ⟨P, 2, none⟩ = some (.bool bad) := h.cell rfl
  clear h
  go_enter Try.func125, Try.ntmps125
  go_wp2
  go_ret
  exact ⟨rfl, rfl⟩
theorem pBad_unmade (P : Nat) (l : List (BitVec 8)) (A : Option Addr) (n c : Nat) (bad : Bool) (w : World) (h : PrgR w P l A n c false bad) : Calls Try.prog 125 #[.pointer (some ⟨P, 0, none⟩)] w fun e w' => e = .returned (.bool true) ∧ w = w' := by
  have c1 : w.cell? ⟨P, 1, none⟩ = some (.bool false) := h.cell rfl
  clear h
  go_enter Try.func125, Try.ntmps125
  go_wp2
  go_ret
  exact ⟨rfl, rfl⟩

theorem closNum_ok (Bx P : Nat) (l : List (BitVec 8)) (A : Option Addr) (n c : Nat) (made bad : Bool) (w : World) (h : PrgR w P l A n c made bad) (hb : w.cell? ⟨Bx, 0, none⟩ = some (.pointer (some ⟨P, 0, none⟩))) (hn : 8 ≤ n) :
    Calls Try.prog 167 #[.pointer (some ⟨Bx, 0, none⟩)] w (NumOk w P l A n c made bad) := by
  have H := Lib.hid h
  clear h
  go_enter Try.func167, Try.ntmps167
  go_wp2_with fail
  refine (pnum_ok P l A n c made bad w H.out hn).mono ?_
  rintro e w1 ⟨rfl, hp, hg⟩
  have HP := Lib.hid hp; have HG := Lib.hid hg
  clear hp hg
  go_wp2
  go_ret
  exact ⟨rfl, HP.out, HG.out⟩
theorem closNum_bad (Bx P : Nat) (l : List (BitVec 8)) (A : Option Addr) (n c : Nat) (made bad : Bool) (w : World) (h : PrgR w P l A n c made bad) (hb : w.cell? ⟨Bx, 0, none⟩ = some (.pointer (some ⟨P, 0, none⟩))) (hn : n < 8) :
    Calls Try.prog 167 #[.pointer (some ⟨Bx, 0, none⟩)] w (PBad w P made bad) := by
  have H := Lib.hid h
  clear h
  go_enter Try.func167, Try.ntmps167
  go_wp2_with fail
  refine (pnum_bad' P l A n c made bad w H.out hn).mono ?_
  rintro e w1 ⟨rfl, hp, hg⟩
  have HP := Lib.hid hp; have HG := Lib.hid hg
  clear hp hg
  go_wp2
  exact ⟨rfl, rfl, HP.out, HG.out⟩

/-- a reader, wherever it stands -/
def PrgN (w : World) (P : Nat) (s : M.Rdr) (A0 : Option Addr) : Prop :=
  ∃ l A n c, (match s with | some l' => PrgR w P l A n c true false ∧ l = l' ∧ (∀ a, A = some a → ∃ a0, A0 = some a0 ∧ a.block = a0.block) | none => ∃ t, w.heap[P]? = some (.cells (readP A n c true true).toArray t (0, 0)))

/-- a number was got, or nothing -/
def GotNum (w : World) (P : Nat) (s : M.Rdr) (A0 : Option Addr) (e : Ending) (w' : World) : Prop := e = .returned (.int .i64 (M.rdNumber s).1) ∧ PrgN w' P (M.rdNumber s).2 A0 ∧ w.grownBy w' (some P)
set_option maxHeartbeats 1000000 in
set_option maxRecDepth 100000 in
theorem readsInt_ok (Bx P : Nat) (l : List (BitVec 8)) (A : Option Addr) (n c : Nat) (w : World) (h : PrgR w P l A n c true false) (hb : w.cell? ⟨Bx, 0, none⟩ = some (.pointer (some ⟨P, 0, none⟩))) (hn : 8 ≤ n) (hAB : ∀ a, A = some a → a.block < w.heap.size) (hBP : Bx ≠ P) :
    Calls Try.prog 166 #[.pointer (some ⟨P, 0, none⟩), .func (.func 167) #[] #[.pointer (some ⟨Bx, 0, none⟩)]] w (GotNum w P (some l) A) := by
  have hmf : ∀ (fn : Fn) (first cap : Array Value) (w : World), (Instr.makeFunc fn first cap).run Try.prog w = .ok (.func fn first cap) w := fun _ _ _ _ => rfl
  have hPl := h.lt
  have hBl := block_lt_of_cell hb
  have hga : w.grownBy ((w.alloc (.cells #[.pointer (some ⟨P, 0, none⟩)] 151)).alloc (.cells #[.int .i64 0] 3)) none := ⟨rfl, rfl, rfl, by simp; omega, fun k hk _ => (heap_alloc_old _ _ (by simp; omega)).trans (heap_alloc_old w _ hk)⟩
  have h2 := h.grown hga (by simp) (fun _ _ => by simp)
  have hb2 := hga.cell hb (by simp)
  have ho2 : ((w.alloc (.cells #[.pointer (some ⟨P, 0, none⟩)] 151)).alloc (.cells #[.int .i64 0] 3)).heap[w.heap.size + 1]? = some (.cells #[.int .i64 0] 3 (0, 0)) := heap_alloc2_new w _ _
  have hsz2 : ((w.alloc (.cells #[.pointer (some ⟨P, 0, none⟩)] 151)).alloc (.cells #[.int .i64 0] 3)).heap.size = w.heap.size + 2 := by simp
  have H := Lib.hid h2; have HB := Lib.hid hb2; have HGA := Lib.hid hga; have HO2 := Lib.hid ho2; have HSZ2 := Lib.hid hsz2; have HAB := Lib.hid hAB
  clear h hb h2 hb2 hga ho2 hsz2 hAB
  go_enter_defers Try.func166, Try.ntmps166
  go_wp2_with fail
  refine (pBad_any P l A n c false _ H.out).mono ?_
  rintro e w1 ⟨rfl, rfl⟩
  go_wp2_with fail
  refine (closNum_ok Bx P l A n c true false _ H.out HB.out hn).mono ?_
  rintro e w1 ⟨rfl, ⟨A', hp, hA'⟩, hg⟩
  have hob : w1.heap[w.heap.size + 1]? = some (.cells #[.int .i64 0] 3 (0, 0)) := (hg.block _ (by rw [HSZ2.out]; omega) (by simp; omega)).trans HO2.out
  have hoc : w1.cell? ⟨w.heap.size + 1, 0, none⟩ = some (.int .i64 0) := block_cell (xs := [.int .i64 0]) hob rfl
  have hof : w1.frozen? ⟨w.heap.size + 1, 0, none⟩ = false := frozen_of_row w1 _ 0 _ _ hob
  have HP := Lib.hid hp; have HA' := Lib.hid hA'; have HG := Lib.hid hg; have HOB := Lib.hid hob
  clear hp hA' hg hob
  go_wp2
  have hoc2 : (w1.setCell ⟨w.heap.size + 1, 0, none⟩ (.int .i64 (M.val (l.take 8)))).cell? ⟨w.heap.size + 1, 0, none⟩ = some (.int .i64 (M.val (l.take 8))) := World.cell?_setCell_same _ _ _ hoc
  refine leaves_cons (f := 169) (args := #[.pointer (some ⟨w.heap.size + 1, 0, none⟩), .pointer (some ⟨w.heap.size, 0, none⟩)]) (by simp) (by simp [go_sem]) ?_
  refine (catchInt_idle _ _ _).mono ?_
  rintro e u' w'' ⟨rfl, rfl, rfl⟩
  have hfin : GotNum w P (some l) A (.returned (.int .i64 (M.val (l.take 8)))) (w1.setCell ⟨w.heap.size + 1, 0, none⟩ (.int .i64 (M.val (l.take 8)))) := by
    have hr : M.rdNumber (some l) = (M.val (l.take 8), some (l.drop 8)) := by
      simp only [M.rdNumber]; rw [if_neg (by have := H.out.len; omega)]
    refine ⟨by rw [hr], ?_, ?_⟩
    · rw [hr]
      refine ⟨_, A', _, _, HP.out.grown (grownBy_setCell w1 (w.heap.size + 1) 0 _) (by simp; omega) (fun a e => ?_), rfl, HA'.out⟩
      obtain ⟨a0, e0, h0⟩ := HA'.out a e
      have := HAB.out a0 e0
      simp; omega
    · refine grown_more (X := w.heap.size + 1) (grown_trans' ⟨HGA.out.os, HGA.out.tape, HGA.out.output, HGA.out.size, fun k hk _ => HGA.out.block k hk (by simp)⟩ HG.out) (grownBy_setCell w1 (w.heap.size + 1) 0 _) (by omega)
  have HFIN := Lib.hid hfin
  clear hfin
  simp [Leaves, settle, results, Try.results166, go_sem, hoc2]
  exact HFIN.out

set_option maxHeartbeats 1000000 in
set_option maxRecDepth 100000 in
theorem readsInt_bad (Bx P : Nat) (l : List (BitVec 8)) (A : Option Addr) (n c : Nat) (w : World) (h : PrgR w P l A n c true false) (hb : w.cell? ⟨Bx, 0, none⟩ = some (.pointer (some ⟨P, 0, none⟩))) (hn : n < 8) (hBP : Bx ≠ P) :
    Calls Try.prog 166 #[.pointer (some ⟨P, 0, none⟩), .func (.func 167) #[] #[.pointer (some ⟨Bx, 0, none⟩)]] w (GotNum w P (some l) A) := by
  have hmf : ∀ (fn : Fn) (first cap : Array Value) (w : World), (Instr.makeFunc fn first cap).run Try.prog w = .ok (.func fn first cap) w := fun _ _ _ _ => rfl
  have hPl := h.lt
  have hlen := h.len
  have hga : w.grownBy ((w.alloc (.cells #[.pointer (some ⟨P, 0, none⟩)] 151)).alloc (.cells #[.int .i64 0] 3)) none := ⟨rfl, rfl, rfl, by simp; omega, fun k hk _ => (heap_alloc_old _ _ (by simp; omega)).trans (heap_alloc_old w _ hk)⟩
  have h2 := h.grown hga (by simp) (fun _ _ => by simp)
  have hb2 := hga.cell hb (by simp)
  have ho2 : ((w.alloc (.cells #[.pointer (some ⟨P, 0, none⟩)] 151)).alloc (.cells #[.int .i64 0] 3)).heap[w.heap.size + 1]? = some (.cells #[.int .i64 0] 3 (0, 0)) := heap_alloc2_new w _ _
  have hr2 : ((w.alloc (.cells #[.pointer (some ⟨P, 0, none⟩)] 151)).alloc (.cells #[.int .i64 0] 3)).heap[w.heap.size]? = some (.cells #[.pointer (some ⟨P, 0, none⟩)] 151 (0, 0)) := heap_alloc2_old w _ _
  have hsz2 : ((w.alloc (.cells #[.pointer (some ⟨P, 0, none⟩)] 151)).alloc (.cells #[.int .i64 0] 3)).heap.size = w.heap.size + 2 := by simp
  have H := Lib.hid h2; have HB := Lib.hid hb2; have HGA := Lib.hid hga; have HO2 := Lib.hid ho2; have HR2 := Lib.hid hr2; have HSZ2 := Lib.hid hsz2; have HLEN := Lib.hid hlen
  clear h hb h2 hb2 hga ho2 hr2 hsz2 hlen
  go_enter_defers Try.func166, Try.ntmps166
  go_wp2_with fail
  refine (pBad_any P l A n c false _ H.out).mono ?_
  rintro e w1 ⟨rfl, rfl⟩
  go_wp2_with fail
  refine (closNum_bad Bx P l A n c true false _ H.out HB.out hn).mono ?_
  rintro e w1 ⟨rfl, ⟨l1, A1, n1, c1, hp⟩, hg⟩
  have hob : w1.heap[w.heap.size + 1]? = some (.cells #[.int .i64 0] 3 (0, 0)) := (hg.block _ (by rw [HSZ2.out]; omega) (by simp; omega)).trans HO2.out
  have hrb : w1.heap[w.heap.size]? = some (.cells #[.pointer (some ⟨P, 0, none⟩)] 151 (0, 0)) := (hg.block _ (by rw [HSZ2.out]; omega) (by simp; omega)).trans HR2.out
  have hoc : w1.cell? ⟨w.heap.size + 1, 0, none⟩ = some (.int .i64 0) := block_cell (xs := [.int .i64 0]) hob rfl
  have hrc : w1.cell? ⟨w.heap.size, 0, none⟩ = some (.pointer (some ⟨P, 0, none⟩)) := block_cell (xs := [.pointer (some ⟨P, 0, none⟩)]) hrb rfl
  have hof : w1.frozen? ⟨w.heap.size + 1, 0, none⟩ = false := frozen_of_row w1 _ 0 _ _ hob
  have HP := Lib.hid hp; have HG := Lib.hid hg; have HOC := Lib.hid hoc; have HRC := Lib.hid hrc; have HOF := Lib.hid hof
  clear hp hg hob hrb hoc hrc hof
  go_wp2
  refine leaves_cons (f := 169) (args := #[.pointer (some ⟨w.heap.size + 1, 0, none⟩), .pointer (some ⟨w.heap.size, 0, none⟩)]) (by simp) (by simp [go_sem]) ?_
  refine (catchInt_panicking (w.heap.size + 1) w.heap.size P 0 A1 l1 n1 c1 _ HOC.out HOF.out HRC.out HP.out (by omega)).mono ?_
  rintro e u' w'' ⟨rfl, rfl, rfl⟩
  have hPl1 := HP.out.lt
  have hw2 : w1.grownBy (w1.alloc (.cells #[] 283)) none := World.grownBy_alloc w1 _ _
  have hlt1 := block_lt_of_cell HOC.out
  have hoc2 : (((w1.alloc (.cells #[] 283)).setCell ⟨w.heap.size + 1, 0, none⟩ (.int .i64 0)).setCell ⟨P, 2, none⟩ (.bool true)).cell? ⟨w.heap.size + 1, 0, none⟩ = some (.int .i64 0) := (cell_setCell_ne _ (by omega)).trans (World.cell?_setCell_same _ _ _ (cell_old _ HOC.out))
  have hfin : GotNum w P (some l) A (.returned (.int .i64 0)) (((w1.alloc (.cells #[] 283)).setCell ⟨w.heap.size + 1, 0, none⟩ (.int .i64 0)).setCell ⟨P, 2, none⟩ (.bool true)) := by
    have hr : M.rdNumber (some l) = (0, none) := by
      simp only [M.rdNumber]; rw [if_pos (by have := HLEN.out; omega)]
    refine ⟨by rw [hr], ?_, ?_⟩
    · rw [hr]
      obtain ⟨t, hblk⟩ := HP.out.blk
      have hblk2 : ((w1.alloc (.cells #[] 283)).setCell ⟨w.heap.size + 1, 0, none⟩ (.int .i64 0)).heap[P]? = some (.cells (readP A1 n1 c1 true false).toArray t (0, 0)) := (heap_setCell_other _ ⟨w.heap.size + 1, 0, none⟩ P _ (by simp; omega)).trans ((heap_alloc_old w1 _ hPl1).trans hblk)
      exact ⟨[], A1, n1, c1, t, block_set hblk2 2 _⟩
    · have g1 : w.grownBy w1 (some P) := grown_trans' ⟨HGA.out.os, HGA.out.tape, HGA.out.output, HGA.out.size, fun k hk _ => HGA.out.block k hk (by simp)⟩ HG.out
      have g2 : w.grownBy (w1.alloc (.cells #[] 283)) (some P) := grown_trans' g1 (World.grownBy_alloc w1 _ _)
      have g3 := grown_more g2 (grownBy_setCell (w1.alloc (.cells #[] 283)) (w.heap.size + 1) 0 (.int .i64 0)) (by omega)
      exact grown_trans' g3 (grownBy_setCell _ P 2 _)
  have HFIN := Lib.hid hfin
  clear hfin
  simp [Leaves, settle, results, Try.results166, go_sem, hoc2]
  exact HFIN.out

theorem pBad_bad (P : Nat) (A : Option Addr) (n c : Nat) (w : World) (h : ∃ t, w.heap[P]? = some (.cells (readP A n c true true).toArray t (0, 0))) : Calls Try.prog 125 #[.pointer (some ⟨P, 0, none⟩)] w fun e w' => e = .returned (.bool true) ∧ w = w' := by
  obtain ⟨t, hb⟩ := h
  have c1 : w.cell? ⟨P, 1, none⟩ = some (.bool true) := block_cell hb rfl
  have c2 : w.cell? ⟨P, 2, none⟩ = some (.bool true) := block_cell hb rfl
  clear hb
  go_enter Try.func125, Try.ntmps125
  go_wp2
  go_ret
  exact ⟨rfl, rfl⟩

/-- nothing is read of what is bad -/
theorem readsInt_early (p : Option Addr) (Bx : Addr) (w : World) (hbad : ∀ w1, w.grownBy w1 none → Calls Try.prog 125 #[.pointer p] w1 fun e w' => e = .returned (.bool true) ∧ w1 = w') :
    Calls Try.prog 166 #[.pointer p, .func (.func 167) #[] #[.pointer (some Bx)]] w fun e w' => e = .returned (.int .i64 0) ∧ Below w.heap.size w w' := by
  have hga : w.grownBy ((w.alloc (.cells #[.pointer p] 151)).alloc (.cells #[.int .i64 0] 3)) none := ⟨rfl, rfl, rfl, by simp; omega, fun k hk _ => (heap_alloc_old _ _ (by simp; omega)).trans (heap_alloc_old w _ hk)⟩
  have hb := hbad _ hga
  have hbel : Below w.heap.size w ((w.alloc (.cells #[.pointer p] 151)).alloc (.cells #[.int .i64 0] 3)) := ((Below.refl _ _).alloc (Nat.le_refl _) _).alloc (by simp) _
  have HB := Lib.hid hb; have HBEL := Lib.hid hbel
  clear hbad hga hb hbel
  go_enter_defers Try.func166, Try.ntmps166
  go_wp2_with fail
  refine HB.out.mono ?_
  rintro e w1 ⟨rfl, rfl⟩
  go_wp2
  simp [bodyPostD, Leaves, results, Try.results166, go_sem]
  exact HBEL.out

set_option maxHeartbeats 1000000 in
theorem pNumber_early (p : Option Addr) (w : World) (hbad : ∀ w1, w.grownBy w1 none → Calls Try.prog 125 #[.pointer p] w1 fun e w' => e = .returned (.bool true) ∧ w1 = w') :
    Calls Try.prog 154 #[.pointer p] w fun e w' => e = .returned (.int .i64 0) ∧ Below w.heap.size w w' := by
  have hmf : ∀ (fn : Fn) (first cap : Array Value) (w : World), (Instr.makeFunc fn first cap).run Try.prog w = .ok (.func fn first cap) w := fun _ _ _ _ => rfl
  have hga : w.grownBy (w.alloc (.cells #[.pointer p] 151)) none := World.grownBy_alloc w _ _
  have hbel : Below w.heap.size w (w.alloc (.cells #[.pointer p] 151)) := (Below.refl _ _).alloc (Nat.le_refl _) _
  have hb := readsInt_early p ⟨w.heap.size, 0, none⟩ (w.alloc (.cells #[.pointer p] 151)) (fun w1 h1 => hbad w1 (grown_trans' hga h1))
  have HB := Lib.hid hb; have HBEL := Lib.hid hbel
  clear hbad hga hb hbel
  go_enter Try.func154, Try.ntmps154
  go_wp2_with fail
  refine HB.out.mono ?_
  rintro e w1 ⟨rfl, hb1⟩
  have HB1 := Lib.hid (HBEL.out.trans (hb1.mono (by simp)))
  clear hb1
  go_wp2
  go_ret
  exact ⟨rfl, HB1.out⟩

set_option maxHeartbeats 1000000 in
theorem pNumber_any (P : Nat) (s : M.Rdr) (A0 : Option Addr) (w : World) (h : PrgN w P s A0) (hAB : ∀ a, A0 = some a → a.block < w.heap.size) :
    Calls Try.prog 154 #[.pointer (some ⟨P, 0, none⟩)] w (GotNum w P s A0) := by
  obtain ⟨l, A, n, c, h⟩ := h
  cases s with
  | none =>
    have h' : ∃ t, w.heap[P]? = some (.cells (readP A n c true true).toArray t (0, 0)) := h
    have hPl : P < w.heap.size := by obtain ⟨t, hb⟩ := h'; exact (Array.getElem?_eq_some_iff.1 hb).1
    refine (pNumber_early (some ⟨P, 0, none⟩) w (fun w1 hg => pBad_bad P A n c w1 ?_)).mono ?_
    · obtain ⟨t, hb⟩ := h'
      exact ⟨t, (hg.block P hPl (by simp)).trans hb⟩
    · rintro e w' ⟨rfl, hb⟩
      obtain ⟨t, hb'⟩ := h'
      exact ⟨rfl, ⟨l, A, n, c, t, (hb.block P hPl).trans hb'⟩, ⟨hb.os, hb.tape, hb.output, hb.size, fun k hk _ => hb.block k hk⟩⟩
  | some l' =>
    obtain ⟨hp, rfl, hA⟩ := h
    have hmf : ∀ (fn : Fn) (first cap : Array Value) (w : World), (Instr.makeFunc fn first cap).run Try.prog w = .ok (.func fn first cap) w := fun _ _ _ _ => rfl
    have hPl := hp.lt
    have hga : w.grownBy (w.alloc (.cells #[.pointer (some ⟨P, 0, none⟩)] 151)) none := World.grownBy_alloc w _ _
    have hp2 := hp.grown hga (by simp) (fun _ _ => by simp)
    have hbx : (w.alloc (.cells #[.pointer (some ⟨P, 0, none⟩)] 151)).cell? ⟨w.heap.size, 0, none⟩ = some (.pointer (some ⟨P, 0, none⟩)) := by rw [World.cell?_alloc_new]; rfl
    have hcall : Calls Try.prog 166 #[.pointer (some ⟨P, 0, none⟩), .func (.func 167) #[] #[.pointer (some ⟨w.heap.size, 0, none⟩)]] (w.alloc (.cells #[.pointer (some ⟨P, 0, none⟩)] 151)) (GotNum (w.alloc (.cells #[.pointer (some ⟨P, 0, none⟩)] 151)) P (some l) A) := by
      rcases Nat.lt_or_ge n 8 with h8 | h8
      · exact readsInt_bad w.heap.size P l A n c _ hp2 hbx h8 (by omega)
      · exact readsInt_ok w.heap.size P l A n c _ hp2 hbx h8 (fun a e => by obtain ⟨a0, e0, h0⟩ := hA a e; have := hAB a0 e0; simp; omega) (by omega)
    have HC := Lib.hid hcall; have HA := Lib.hid hA; have HGA := Lib.hid hga
    clear hcall hA hga hp2 hbx hp hAB
    go_enter Try.func154, Try.ntmps154
    go_wp2_with fail
    refine HC.out.mono ?_
    rintro e w1 ⟨rfl, ⟨l2, A2, n2, c2, hp⟩, hg⟩
    have hfin : GotNum w P (some l) A0 (.returned (.int .i64 (M.rdNumber (some l)).1)) w1 := by
      refine ⟨rfl, ⟨l2, A2, n2, c2, ?_⟩, grown_trans' ⟨HGA.out.os, HGA.out.tape, HGA.out.output, HGA.out.size, fun k hk _ => HGA.out.block k hk (by simp)⟩ hg⟩
      cases hs : (M.rdNumber (some l)).2 with
      | none => rw [hs] at hp; exact hp
      | some l3 =>
        rw [hs] at hp
        refine ⟨hp.1, hp.2.1, fun a e => ?_⟩
        obtain ⟨a1, e1, h1⟩ := hp.2.2 a e
        obtain ⟨a0, e0, h0⟩ := HA.out a1 e1
        exact ⟨a0, e0, h1.trans h0⟩
    have HFIN := Lib.hid hfin
    clear hfin hp hg
    go_wp2
    go_ret
    exact HFIN.out
end Go.Proofs.Ytfpjmeknjhhakaa.K

/- The contracts of the program's reader: Bytes. -/
namespace Go.Proofs.Ytfpjmeknjhhakaa.K
open Go Go.RowKit

theorem own_low {w : World} {base base' : Nat} {e : TypeId} {size : Nat} {v : Value} {n : Nat} {xs : List Value} (h : w.ownsRow base e size v n xs) (hb : base' ≤ base) : w.ownsRow base' e size v n xs :=
  ⟨h.1, h.2.imp id fun ⟨g, cap, cur, h1, h2, h3⟩ => ⟨g, cap, cur, h1, Nat.le_trans hb h2, h3⟩⟩
theorem prdBytes_none {l : List (BitVec 8)} (h : (M.rdBytes (some l)).2 = none) : M.rdBytes (some l) = ([], none) := by
  unfold M.rdBytes at *
  split
  · rfl
  · rename_i hq
    simp only [hq] at h
    split at h
    · rename_i hc; rw [if_pos hc]
    · cases h

/-- bytes were got, or nothing -/
def GotByt (w : World) (P : Nat) (s : M.Rdr) (A0 : Option Addr) (e : Ending) (w' : World) : Prop := ∃ B m c, e = .returned (.slice B m c) ∧ w'.ownsRow w.heap.size 5 1 (.slice B m c) m (bv (M.rdBytes s).1) ∧ PrgN w' P (M.rdBytes s).2 A0 ∧ w.grownBy w' (some P)




end Go.Proofs.Ytfpjmeknjhhakaa.K

/- The contracts of the reference's reader: New, Number, Bad, Done. -/
namespace Go.Proofs.Ytfpjmeknjhhakaa.K
open Go Go.RowKit

def readL (A : Option Addr) (n c : Nat) (at' : Int) (bad : Bool) : List Value := [.slice A n c, .int .i64 at', .bool bad]
/-- the block R is a reader of the document's: s is what is left, or none if it is bad -/
structure RefR (w : World) (R : Nat) (s : M.Rdr) (A : Option Addr) (n c at' : Nat) (bad : Bool) (D : List (BitVec 8)) : Prop where
  blk : ∃ t, w.heap[R]? = some (.cells (readL A n c at' bad).toArray t (0, 0))
  rd : Rd w A D
  len : D.length = n
  none : A = Option.none → c = 0
  at_le : at' ≤ n
  is : s = if bad then Option.none else some (D.drop at')
  n_le : n ≤ 1000000000000
  cap : n ≤ c ∧ c ≤ 9223372036854775807
  ne : ∀ a, A = some a → a.block ≠ R
  form : ∀ a, A = some a → ∃ g, a = ⟨g, 0, Option.none⟩
/-- wherever it stands -/
def RefN (w : World) (R : Nat) (s : M.Rdr) (A : Option Addr) (n c : Nat) (D : List (BitVec 8)) : Prop := ∃ at' bad, RefR w R s A n c at' bad D
theorem RefR.cell {w : World} {R : Nat} {s : M.Rdr} {A : Option Addr} {n c at' : Nat} {bad : Bool} {D : List (BitVec 8)} (h : RefR w R s A n c at' bad D) {i : Nat} {v : Value} (hv : (readL A n c at' bad)[i]? = some v) : w.cell? ⟨R, i, Option.none⟩ = some v := by
  obtain ⟨t, hb⟩ := h.blk
  exact block_cell hb hv
theorem RefR.free {w : World} {R : Nat} {s : M.Rdr} {A : Option Addr} {n c at' : Nat} {bad : Bool} {D : List (BitVec 8)} (h : RefR w R s A n c at' bad D) (i : Nat) : w.frozen? ⟨R, i, Option.none⟩ = false := by
  obtain ⟨t, hb⟩ := h.blk
  exact frozen_of_row w R i _ t hb
theorem Rd.setCell' {w : World} {A : Option Addr} {l : List (BitVec 8)} (h : Rd w A l) {b i : Nat} (hb : ∀ a, A = some a → a.block ≠ b) (v : Value) : Rd (w.setCell ⟨b, i, none⟩ v) A l := fun k hk => by
  obtain ⟨g', o, e, hc⟩ := h k hk
  exact ⟨g', o, e, by rw [cell_setCell_ne _ (hb _ e)]; exact hc⟩
theorem RefR.bad {w : World} {R : Nat} {s : M.Rdr} {A : Option Addr} {n c at' : Nat} {bad : Bool} {D : List (BitVec 8)} (h : RefR w R s A n c at' bad D) : RefR (w.setCell ⟨R, 2, Option.none⟩ (.bool true)) R Option.none A n c at' true D := by
  obtain ⟨t, hb⟩ := h.blk
  exact ⟨⟨t, block_set hb 2 _⟩, h.rd.setCell' h.ne _, h.len, h.none, h.at_le, rfl, h.n_le, h.cap, h.ne, h.form⟩
theorem RefR.move {w : World} {R : Nat} {s : M.Rdr} {A : Option Addr} {n c at' : Nat} {D : List (BitVec 8)} (h : RefR w R s A n c at' false D) (k : Nat) (hk : at' + k ≤ n) : RefR (w.setCell ⟨R, 1, Option.none⟩ (.int .i64 ((at' + k : Nat) : Int))) R (some (D.drop (at' + k))) A n c (at' + k) false D := by
  obtain ⟨t, hb⟩ := h.blk
  exact ⟨⟨t, block_set hb 1 _⟩, h.rd.setCell' h.ne _, h.len, h.none, hk, rfl, h.n_le, h.cap, h.ne, h.form⟩
theorem RefR.drewN {w : World} {R : Nat} {s : M.Rdr} {A : Option Addr} {n c at' : Nat} {bad : Bool} {D : List (BitVec 8)} (h : RefR w R s A n c at' bad D) (q : Nat) : RefR (w.drewN q) R s A n c at' bad D :=
  ⟨h.blk, h.rd, h.len, h.none, h.at_le, h.is, h.n_le, h.cap, h.ne, h.form⟩
theorem conv_W64_int {P : Program} (w : World) (src dst : TypeId) (x : BitVec 64) (hs : P.underlying src = some (.int .u64)) (hd : P.underlying dst = some (.int .i64)) : (convert src dst (W64 x)).run P w = .ok (.int .i64 x.toInt) w := by
  have h : IntKind.i64.wrap (x.toNat : Int) = x.toInt := by
    rw [BitVec.toInt_eq_toNat_bmod]
    simp [IntKind.wrap, IntKind.bits, IntKind.signed, Int.bmod]
    split <;> split <;> omega
  simp [convert, run_underlying hs, run_underlying hd, Conv.intToInt, W64, h]
theorem grown_set {w : World} {g i : Nat} (v : Value) : w.grownBy (w.setCell ⟨g, i, none⟩ v) (some g) := grownBy_setCell w g i v
theorem grown_drew {w w' : World} {row : Option Nat} (h : w.grownBy w' row) (q : Nat) : w.grownBy (w'.drewN q) row := ⟨h.os, h.tape, h.output, h.size, h.block⟩

set_option maxHeartbeats 1000000 in
set_option maxRecDepth 100000 in
theorem rNumber_any (R : Nat) (s : M.Rdr) (A : Option Addr) (n c at' : Nat) (bad : Bool) (D : List (BitVec 8)) (w : World) (h : RefR w R s A n c at' bad D) :
    Calls Try.prog 115 #[.pointer (some ⟨R, 0, none⟩)] w fun e w' => e = .returned (.int .i64 (M.rdNumber s).1) ∧ RefN w' R (M.rdNumber s).2 A n c D ∧ w.grownBy w' (some R) := by
  have c0 : w.cell? ⟨R, 0, none⟩ = some (.slice A n c) := h.cell rfl
  have c1 : w.cell? ⟨R, 1, none⟩ = some (.int .i64 (at' : Int)) := h.cell rfl
  have c2 : w.cell? ⟨R, 2, none⟩ = some (.bool bad) := h.cell rfl
  have f1 := h.free 1
  have f2 := h.free 2
  have hal := h.at_le
  have hnl := h.n_le
  have hcap := h.cap
  have H := Lib.hid h
  cases bad with
  | true =>
    have hs : s = none := h.is
    have HS := Lib.hid hs
    clear h hs
    go_enter Try.func115, Try.ntmps115
    go_wp2
    go_quiet (fail)
    go_wp2
    go_ret
    exact ⟨by rw [HS.out]; rfl, ⟨_, _, by rw [HS.out]; exact (H.out.bad).drewN _⟩, grown_drew (grown_set _) _⟩
  | false =>
    have hs : s = some (D.drop at') := h.is
    have hlen := h.len
    have hdl : (D.drop at').length = n - at' := by rw [List.length_drop, hlen]
    have HS := Lib.hid hs
    rcases Nat.lt_or_ge (n - at') 8 with h8 | h8
    · have d1 : decide ((n : Int) - (at' : Int) < 8) = true := by simp; omega
      have hr : M.rdNumber s = (0, none) := by rw [hs]; simp only [M.rdNumber]; rw [if_pos (by rw [hdl]; exact h8)]
      have HR := Lib.hid hr
      clear h hs hlen hdl hr
      have p1 : (n : Int) - (at' : Int) < 8 := by omega
      go_enter Try.func115, Try.ntmps115
      go_wp2
      go_quiet (fail)
      go_wp2
      go_ret
      exact ⟨by rw [HR.out]; rfl, ⟨_, _, by rw [HR.out]; exact (H.out.bad).drewN _⟩, grown_drew (grown_set _) _⟩
    · have p1 : ¬ (n : Int) - (at' : Int) < 8 := by omega
      have d1 : decide ((n : Int) - (at' : Int) < 8) = false := by simpa using p1
      have hr : M.rdNumber s = (M.val ((D.drop at').take 8), some (D.drop (at' + 8))) := by rw [hs]; simp only [M.rdNumber]; rw [if_neg (by rw [hdl]; omega), List.drop_drop]
      obtain ⟨b, o, hA, _, hD⟩ := h.rd.lay (by omega)
      subst hA
      have hneR : b ≠ R := h.ne _ rfl
      have HR := Lib.hid hr; have HD := Lib.hid hD; have HLEN := Lib.hid hlen
      clear h hs hdl hr hD hlen
      have mc : ∀ (t : TypeId) (x : BitVec 64), binOp .mul t (.int .u64 256) (W64 x) = pure (W64 (256 * x)) := fun t x => W64_mul t 256 x
      go_enter Try.func115, Try.ntmps115
      go_wp2
      go_quiet (fail)
      go_wp2
      go_loopw [3, 4] (fun v i wr => ∃ k : Nat, k ≤ 8 ∧ i = .int .i64 (k : Int) ∧ v = W64 (M.w64 ((D.drop at').take k)) ∧ ∃ q, wr = w.drewN q) (fun _ i _ => 8 - (intOf i).toNat)
      case atStart => exact ⟨0, by omega, rfl, rfl, _, rfl⟩
      case round =>
        obtain ⟨k, hk, rfl, rfl, q, rfl⟩ := hrel
        have k0 : (0 : Int) ≤ (k : Int) := by omega
        rcases Nat.lt_or_ge k 8 with h9 | h9
        · have k1 : (k : Int) < 8 := by omega
          have cx : w.cell? ⟨b, o + (at' + k), none⟩ = some (B8 (D.getD (at' + k) 0)) := HD.out (at' + k) (by have := HLEN.out; omega)
          have w1 : IntKind.i64.wrap ((at' : Int) + (k : Int)) = (at' : Int) + (k : Int) := IntWalk.i64_in _ (by omega)
          have w2 : (0 : Int) ≤ (at' : Int) + (k : Int) := by omega
          have w3 : ((at' : Int) + (k : Int)).toNat = at' + k := by omega
          have w4 : (at' : Int) + (k : Int) < (n : Int) := by omega
          have w5 : at' + k < n := by omega
          go_wp2
          go_quiet (fail)
          clear w1 w2 w3 w4 w5
          go_wp2
          go_roundw
          case rel =>
            refine ⟨k + 1, by omega, by go_num, ?_, _, rfl⟩
            have hl := HLEN.out
            rw [List.take_succ_eq_append_getElem (by rw [List.length_drop]; omega), M.w64_snoc, List.getElem_drop]
            rw [List.getElem?_eq_getElem (by omega)]
            rfl
          case measure => simp [intOf]; omega
        · have hk8 : k = 8 := by omega
          have k1 : ¬ (k : Int) < 8 := by omega
          have hcv := fun w => conv_W64_int (P := Try.prog) w 160 3 (M.w64 ((D.drop at').take k)) Try.underlying160 Try.underlying3
          have HK8 := Lib.hid hk8
          clear hk8 mc
          go_wp2
          go_ret
          have ev : (M.rdNumber s).1 = (M.w64 ((D.drop at').take k)).toInt := by rw [HR.out, HK8.out]; rfl
          have es : (M.rdNumber s).2 = some (D.drop (at' + 8)) := by rw [HR.out]
          refine ⟨by rw [ev]; rfl, ⟨at' + 8, false, ?_⟩, grown_drew (grown_set _) q⟩
          rw [es]
          exact (H.out.move 8 (by omega)).drewN q
end Go.Proofs.Ytfpjmeknjhhakaa.K
