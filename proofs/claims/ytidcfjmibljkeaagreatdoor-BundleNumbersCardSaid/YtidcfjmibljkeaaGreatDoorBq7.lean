/- Merged: BunCatch, Held, BunTried, BytesLib, WireTake, WireRest, WireCatch, WireReads. -/
import Derived.Test.YtidcfjmibljkeaaGreatDoorBq6
import Derived.Laws.Pointers
import Derived.Laws.BytesArg
import Derived.Lib.Bytes
import Derived.Lib.SliceRun
import Derived.WalkLawsBesides
import Derived.WalkSpells
import Derived.Defers
import Derived.Recover
/- The contracts of bundle's tried: what something tells, or the error that it ends with. -/
namespace Go.Proofs.YtidcfjmibljkeaaGreatDoor.K
open Go Go.RowKit

theorem heap_keepB {W : World} {l : Nat} {o : Obj} (x : Obj) (h : W.heap[l]? = some o) : (W.alloc x).heap[l]? = some o := (Below.heap_alloc W x l (Array.getElem?_eq_some_iff.1 h).1).trans h
theorem tmps17 (a b x : Value) : (#[a, b] ++ ((Array.replicate 15 undef).setIfInBounds 3 x).setIfInBounds 0 x) = #[a, b, x, undef, undef, x, undef, undef, undef, undef, undef, undef, undef, undef, undef, undef, undef] := by
  apply Array.toList_inj.1
  simp [List.replicate]
theorem catchBun_idle (p q : Addr) (w : World) :
    CallsD Tryz.prog 63 #[.pointer (some p), .pointer (some q)] .returning w fun e u' w' => e = .returned (.tuple #[]) ∧ u' = .returning ∧ w' = w := by
  refine callsD_of_wpS Tryz.func63 rfl fun c₀ cs hu => ?_
  apply wpS_seq
  apply wpS_region
  simp [wpOpsS, go_sem, recoverD, hu, Tryz.ntmps63, Exit.thenS]
  refine wpS_of_wp ?_
  rw [tmps17]
  go_wp2
  cases c₀
  simp_all [bodyPostS, results, Tryz.results63]
theorem catchByt_idle (p q : Addr) (w : World) :
    CallsD Tryz.prog 93 #[.pointer (some p), .pointer (some q)] .returning w fun e u' w' => e = .returned (.tuple #[]) ∧ u' = .returning ∧ w' = w := by
  refine callsD_of_wpS Tryz.func93 rfl fun c₀ cs hu => ?_
  apply wpS_seq
  apply wpS_region
  simp [wpOpsS, go_sem, recoverD, hu, Tryz.ntmps93, Exit.thenS]
  refine wpS_of_wp ?_
  rw [tmps17]
  go_wp2
  cases c₀
  simp_all [bodyPostS, results, Tryz.results93]
theorem catchBoo_idle (p q : Addr) (w : World) :
    CallsD Tryz.prog 95 #[.pointer (some p), .pointer (some q)] .returning w fun e u' w' => e = .returned (.tuple #[]) ∧ u' = .returning ∧ w' = w := by
  refine callsD_of_wpS Tryz.func95 rfl fun c₀ cs hu => ?_
  apply wpS_seq
  apply wpS_region
  simp [wpOpsS, go_sem, recoverD, hu, Tryz.ntmps95, Exit.thenS]
  refine wpS_of_wp ?_
  rw [tmps17]
  go_wp2
  cases c₀
  simp_all [bodyPostS, results, Tryz.results95]
set_option maxHeartbeats 1000000 in
set_option maxRecDepth 100000 in
theorem catchByt_panicking (E B : Nat) (n y : Int) (v : Value) (w : World) (he : w.cell? ⟨E, 0, none⟩ = some (.int .i64 y)) (hef : w.frozen? ⟨E, 0, none⟩ = false) (hb : w.heap[B]? = some (.cells #[v] 22 (0, 0))) (hEB : E ≠ B) :
    CallsD Tryz.prog 93 #[.pointer (some ⟨E, 0, none⟩), .pointer (some ⟨B, 0, none⟩)] (.panicking (errP n)) w fun e u' w' =>
      e = .returned (.tuple #[]) ∧ u' = .panicking [{ v := .iface 27 (.int .i64 n), recovered := true }] ∧ w' = (w.setCell ⟨E, 0, none⟩ (.int .i64 n)).setCell ⟨B, 0, none⟩ (.slice none 0 0) := by
  have hta : ∀ w, (Instr.typeAssert (.iface 27 (.int .i64 n)) 20 27 true).run Tryz.prog w = .ok (.tuple #[.int .i64 n, .bool true]) w := fun _ => by kernel_rfl
  have hbc : (w.setCell ⟨E, 0, none⟩ (.int .i64 n)).cell? ⟨B, 0, none⟩ = some v := (World.cell?_setCell_other _ _ _ _ (fun e => hEB (by injection e))).trans (block_cell (xs := [v]) hb rfl)
  have hbf : w.frozen? ⟨B, 0, none⟩ = false := frozen_of_row w B 0 _ _ hb
  refine callsD_of_wpS Tryz.func93 rfl fun c₀ cs hu => ?_
  unfold errP at hu
  clear hb
  apply wpS_seq
  apply wpS_region
  simp [wpOpsS, go_sem, recoverD, hu, Tryz.ntmps93, Exit.thenS]
  refine wpS_of_wp ?_
  rw [tmps17]
  go_wp2
  cases c₀
  simp_all [bodyPostS, results, Tryz.results93]
set_option maxHeartbeats 1000000 in
set_option maxRecDepth 100000 in
theorem catchBoo_panicking (E B : Nat) (n y : Int) (v : Value) (w : World) (he : w.cell? ⟨E, 0, none⟩ = some (.int .i64 y)) (hef : w.frozen? ⟨E, 0, none⟩ = false) (hb : w.heap[B]? = some (.cells #[v] 4 (0, 0))) (hEB : E ≠ B) :
    CallsD Tryz.prog 95 #[.pointer (some ⟨E, 0, none⟩), .pointer (some ⟨B, 0, none⟩)] (.panicking (errP n)) w fun e u' w' =>
      e = .returned (.tuple #[]) ∧ u' = .panicking [{ v := .iface 27 (.int .i64 n), recovered := true }] ∧ w' = (w.setCell ⟨E, 0, none⟩ (.int .i64 n)).setCell ⟨B, 0, none⟩ (.bool false) := by
  have hta : ∀ w, (Instr.typeAssert (.iface 27 (.int .i64 n)) 20 27 true).run Tryz.prog w = .ok (.tuple #[.int .i64 n, .bool true]) w := fun _ => by kernel_rfl
  have hbc : (w.setCell ⟨E, 0, none⟩ (.int .i64 n)).cell? ⟨B, 0, none⟩ = some v := (World.cell?_setCell_other _ _ _ _ (fun e => hEB (by injection e))).trans (block_cell (xs := [v]) hb rfl)
  have hbf : w.frozen? ⟨B, 0, none⟩ = false := frozen_of_row w B 0 _ _ hb
  refine callsD_of_wpS Tryz.func95 rfl fun c₀ cs hu => ?_
  unfold errP at hu
  clear hb
  apply wpS_seq
  apply wpS_region
  simp [wpOpsS, go_sem, recoverD, hu, Tryz.ntmps95, Exit.thenS]
  refine wpS_of_wp ?_
  rw [tmps17]
  go_wp2
  cases c₀
  simp_all [bodyPostS, results, Tryz.results95]
set_option maxHeartbeats 2000000 in
set_option maxRecDepth 100000 in
theorem catchBun_panicking (E O : Nat) (n y : Int) (w : World) (he : w.cell? ⟨E, 0, none⟩ = some (.int .i64 y)) (hef : w.frozen? ⟨E, 0, none⟩ = false) (ho : w.heap[O]? = some (.cells zeroV.toArray 26 (0, 0))) (hEO : E ≠ O) :
    CallsD Tryz.prog 63 #[.pointer (some ⟨E, 0, none⟩), .pointer (some ⟨O, 0, none⟩)] (.panicking (errP n)) w fun e u' w' =>
      e = .returned (.tuple #[]) ∧ u' = .panicking [{ v := .iface 27 (.int .i64 n), recovered := true }] ∧ w' = ((w.setCell ⟨E, 0, none⟩ (.int .i64 n)).alloc (.cells zeroV.toArray 26)).setRow O zeroV.toArray := by
  have hta : ∀ w, (Instr.typeAssert (.iface 27 (.int .i64 n)) 20 27 true).run Tryz.prog w = .ok (.tuple #[.int .i64 n, .bool true]) w := fun _ => by kernel_rfl
  have hO1 := (heap_setCell_other w ⟨E, 0, none⟩ O (.int .i64 n) (fun e => hEO e.symm)).trans ho
  have hO2 := heap_keepB (.cells zeroV.toArray 26) hO1
  have HO2 := Lib.hid hO2
  refine callsD_of_wpS Tryz.func63 rfl fun c₀ cs hu => ?_
  unfold errP at hu
  clear ho hO1 hO2
  apply wpS_seq
  apply wpS_region
  simp [wpOpsS, go_sem, recoverD, hu, Tryz.ntmps63, Exit.thenS]
  refine wpS_of_wp ?_
  rw [tmps17]
  go_wp2_with (refine wpList_store_row rfl 26 (.tmp 1) (.tmp 16) rfl O zeroV.toArray rfl rfl 26 _ HO2.out (infoBunL 0 none 0 0 none 0 0 none 0 0) rfl (bunL_one _ _ _ _ _ _ _ _ _ _) ?_)
  cases c₀
  simp_all [bodyPostS, results, Tryz.results63, zeroV, bunL]
end Go.Proofs.YtidcfjmibljkeaaGreatDoor.K

/- A reader beside a bank: its block and what it reads of are none of the bank's. Plain lemmas over any program. -/
namespace Go.Proofs.YtidcfjmibljkeaaGreatDoor.K
open Go Go.RowKit

theorem Bank.sub {w0 w : World} {L L' : List Acc} (h : Bank w0 w L) (hs : L'.Sublist L) : Bank w0 w L' := ⟨h.since, fun p hp => h.own p (hs.subset hp), h.sep.sublist hs⟩
structure Held (w0 w : World) (Q : World → M.Rdr → Prop) (s : M.Rdr) (R : Nat) (Bd : Option Addr) (L : List Acc) : Prop where
  bank : Bank w0 w L
  q : Q w s
  keep : ∀ w w' s (row : Option Nat), Q w s → w.grownBy w' row → row ≠ some R → (∀ a, Bd = some a → row ≠ some a.block) → Q w' s
  lt : R < w.heap.size ∧ ∀ a, Bd = some a → a.block < w.heap.size
  base : w0.heap.size ≤ R
  away : ∀ p ∈ L, ∀ b, p.v.ownBlock = some b → b ≠ R ∧ ∀ a, Bd = some a → b ≠ a.block
section
variable {w0 w w' : World} {Q : World → M.Rdr → Prop} {s s' : M.Rdr} {R : Nat} {Bd : Option Addr} {L : List Acc}
theorem Held.step (h : Held w0 w Q s R Bd L) (hq : Q w' s') (hg : w.grownBy w' (some R)) : Held w0 w' Q s' R Bd L :=
  ⟨h.bank.other hg h.base (fun p hp e => (h.away p hp R e).1 rfl), hq, h.keep, ⟨Nat.lt_of_lt_of_le h.lt.1 hg.size, fun a e => Nat.lt_of_lt_of_le (h.lt.2 a e) hg.size⟩, h.base, h.away⟩
theorem Held.row (h : Held w0 w Q s R Bd L) (hq : Q w' s') (hg : w.grownBy w' (some R)) {e : TypeId} {size m : Nat} {v : Value} {xs : List Value} (ho : w'.ownsRow w.heap.size e size v m xs) : Held w0 w' Q s' R Bd (⟨v, m, e, size, xs⟩ :: L) := by
  have h1 := h.step hq hg
  refine ⟨h1.bank.add ho h.bank.since.size (fun p hp b hb => (h.bank.lt hp hb).2), hq, h.keep, h1.lt, h.base, fun p hp b hb => ?_⟩
  rcases List.mem_cons.1 hp with rfl | hp
  · have h2 := (ho.lt b hb).1
    have h3 := h.lt.1
    exact ⟨by omega, fun a e => by have := h.lt.2 a e; omega⟩
  · exact h.away p hp b hb
theorem Held.call (h : Held w0 w Q s R Bd L) (hb : Below w.heap.size w w') : Held w0 w' Q s R Bd L :=
  ⟨h.bank.call hb, h.keep _ _ _ none h.q (grown_none_of_below hb) (by simp) (fun _ _ => by simp), h.keep, ⟨Nat.lt_of_lt_of_le h.lt.1 hb.size, fun a e => Nat.lt_of_lt_of_le (h.lt.2 a e) hb.size⟩, h.base, h.away⟩
theorem Held.set (h : Held w0 w Q s R Bd L) (i : Nat) {g : Nat} {t : TypeId} {vs : List Value} (hi : L[i]? = some (boxAcc g t vs)) (j : Nat) (v : Value) : Held w0 (w.setCell ⟨g, j, Option.none⟩ v) Q s R Bd (L.set i (boxAcc g t (vs.set j v))) := by
  have ha := h.away _ (List.mem_of_getElem? hi) g rfl
  refine ⟨h.bank.boxSet i hi j v, h.keep _ _ _ (some g) h.q (grownBy_setCell w g j v) (fun e => ha.1 (Option.some.inj e)) (fun a e e2 => ha.2 a e (Option.some.inj e2)), h.keep, ⟨by simpa using h.lt.1, fun a e => by simpa using h.lt.2 a e⟩, h.base, fun p hp b hb => ?_⟩
  rcases List.mem_or_eq_of_mem_set hp with hp | rfl
  · exact h.away p hp b hb
  · have e : b = g := by simpa [boxAcc, Value.ownBlock] using hb.symm
    subst e
    exact ha
theorem Held.box (h : Held w0 w Q s R Bd L) (cs : Array Value) (t : TypeId) (hs : cs.size ≤ 1000000) : Held w0 (w.alloc (.cells cs t)) Q s R Bd (boxAcc w.heap.size t cs.toList :: L) := by
  have h1 := h.call ((Below.refl _ _).alloc (Nat.le_refl _) (.cells cs t))
  refine ⟨h.bank.box cs t hs, h1.q, h.keep, h1.lt, h.base, fun p hp b hb => ?_⟩
  rcases List.mem_cons.1 hp with rfl | hp
  · have e : b = w.heap.size := by simpa [boxAcc, Value.ownBlock] using hb.symm
    have h3 := h.lt.1
    exact ⟨by omega, fun a ea => by have := h.lt.2 a ea; omega⟩
  · exact h.away p hp b hb
/-- a reader that was just made -/
theorem Held.start {w1 : World} (hB : Bank w0 w1 L) (hq : Q w s) (hb : Below w1.heap.size w1 w) (hR : w1.heap.size ≤ R) (hRl : R < w.heap.size) (hBd : ∀ a, Bd = some a → w1.heap.size ≤ a.block ∧ a.block < w.heap.size)
    (keep : ∀ w w' s (row : Option Nat), Q w s → w.grownBy w' row → row ≠ some R → (∀ a, Bd = some a → row ≠ some a.block) → Q w' s) : Held w0 w Q s R Bd L :=
  ⟨hB.call hb, hq, keep, ⟨hRl, fun a e => (hBd a e).2⟩, Nat.le_trans hB.since.size hR, fun p hp b e => by
    have h1 := (hB.lt hp e).2
    exact ⟨by omega, fun a ea => by have := (hBd a ea).1; omega⟩⟩
end
end Go.Proofs.YtidcfjmibljkeaaGreatDoor.K

/- The contracts of bundle's tried, over whatever closure. -/
namespace Go.Proofs.YtidcfjmibljkeaaGreatDoor.K
open Go Go.RowKit

def orZero (n : Nat) (b : M.Bun) : M.Bun := if n = 0 then b else M.zeroBun
def CloPost (w : World) (b : M.Bun) (n : Nat) (e : Ending) (w' : World) : Prop := (n = 0 ∧ ∃ A k c B m d C l c2, e = .returned (.agg (bunL b.ver A k c B m d C l c2).toArray) ∧ k = b.code.length ∧ m = b.dig.length ∧ l = b.tag.length ∧ Bank w w' [rowAcc C l c2 b.tag, rowAcc B m d b.dig, rowAcc A k c b.code]) ∨ (n ≠ 0 ∧ e = .panicked (errP n) ∧ Since w w')
def CloBytes (w : World) (bs : List (BitVec 8)) (n : Nat) (e : Ending) (w' : World) : Prop := (n = 0 ∧ ∃ A N c, e = .returned (.slice A N c) ∧ N = bs.length ∧ w'.ownsRow w.heap.size 5 1 (.slice A N c) N (bv bs) ∧ Since w w') ∨ (n ≠ 0 ∧ e = .panicked (errP n) ∧ Since w w')
def CloBool (w : World) (n : Nat) (e : Ending) (w' : World) : Prop := (n = 0 ∧ e = .returned (.bool true) ∧ Since w w') ∨ (n ≠ 0 ∧ e = .panicked (errP n) ∧ Since w w')
def TriedBytes (w : World) (bs : List (BitVec 8)) (n : Nat) (e : Ending) (w' : World) : Prop := ∃ A N c, e = .returned (.tuple #[.slice A N c, .int .i64 (n : Int)]) ∧ N = (if n = 0 then bs else []).length ∧ w'.ownsRow w.heap.size 5 1 (.slice A N c) N (bv (if n = 0 then bs else [])) ∧ Since w w'
def TriedBool (w : World) (n : Nat) (e : Ending) (w' : World) : Prop := ∃ x, e = .returned (.tuple #[.bool x, .int .i64 (n : Int)]) ∧ Since w w'
set_option maxHeartbeats 4000000 in
set_option maxRecDepth 100000 in
theorem triedCheck_any (p : Addr) (n : Nat) (w : World) (hc : Calls Tryz.prog 48 #[.pointer (some p)] ((w.alloc (.cells #[.bool false] 4)).alloc (.cells #[.int .i64 0] 27)) (CloBool ((w.alloc (.cells #[.bool false] 4)).alloc (.cells #[.int .i64 0] 27)) n)) :
    Calls Tryz.prog 47 #[.func (.func 48) #[] #[.pointer (some p)]] w (TriedBool w n) := by
  have hmf : ∀ (fn : Fn) (first cap : Array Value) (w : World), (Instr.makeFunc fn first cap).run Tryz.prog w = .ok (.func fn first cap) w := fun _ _ _ _ => rfl
  have BK0 := Lib.hid (((Bank.nil (Below.refl w.heap.size w)).box #[.bool false] 4 (by simp)).box #[.int .i64 0] 27 (by simp))
  rw [World.size_alloc] at BK0
  have HC := Lib.hid hc
  clear hc
  go_enter_defers Tryz.func47, Tryz.ntmps47
  go_wp2_with fail
  generalize hw1 : (w.alloc (.cells #[.bool false] 4)).alloc (.cells #[.int .i64 0] 27) = w1 at *
  clear hw1
  refine HC.out.mono ?_
  rintro e w2 (⟨rfl, rfl, hs⟩ | ⟨hn, rfl, hs⟩)
  · have BK2 := Lib.hid (BK0.out.call hs)
    have c1 := BK2.out.cell 1 rfl 0 rfl
    have c0 := BK2.out.cell 0 rfl 0 rfl
    have f1 := BK2.out.free 1 rfl 0
    have f0 := BK2.out.free 0 rfl 0
    have BK3 := Lib.hid ((BK2.out.boxSet 1 rfl 0 (.bool true)).boxSet 0 rfl 0 (.int .i64 0))
    clear hs BK0 BK2
    go_wp2
    refine leaves_cons (f := 95) (args := #[.pointer (some ⟨w.heap.size + 1, 0, none⟩), .pointer (some ⟨w.heap.size, 0, none⟩)]) (by simp) (by simp [go_sem]) ?_
    refine (catchBoo_idle _ _ _).mono ?_
    rintro e u' w'' ⟨rfl, rfl, rfl⟩
    have r1 := BK3.out.cell 1 rfl 0 rfl
    have r0 := BK3.out.cell 0 rfl 0 rfl
    exact ⟨.tuple #[.bool true, .int .i64 0], by simp [results, Tryz.results47, go_sem, r1, r0], ⟨true, rfl, BK3.out.since⟩⟩
  · have BK2 := Lib.hid (BK0.out.call hs)
    have c0 := BK2.out.cell 0 rfl 0 rfl
    have f0 := BK2.out.free 0 rfl 0
    have hbx := (BK2.out.boxAt 1 rfl).2
    have BK3 := Lib.hid ((BK2.out.boxSet 0 rfl 0 (.int .i64 (n : Int))).boxSet 1 rfl 0 (.bool false))
    have HC0 := Lib.hid c0; have HF0 := Lib.hid f0; have HBX := Lib.hid hbx
    clear hs BK0 BK2 c0 f0 hbx
    go_wp2
    refine leaves_cons (f := 95) (args := #[.pointer (some ⟨w.heap.size + 1, 0, none⟩), .pointer (some ⟨w.heap.size, 0, none⟩)]) (by simp) (by simp [go_sem]) ?_
    refine (catchBoo_panicking (w.heap.size + 1) w.heap.size _ _ _ _ HC0.out HF0.out HBX.out (by omega)).mono ?_
    rintro e u' w'' ⟨rfl, rfl, rfl⟩
    have r1 := BK3.out.cell 1 rfl 0 rfl
    have r0 := BK3.out.cell 0 rfl 0 rfl
    exact ⟨.tuple #[.bool false, .int .i64 (n : Int)], by simp [results, Tryz.results47, go_sem, r1, r0], ⟨false, rfl, BK3.out.since⟩⟩
set_option maxHeartbeats 4000000 in
set_option maxRecDepth 100000 in
theorem triedPut_any (p : Addr) (bs : List (BitVec 8)) (n : Nat) (w : World) (hc : Calls Tryz.prog 43 #[.pointer (some p)] ((w.alloc (.cells #[.slice none 0 0] 22)).alloc (.cells #[.int .i64 0] 27)) (CloBytes ((w.alloc (.cells #[.slice none 0 0] 22)).alloc (.cells #[.int .i64 0] 27)) bs n)) :
    Calls Tryz.prog 42 #[.func (.func 43) #[] #[.pointer (some p)]] w (TriedBytes w bs n) := by
  have hmf : ∀ (fn : Fn) (first cap : Array Value) (w : World), (Instr.makeFunc fn first cap).run Tryz.prog w = .ok (.func fn first cap) w := fun _ _ _ _ => rfl
  have BK0 := Lib.hid (((Bank.nil (Below.refl w.heap.size w)).box #[.slice none 0 0] 22 (by simp)).box #[.int .i64 0] 27 (by simp))
  rw [World.size_alloc] at BK0
  have HC := Lib.hid hc
  clear hc
  go_enter_defers Tryz.func42, Tryz.ntmps42
  go_wp2_with fail
  generalize hw1 : ((w.alloc (.cells #[.slice none 0 0] 22)).alloc (.cells #[.int .i64 0] 27)) = w1 at *
  clear hw1
  refine HC.out.mono ?_
  rintro e w2 (⟨rfl, A, N, c, rfl, hN, ho, hs⟩ | ⟨hn, rfl, hs⟩)
  · have HN := Lib.hid hN
    have BK2 := Lib.hid (BK0.out.madeB hs ho)
    have c1 := BK2.out.cell 2 rfl 0 rfl
    have c0 := BK2.out.cell 1 rfl 0 rfl
    have f1 := BK2.out.free 2 rfl 0
    have f0 := BK2.out.free 1 rfl 0
    have BK3 := Lib.hid ((BK2.out.boxSet 2 rfl 0 (.slice A N c)).boxSet 1 rfl 0 (.int .i64 0))
    clear hs ho hN BK0 BK2
    go_wp2
    refine leaves_cons (f := 93) (args := #[.pointer (some ⟨w.heap.size + 1, 0, none⟩), .pointer (some ⟨w.heap.size, 0, none⟩)]) (by simp) (by simp [go_sem]) ?_
    refine (catchByt_idle _ _ _).mono ?_
    rintro e u' w'' ⟨rfl, rfl, rfl⟩
    have r1 := BK3.out.cell 2 rfl 0 rfl
    have r0 := BK3.out.cell 1 rfl 0 rfl
    exact ⟨.tuple #[.slice A N c, .int .i64 0], by simp [results, Tryz.results42, go_sem, r1, r0], ⟨A, N, c, rfl, HN.out, BK3.out.at 0 rfl, BK3.out.since⟩⟩
  · have BK2 := Lib.hid (BK0.out.call hs)
    have HNN := Lib.hid hn
    have BK3 := Lib.hid ((BK2.out.boxSet 0 rfl 0 (.int .i64 (n : Int))).boxSet 1 rfl 0 (.slice none 0 0))
    have HC0 := Lib.hid (BK2.out.cell 0 rfl 0 rfl); have HF0 := Lib.hid (BK2.out.free 0 rfl 0); have HBX := Lib.hid (BK2.out.boxAt 1 rfl).2
    clear hs hn BK0 BK2
    go_wp2
    refine leaves_cons (f := 93) (args := #[.pointer (some ⟨w.heap.size + 1, 0, none⟩), .pointer (some ⟨w.heap.size, 0, none⟩)]) (by simp) (by simp [go_sem]) ?_
    refine (catchByt_panicking (w.heap.size + 1) w.heap.size _ _ _ _ HC0.out HF0.out HBX.out (by omega)).mono ?_
    rintro e u' w'' ⟨rfl, rfl, rfl⟩
    have r1 := BK3.out.cell 1 rfl 0 rfl
    have r0 := BK3.out.cell 0 rfl 0 rfl
    exact ⟨.tuple #[.slice none 0 0, .int .i64 (n : Int)], by simp [results, Tryz.results42, go_sem, r1, r0], ⟨none, 0, 0, rfl, by rw [if_neg HNN.out]; rfl, by rw [if_neg HNN.out]; exact World.ownsRow_nil _ _ _ _, BK3.out.since⟩⟩
theorem results_cell_cell {fn : Func} {p q : Tmp} {ty ty2 : TypeId} {P : Program} (h : fn.results = #[.cell p ty, .cell q ty2]) (tmps : Array Value) (w : World) (g g2 : Nat) (u v : Value)
    (hp : tmps.getD p undef = .pointer (some ⟨g, 0, none⟩)) (hq : tmps.getD q undef = .pointer (some ⟨g2, 0, none⟩)) (hrun : (loadVar ty ⟨g, 0, none⟩).run P w = .ok u w) (hrun2 : (loadVar ty2 ⟨g2, 0, none⟩).run P w = .ok v w) : (results fn tmps).run P w = .ok (.tuple #[u, v]) w := by
  have hp' : tmps[p]?.getD undef = .pointer (some ⟨g, 0, none⟩) := by simpa using hp
  have hq' : tmps[q]?.getD undef = .pointer (some ⟨g2, 0, none⟩) := by simpa using hq
  simp [results, h, hp', hq', asAddr, hrun, hrun2]
/-- rows that a closure made, over the boxes that stood there -/
theorem bank_under {w0 w w' : World} {L L' : List Acc} (h : Bank w0 w L) (h' : Bank w w' L') : Bank w0 w' (L' ++ L) := by
  have h1 := h.call h'.since
  refine ⟨h1.since, fun p hp => ?_, List.pairwise_append.2 ⟨h'.sep, h1.sep, fun p hp q hq b hb1 hb2 => ?_⟩⟩
  · rcases List.mem_append.1 hp with hp | hp
    · exact row_base (h'.own p hp) h.since.size
    · exact h1.own p hp
  · have h2 := (h'.lt hp hb1).1
    have h3 := (h.lt hq hb2).2
    omega
set_option maxHeartbeats 8000000 in
set_option maxRecDepth 100000 in
theorem triedMake_any (p q r : Addr) (b : M.Bun) (n : Nat) (w : World) (hc : Calls Tryz.prog 32 #[.pointer (some p), .pointer (some q), .pointer (some r)] ((w.alloc (.cells #[.int .i64 0, .slice none 0 0, .slice none 0 0, .slice none 0 0] 26)).alloc (.cells #[.int .i64 0] 27)) (CloPost ((w.alloc (.cells #[.int .i64 0, .slice none 0 0, .slice none 0 0, .slice none 0 0] 26)).alloc (.cells #[.int .i64 0] 27)) b n)) :
    Calls Tryz.prog 31 #[.func (.func 32) #[] #[.pointer (some p), .pointer (some q), .pointer (some r)]] w (ToldE w (orZero n b) n) := by
  have hmf : ∀ (fn : Fn) (first cap : Array Value) (w : World), (Instr.makeFunc fn first cap).run Tryz.prog w = .ok (.func fn first cap) w := fun _ _ _ _ => rfl
  have BK0 := Lib.hid (((Bank.nil (Below.refl w.heap.size w)).box #[.int .i64 0, .slice none 0 0, .slice none 0 0, .slice none 0 0] 26 (by simp)).box #[.int .i64 0] 27 (by simp))
  rw [World.size_alloc] at BK0
  have HC := Lib.hid hc
  clear hc
  go_enter_defers Tryz.func31, Tryz.ntmps31
  go_wp2_with fail
  generalize hw1 : ((w.alloc (.cells #[.int .i64 0, .slice none 0 0, .slice none 0 0, .slice none 0 0] 26)).alloc (.cells #[.int .i64 0] 27)) = w1 at *
  clear hw1
  refine HC.out.mono ?_
  rintro e w2 (⟨rfl, A, k, c, B, m, d, C, l, c2, rfl, hk, hm, hl, hB⟩ | ⟨hn, rfl, hs⟩)
  · have HK := Lib.hid hk; have HM := Lib.hid hm; have HL := Lib.hid hl
    have BK2 := Lib.hid (bank_under BK0.out hB)
    have HRES := Lib.hid (BK2.out.boxAt 4 rfl).2
    have BK3 := Lib.hid (BK2.out.boxRow 4 rfl (bunL b.ver A k c B m d C l c2) rfl (by decide))
    have c0 := BK3.out.cell 3 rfl 0 rfl
    have f0 := BK3.out.free 3 rfl 0
    have BK4 := Lib.hid (BK3.out.boxSet 3 rfl 0 (.int .i64 0))
    clear hk hm hl hB BK0 BK2 BK3
    go_wp2_with (with_reducible refine wpList_store_row rfl 26 (.tmp 2) (.tmp 6) rfl w.heap.size (bunL b.ver A k c B m d C l c2).toArray rfl rfl 26 _ HRES.out (infoBunL b.ver A k c B m d C l c2) rfl (bunL_one _ _ _ _ _ _ _ _ _ _) ?_)
    refine leaves_cons (f := 63) (args := #[.pointer (some ⟨w.heap.size + 1, 0, none⟩), .pointer (some ⟨w.heap.size, 0, none⟩)]) (by simp) (by simp [go_sem]) ?_
    refine (catchBun_idle _ _ _).mono ?_
    rintro e u' w'' ⟨rfl, rfl, rfl⟩
    have hres := (BK4.out.boxAt 4 rfl).2
    have r0 := BK4.out.cell 3 rfl 0 rfl
    refine ⟨.tuple #[.agg (bunL b.ver A k c B m d C l c2).toArray, .int .i64 0], ?_, ⟨.agg (bunL b.ver A k c B m d C l c2).toArray, rfl, by unfold orZero; rw [if_pos rfl]; exact ⟨A, k, c, B, m, d, C, l, c2, rfl, HK.out, HM.out, HL.out, BK4.out.sub (.cons_cons _ (.cons_cons _ (.cons_cons _ (.cons _ (.cons _ .slnil)))))⟩⟩⟩
    have hld := load_bun b.ver A k c B m d C l c2 hres
    exact results_cell_cell rfl _ _ _ _ _ _ rfl rfl hld (by simp [go_sem, r0])
  · have BK2 := Lib.hid (BK0.out.call hs)
    have HNN := Lib.hid hn
    have BK3 := Lib.hid (((BK2.out.boxSet 0 rfl 0 (.int .i64 (n : Int))).alloc (.cells zeroV.toArray 26)).boxRow 1 rfl zeroV rfl (by decide))
    have HC0 := Lib.hid (BK2.out.cell 0 rfl 0 rfl); have HF0 := Lib.hid (BK2.out.free 0 rfl 0); have HBX := Lib.hid (BK2.out.boxAt 1 rfl).2
    clear hs hn BK0 BK2
    go_wp2
    refine leaves_cons (f := 63) (args := #[.pointer (some ⟨w.heap.size + 1, 0, none⟩), .pointer (some ⟨w.heap.size, 0, none⟩)]) (by simp) (by simp [go_sem]) ?_
    refine (catchBun_panicking (w.heap.size + 1) w.heap.size _ _ _ HC0.out HF0.out HBX.out (by omega)).mono ?_
    rintro e u' w'' ⟨rfl, rfl, rfl⟩
    have hres := (BK3.out.boxAt 1 rfl).2
    have r0 := BK3.out.cell 0 rfl 0 rfl
    refine ⟨.tuple #[.agg zeroV.toArray, .int .i64 (n : Int)], ?_, ⟨.agg zeroV.toArray, rfl, by unfold orZero; rw [if_neg HNN.out]; exact told_zero BK3.out.since⟩⟩
    have hld := load_bun 0 none 0 0 none 0 0 none 0 0 hres
    exact results_cell_cell rfl _ _ _ _ _ _ rfl rfl hld (by simp [go_sem, r0])
set_option maxHeartbeats 8000000 in
set_option maxRecDepth 100000 in
theorem triedGet_any (p : Addr) (b : M.Bun) (n : Nat) (w : World) (hc : Calls Tryz.prog 52 #[.pointer (some p)] ((w.alloc (.cells #[.int .i64 0, .slice none 0 0, .slice none 0 0, .slice none 0 0] 26)).alloc (.cells #[.int .i64 0] 27)) (CloPost ((w.alloc (.cells #[.int .i64 0, .slice none 0 0, .slice none 0 0, .slice none 0 0] 26)).alloc (.cells #[.int .i64 0] 27)) b n)) :
    Calls Tryz.prog 31 #[.func (.func 52) #[] #[.pointer (some p)]] w (ToldE w (orZero n b) n) := by
  have hmf : ∀ (fn : Fn) (first cap : Array Value) (w : World), (Instr.makeFunc fn first cap).run Tryz.prog w = .ok (.func fn first cap) w := fun _ _ _ _ => rfl
  have BK0 := Lib.hid (((Bank.nil (Below.refl w.heap.size w)).box #[.int .i64 0, .slice none 0 0, .slice none 0 0, .slice none 0 0] 26 (by simp)).box #[.int .i64 0] 27 (by simp))
  rw [World.size_alloc] at BK0
  have HC := Lib.hid hc
  clear hc
  go_enter_defers Tryz.func31, Tryz.ntmps31
  go_wp2_with fail
  generalize hw1 : ((w.alloc (.cells #[.int .i64 0, .slice none 0 0, .slice none 0 0, .slice none 0 0] 26)).alloc (.cells #[.int .i64 0] 27)) = w1 at *
  clear hw1
  refine HC.out.mono ?_
  rintro e w2 (⟨rfl, A, k, c, B, m, d, C, l, c2, rfl, hk, hm, hl, hB⟩ | ⟨hn, rfl, hs⟩)
  · have HK := Lib.hid hk; have HM := Lib.hid hm; have HL := Lib.hid hl
    have BK2 := Lib.hid (bank_under BK0.out hB)
    have HRES := Lib.hid (BK2.out.boxAt 4 rfl).2
    have BK3 := Lib.hid (BK2.out.boxRow 4 rfl (bunL b.ver A k c B m d C l c2) rfl (by decide))
    have c0 := BK3.out.cell 3 rfl 0 rfl
    have f0 := BK3.out.free 3 rfl 0
    have BK4 := Lib.hid (BK3.out.boxSet 3 rfl 0 (.int .i64 0))
    clear hk hm hl hB BK0 BK2 BK3
    go_wp2_with (with_reducible refine wpList_store_row rfl 26 (.tmp 2) (.tmp 6) rfl w.heap.size (bunL b.ver A k c B m d C l c2).toArray rfl rfl 26 _ HRES.out (infoBunL b.ver A k c B m d C l c2) rfl (bunL_one _ _ _ _ _ _ _ _ _ _) ?_)
    refine leaves_cons (f := 63) (args := #[.pointer (some ⟨w.heap.size + 1, 0, none⟩), .pointer (some ⟨w.heap.size, 0, none⟩)]) (by simp) (by simp [go_sem]) ?_
    refine (catchBun_idle _ _ _).mono ?_
    rintro e u' w'' ⟨rfl, rfl, rfl⟩
    have hres := (BK4.out.boxAt 4 rfl).2
    have r0 := BK4.out.cell 3 rfl 0 rfl
    refine ⟨.tuple #[.agg (bunL b.ver A k c B m d C l c2).toArray, .int .i64 0], ?_, ⟨.agg (bunL b.ver A k c B m d C l c2).toArray, rfl, by unfold orZero; rw [if_pos rfl]; exact ⟨A, k, c, B, m, d, C, l, c2, rfl, HK.out, HM.out, HL.out, BK4.out.sub (.cons_cons _ (.cons_cons _ (.cons_cons _ (.cons _ (.cons _ .slnil)))))⟩⟩⟩
    have hld := load_bun b.ver A k c B m d C l c2 hres
    exact results_cell_cell rfl _ _ _ _ _ _ rfl rfl hld (by simp [go_sem, r0])
  · have BK2 := Lib.hid (BK0.out.call hs)
    have HNN := Lib.hid hn
    have BK3 := Lib.hid (((BK2.out.boxSet 0 rfl 0 (.int .i64 (n : Int))).alloc (.cells zeroV.toArray 26)).boxRow 1 rfl zeroV rfl (by decide))
    have HC0 := Lib.hid (BK2.out.cell 0 rfl 0 rfl); have HF0 := Lib.hid (BK2.out.free 0 rfl 0); have HBX := Lib.hid (BK2.out.boxAt 1 rfl).2
    clear hs hn BK0 BK2
    go_wp2
    refine leaves_cons (f := 63) (args := #[.pointer (some ⟨w.heap.size + 1, 0, none⟩), .pointer (some ⟨w.heap.size, 0, none⟩)]) (by simp) (by simp [go_sem]) ?_
    refine (catchBun_panicking (w.heap.size + 1) w.heap.size _ _ _ HC0.out HF0.out HBX.out (by omega)).mono ?_
    rintro e u' w'' ⟨rfl, rfl, rfl⟩
    have hres := (BK3.out.boxAt 1 rfl).2
    have r0 := BK3.out.cell 0 rfl 0 rfl
    refine ⟨.tuple #[.agg zeroV.toArray, .int .i64 (n : Int)], ?_, ⟨.agg zeroV.toArray, rfl, by unfold orZero; rw [if_neg HNN.out]; exact told_zero BK3.out.since⟩⟩
    have hld := load_bun 0 none 0 0 none 0 0 none 0 0 hres
    exact results_cell_cell rfl _ _ _ _ _ _ rfl rfl hld (by simp [go_sem, r0])
end Go.Proofs.YtidcfjmibljkeaaGreatDoor.K

/- The contracts of bytes.Clone and bytes.Equal. -/
namespace Go.Proofs.YtidcfjmibljkeaaGreatDoor.K
open Go Go.RowKit

set_option maxHeartbeats 2000000 in
set_option maxRecDepth 100000 in
theorem clone_any (A : Option Addr) (n c : Nat) (bs : List (BitVec 8)) (w : World) (hr : RowRd w ⟨A, n, c⟩ bs) (hn : n ≤ 100000000000) :
    Calls Tryz.prog 33 #[.slice A n c] w (MadeO w bs) := by
  have HR := Lib.hid hr
  cases A with
  | none =>
    have hb : bs = [] := Rd.empty hr.rd
    have hn0 : n = 0 := by have h := hr.len; rw [hb] at h; exact h.symm
    have hc0 : c = 0 := hr.none rfl
    subst hb hn0 hc0
    clear hr
    have hnil := fun w => Lib.run_eql_slice_nil (P := Tryz.prog) w 22 5 Option.none 0 0 0 0 Tryz.underlying22
    go_enter Tryz.func33, Tryz.ntmps33
    go_wp2
    go_ret
    exact ⟨none, 0, 0, rfl, rfl, World.ownsRow_nil _ _ _ _, Below.refl _ _⟩
  | some a =>
    have BKL := Lib.hid (Bank.lit0 (Bank.nil (Below.refl w.heap.size w)) 5)
    have RL := Lib.hid (Since.row BKL.out.since HR.out)
    clear hr
    have hnil := fun w => Lib.run_eql_slice_nil (P := Tryz.prog) w 22 5 (some a) n c 0 0 Tryz.underlying22
    go_enter Tryz.func33, Tryz.ntmps33
    go_wp2_with (at_builtin; refine wpList_append_bytes BKL.out rfl _ _ 22 rfl 5 infoByte Tryz.underlying22 0 _ _ _ [] rfl rfl _ _ _ _ rfl RL.out (by omega) ?_; intro A4 n4 c4 w4 hn4 hB4; dsimp only [List.set] at hB4; rw [List.nil_append] at hB4; have HB4 := Lib.hid hB4; clear hn4 hB4)
    go_ret
    exact ⟨A4, n4, c4, rfl, (RowRd.of_row (HB4.out.at 0 rfl)).len.symm, HB4.out.at 0 rfl, HB4.out.since⟩
/-- bytes as a text -/
def toStr (bs : List (BitVec 8)) : ByteArray := strOfNums (bs.map fun x => (x.toNat : Int))
theorem toStr_inj {a b : List (BitVec 8)} (h : toStr a = toStr b) : a = b := by
  have h1 := congrArg (fun s : ByteArray => s.data.toList) h
  simp only [toStr, strOfNums_data, List.map_map] at h1
  refine (List.map_inj_right (f := ((fun n : Int => UInt8.ofNat n.toNat) ∘ fun x : BitVec 8 => (x.toNat : Int))) fun x y hxy => ?_).1 h1
  have h2 := congrArg UInt8.toNat hxy
  simp only [Function.comp, Int.toNat_natCast, UInt8.toNat_ofNat'] at h2
  have hx := x.isLt; have hy := y.isLt
  exact BitVec.eq_of_toNat_eq (by omega)
theorem conv_row {w : World} {A : Option Addr} {n c : Nat} {bs : List (BitVec 8)} (hr : RowRd w ⟨A, n, c⟩ bs) : (convert 22 9 (.slice A n c)).run Tryz.prog w = .ok (.string (toStr bs)) w := by
  have hlen : bs.length = n := hr.len
  cases A with
  | none =>
    have hb : bs = [] := Rd.empty hr.rd
    subst hb
    exact run_convert_bytes_nil w 22 5 Tryz.underlying22 Tryz.underlying5 n c 9 Tryz.underlying9
  | some a =>
    cases bs with
    | nil =>
      obtain rfl : n = 0 := hlen.symm
      rw [run_convert_bytes_string w 22 9 5 _ 0 c Tryz.underlying22 Tryz.underlying5 Tryz.underlying9]
      have hl : (loadCells a 0).run Tryz.prog w = .ok (([] : List Int).map (Value.int .u8)).toArray w := rfl
      rw [run_bytesToString w a 0 c [] hl]
      rfl
    | cons x l =>
      obtain ⟨b, o, e, _⟩ := hr.rd 0 (by simp)
      have e' : a = ⟨b, o, none⟩ := Option.some.inj e
      subst e'
      refine run_convert_bytes_arg w 22 5 Tryz.underlying22 Tryz.underlying5 b o n c ((x :: l).map fun x => (x.toNat : Int)) (by rw [List.length_map]; exact hlen) (fun i hi => ?_) 9 Tryz.underlying9
      obtain ⟨b', o', e2, hc⟩ := hr.rd i (by rw [hlen]; exact hi)
      obtain ⟨rfl, rfl⟩ : b = b' ∧ o = o' := by simpa using e2
      rw [hc]
      have hil : i < (x :: l).length := by rw [hlen]; exact hi
      rw [List.getD_eq_getElem?_getD, List.getElem?_map, List.getElem?_eq_getElem hil]
      rfl
theorem toList_inj {a b : List (BitVec 8)} (h : (toStr a).toList = (toStr b).toList) : a = b := by
  rw [toStr, toStr, Lib.strOfNums_toList, Lib.strOfNums_toList] at h
  refine toStr_inj ?_
  unfold toStr strOfNums
  exact congrArg (fun l : List UInt8 => (⟨l.toArray⟩ : ByteArray)) h
theorem str_eql {t : TypeId} (a b : List (BitVec 8)) : binOp .eql t (.string (toStr a)) (.string (toStr b)) = pure (.bool (decide (a = b))) := by
  by_cases h : a = b
  · subst h
    simp [binOp, Op.stringOp]
  · have h2 : ¬ (toStr a).toList = (toStr b).toList := fun e => h (toList_inj e)
    have h3 : ((toStr a).toList == (toStr b).toList) = false := by rw [beq_eq_false_iff_ne]; exact h2
    simp [binOp, Op.stringOp, h, h3]
set_option maxHeartbeats 2000000 in
set_option maxRecDepth 100000 in
theorem equal_any (A B : Option Addr) (n c m d : Nat) (bs cs : List (BitVec 8)) (w : World) (hx : RowRd w ⟨A, n, c⟩ bs) (hy : RowRd w ⟨B, m, d⟩ cs) :
    Calls Tryz.prog 49 #[.slice A n c, .slice B m d] w fun e w' => e = .returned (.bool (decide (bs = cs))) ∧ w = w' := by
  have h1 := conv_row hx
  have h2 := conv_row hy
  have h3 : ∀ t, binOp .eql t (.string (toStr bs)) (.string (toStr cs)) = pure (.bool (decide (bs = cs))) := fun t => str_eql bs cs
  clear hx hy
  go_enter Tryz.func49, Tryz.ntmps49
  go_wp2
  go_ret
  exact ⟨rfl, rfl⟩
end Go.Proofs.YtidcfjmibljkeaaGreatDoor.K

/- The contract of the program's rest.take: bytes are taken, or it panics. -/
namespace Go.Proofs.YtidcfjmibljkeaaGreatDoor.K
open Go Go.RowKit

def readP (A : Option Addr) (n c : Nat) (made bad : Bool) : List Value := [.slice A n c, .bool made, .bool bad]
/-- the block P is a reader of the program's whose left bytes are l -/
structure PrgR (w : World) (P : Nat) (l : List (BitVec 8)) (A : Option Addr) (n c : Nat) (made bad : Bool) : Prop where
  blk : ∃ t, w.heap[P]? = some (.cells (readP A n c made bad).toArray t (0, 0))
  rd : Rd w A l
  len : l.length = n
  none : A = Option.none → c = 0
  n_le : n ≤ 1000000000000
  cap : n ≤ c ∧ c ≤ 9223372036854775807
  ne : ∀ a, A = some a → a.block ≠ P
  form : ∀ a, A = some a → ∃ g o, a = ⟨g, o, Option.none⟩
theorem PrgR.cell {w : World} {P : Nat} {l : List (BitVec 8)} {A : Option Addr} {n c : Nat} {made bad : Bool} (h : PrgR w P l A n c made bad) {i : Nat} {v : Value} (hv : (readP A n c made bad)[i]? = some v) : w.cell? ⟨P, i, Option.none⟩ = some v := by
  obtain ⟨t, hb⟩ := h.blk
  exact block_cell hb hv
theorem PrgR.free {w : World} {P : Nat} {l : List (BitVec 8)} {A : Option Addr} {n c : Nat} {made bad : Bool} (h : PrgR w P l A n c made bad) (i : Nat) : w.frozen? ⟨P, i, Option.none⟩ = false := by
  obtain ⟨t, hb⟩ := h.blk
  exact frozen_of_row w P i _ t hb
theorem Rd.setCellP {w : World} {A : Option Addr} {l : List (BitVec 8)} (h : Rd w A l) {b i : Nat} (hb : ∀ a, A = some a → a.block ≠ b) (v : Value) : Rd (w.setCell ⟨b, i, none⟩ v) A l := fun k hk => by
  obtain ⟨g', o, e, hc⟩ := h k hk
  exact ⟨g', o, e, by rw [cell_setCell_ne _ (hb _ e)]; exact hc⟩
/-- what a panic bears -/
def shortP : List PanicEntry := [{ v := .iface 215 (.agg #[]), recovered := false }]

set_option maxHeartbeats 1000000 in
theorem take_bad (P : Nat) (l : List (BitVec 8)) (A : Option Addr) (n c : Nat) (made bad : Bool) (k : Int) (w : World) (h : PrgR w P l A n c made bad) (hk : k < 0 ∨ (n : Int) < k) :
    Calls Tryz.prog 135 #[.pointer (some ⟨P, 0, none⟩), .int .i64 k] w fun e w' => e = .panicked shortP ∧ w = w' := by
  have c0 : w.cell? ⟨P, 0, none⟩ = some (.slice A n c) := h.cell rfl
  clear h
  rcases hk with hk | hk
  · have d1 : decide (k < 0) = true := by simpa using hk
    go_enter Tryz.func135, Tryz.ntmps135
    go_wp2
    exact ⟨rfl, rfl, rfl⟩
  · have p1 : ¬ k < 0 := by omega
    have d1 : decide (k < 0) = false := by simpa using p1
    have d2 : decide ((n : Int) < k) = true := by simpa using hk
    go_enter Tryz.func135, Tryz.ntmps135
    go_wp2
    exact ⟨rfl, rfl, rfl⟩

/-- bytes were taken -/
def TakeOk (w : World) (P : Nat) (l : List (BitVec 8)) (A : Option Addr) (n c : Nat) (made bad : Bool) (k : Nat) (e : Ending) (w' : World) : Prop :=
  e = .returned (.slice A k c) ∧ (∃ A', PrgR w' P (l.drop k) A' (n - k) (c - k) made bad ∧ ∀ a', A' = some a' → ∃ a, A = some a ∧ a'.block = a.block) ∧ w.grownBy w' (some P) ∧ Rd w' A (l.take k)
theorem take_post {w : World} {P : Nat} {l : List (BitVec 8)} {A A' : Option Addr} {n c : Nat} {made bad : Bool} (h : PrgR w P l A n c made bad) {k : Nat} (hk : k ≤ n)
    (hA : (c = k ∧ A' = A) ∨ ∃ g o, A = some ⟨g, o, none⟩ ∧ A' = some ⟨g, o + k, none⟩) : TakeOk w P l A n c made bad k (.returned (.slice A k c)) (w.setCell ⟨P, 0, none⟩ (.slice A' (n - k) (c - k))) := by
  obtain ⟨t, hb⟩ := h.blk
  have hlen := h.len
  have hne' : ∀ a', A' = some a' → a'.block ≠ P := by
    intro a' e
    rcases hA with ⟨_, rfl⟩ | ⟨g, o, h1, h2⟩
    · exact h.ne a' e
    · rw [h2] at e; cases e
      exact h.ne ⟨g, o, none⟩ h1
  have hrd : Rd w A' (l.drop k) := by
    intro i hi
    have hi2 : k + i < l.length := by rw [List.length_drop] at hi; omega
    rcases hA with ⟨hc, rfl⟩ | ⟨g, o, h1, h2⟩
    · have := h.cap.1; omega
    · obtain ⟨b, o', e, hc⟩ := h.rd (k + i) hi2
      rw [h1] at e; cases e
      exact ⟨g, o + k, h2, by rw [Nat.add_assoc, hc]; simp⟩
  refine ⟨rfl, ⟨A', ⟨⟨t, block_set hb 0 _⟩, hrd.setCellP hne' _, by rw [List.length_drop]; omega, fun e => ?_, by have := h.n_le; omega, ⟨by have := h.cap; omega, by have := h.cap; omega⟩, hne', fun a e => ?_⟩, fun a' e => ?_⟩, grownBy_setCell w P 0 _, Rd.setCellP (fun i hi => ?_) h.ne _⟩
  · rcases hA with ⟨hc, _⟩ | ⟨g, o, _, h2⟩
    · omega
    · rw [h2] at e; cases e
  · rcases hA with ⟨_, rfl⟩ | ⟨g, o, _, h2⟩
    · exact h.form a e
    · rw [h2] at e; cases e; exact ⟨_, _, rfl⟩
  · rcases hA with ⟨_, rfl⟩ | ⟨g, o, h1, h2⟩
    · exact ⟨a', e, rfl⟩
    · rw [h2] at e; cases e; exact ⟨_, h1, rfl⟩
  · have hi2 : i < l.length := by rw [List.length_take] at hi; omega
    obtain ⟨b, o', e, hc⟩ := h.rd i hi2
    exact ⟨b, o', e, by rw [hc]; simp⟩

set_option maxHeartbeats 1000000 in
theorem take_ok (P : Nat) (l : List (BitVec 8)) (A : Option Addr) (n c : Nat) (made bad : Bool) (k : Nat) (w : World) (h : PrgR w P l A n c made bad) (hk : k ≤ n) :
    Calls Tryz.prog 135 #[.pointer (some ⟨P, 0, none⟩), .int .i64 (k : Int)] w (TakeOk w P l A n c made bad k) := by
  have c0 : w.cell? ⟨P, 0, none⟩ = some (.slice A n c) := h.cell rfl
  have f0 := h.free 0
  have hcap := h.cap
  have hnl := h.n_le
  have p1 : ¬ (k : Int) < 0 := by omega
  have p2 : ¬ (n : Int) < (k : Int) := by omega
  have p3 : (k : Int) ≤ (c : Int) := by omega
  have p4 : (k : Int) ≤ (n : Int) := by omega
  have p0 : (0 : Int) ≤ (k : Int) := by omega
  have H := Lib.hid h
  clear h
  by_cases hck : c = k
  · have hp := take_post H.out hk (A' := A) (.inl ⟨hck, rfl⟩)
    have hnk : n = k := by omega
    subst hnk
    subst hck
    simp only [Nat.sub_self] at hp
    have HP := Lib.hid hp
    clear hp
    go_enter Tryz.func135, Tryz.ntmps135
    go_wp2
    go_ret
    exact HP.out
  · obtain ⟨ad, rfl⟩ : ∃ ad, A = some ad := by
      cases A with
      | some ad => exact ⟨ad, rfl⟩
      | none => have h1 := H.out.none rfl; omega
    obtain ⟨g, o, rfl⟩ := H.out.form ad rfl
    have hp := take_post H.out hk (A' := some ⟨g, o + k, none⟩) (.inr ⟨g, o, rfl, rfl⟩)
    have HP := Lib.hid hp
    clear hp
    go_enter Tryz.func135, Tryz.ntmps135
    go_wp2
    go_ret
    exact HP.out

/-- a number was read -/
def NumOk (w : World) (P : Nat) (l : List (BitVec 8)) (A : Option Addr) (n c : Nat) (made bad : Bool) (e : Ending) (w' : World) : Prop :=
  e = .returned (.int .i64 (M.val (l.take 8))) ∧ (∃ A', PrgR w' P (l.drop 8) A' (n - 8) (c - 8) made bad ∧ ∀ a', A' = some a' → ∃ a, A = some a ∧ a'.block = a.block) ∧ w.grownBy w' (some P)
theorem PrgR.drewN {w : World} {P : Nat} {l : List (BitVec 8)} {A : Option Addr} {n c : Nat} {made bad : Bool} (h : PrgR w P l A n c made bad) (q : Nat) : PrgR (w.drewN q) P l A n c made bad :=
  ⟨h.blk, h.rd, h.len, h.none, h.n_le, h.cap, h.ne, h.form⟩
theorem conv_W64_int' {P : Program} (w : World) (src dst : TypeId) (x : BitVec 64) (hs : P.underlying src = some (.int .u64)) (hd : P.underlying dst = some (.int .i64)) : (convert src dst (W64 x)).run P w = .ok (.int .i64 x.toInt) w := by
  have h : IntKind.i64.wrap (x.toNat : Int) = x.toInt := by
    rw [BitVec.toInt_eq_toNat_bmod]
    simp [IntKind.wrap, IntKind.bits, IntKind.signed, Int.bmod]
    split <;> split <;> omega
  simp [convert, run_underlying hs, run_underlying hd, Conv.intToInt, W64, h]

set_option maxHeartbeats 1000000 in
theorem pnum_bad (P : Nat) (l : List (BitVec 8)) (A : Option Addr) (n c : Nat) (made bad : Bool) (w : World) (h : PrgR w P l A n c made bad) (hn : n < 8) :
    Calls Tryz.prog 98 #[.pointer (some ⟨P, 0, none⟩)] w fun e w' => e = .panicked shortP ∧ w = w' := by
  have H := Lib.hid h
  clear h
  go_enter Tryz.func98, Tryz.ntmps98
  go_wp2_with fail
  refine (take_bad P l A n c made bad 8 w H.out (by omega)).mono ?_
  rintro e w' ⟨rfl, rfl⟩
  go_wp2
  exact ⟨rfl, rfl, rfl⟩

set_option maxHeartbeats 1000000 in
theorem pnum_ok (P : Nat) (l : List (BitVec 8)) (A : Option Addr) (n c : Nat) (made bad : Bool) (w : World) (h : PrgR w P l A n c made bad) (hn : 8 ≤ n) :
    Calls Tryz.prog 98 #[.pointer (some ⟨P, 0, none⟩)] w (NumOk w P l A n c made bad) := by
  have hlen := h.len
  have H := Lib.hid h; have HLEN := Lib.hid hlen
  clear h hlen
  go_enter Tryz.func98, Tryz.ntmps98
  go_wp2_with fail
  refine (take_ok P l A n c made bad 8 w H.out hn).mono ?_
  rintro e w1 ⟨rfl, ⟨A', hpr, hA'⟩, hg, hrd⟩
  have hl8 : (l.take 8).length = 8 := by have := HLEN.out; rw [List.length_take]; omega
  obtain ⟨b, o, rfl, _, hD⟩ := hrd.lay (by omega)
  rw [hl8] at hD
  have HPR := Lib.hid hpr; have HG := Lib.hid hg; have HD := Lib.hid hD; have HL8 := Lib.hid hl8; have HA := Lib.hid hA'
  clear hpr hg hrd hD hl8 hA'
  go_wp2
  go_loopw [3, 5, 9] (fun v _ i wr => ∃ k : Nat, k ≤ 8 ∧ i = .int .i64 (k : Int) ∧ v = W64 (M.w64 ((l.take 8).take k)) ∧ w1 = wr) (fun _ _ i _ => 8 - (intOf i).toNat)
  case atStart => exact ⟨0, by omega, rfl, rfl, rfl⟩
  case round =>
    obtain ⟨k, hk, rfl, rfl, rfl⟩ := hrel
    have k0 : (0 : Int) ≤ (k : Int) := by omega
    rcases Nat.lt_or_ge k 8 with h9 | h9
    · have k1 : (k : Int) < 8 := by omega
      have cx : w1.cell? ⟨b, o + k, none⟩ = some (B8 ((l.take 8).getD k 0)) := HD.out k h9
      go_wp2
      go_roundw
      case rel =>
        refine ⟨k + 1, by omega, by go_num, ?_, by trivial⟩
        have hl := HL8.out
        have hk' : k < (l.take 8).length := by rw [hl]; exact h9
        rw [show (l.take 8).take (k + 1) = (l.take 8).take k ++ [(l.take 8)[k]] from List.take_succ_eq_append_getElem hk', M.w64_snoc, ← M.shift_or]
        have hk2 : k < l.length := by have := HLEN.out; omega
        congr 2
        simp [hk2]
      case measure => simp [intOf]; omega
    · have hk8 : k = 8 := by omega
      have k1 : ¬ (k : Int) < 8 := by omega
      have hcv := fun w => conv_W64_int' (P := Tryz.prog) w 93 3 (M.w64 ((l.take 8).take k)) Tryz.underlying93 Tryz.underlying3
      have HK8 := Lib.hid hk8
      clear hk8
      go_wp2
      go_ret
      refine ⟨?_, ⟨A', HPR.out, HA.out⟩, HG.out⟩
      have e : M.val (l.take 8) = (M.w64 ((l.take 8).take k)).toInt := by rw [HK8.out, List.take_take]; rfl
      rw [e]; rfl
end Go.Proofs.YtidcfjmibljkeaaGreatDoor.K

/- The contracts of the program's rest.small and rest.bytes: they read, or panic. -/
namespace Go.Proofs.YtidcfjmibljkeaaGreatDoor.K
open Go Go.RowKit

/-- it panicked, and the reader is one still -/
def PBad (w : World) (P : Nat) (made bad : Bool) (e : Ending) (w' : World) : Prop :=
  e = .panicked shortP ∧ (∃ l A n c, PrgR w' P l A n c made bad) ∧ w.grownBy w' (some P)
theorem grown_refl (w : World) (row : Option Nat) : w.grownBy w row := ⟨rfl, rfl, rfl, Nat.le_refl _, fun _ _ _ => rfl⟩
theorem grown_trans' {w w1 w2 : World} {row : Option Nat} (h : w.grownBy w1 row) (h' : w1.grownBy w2 row) : w.grownBy w2 row :=
  ⟨h'.os.trans h.os, h'.tape.trans h.tape, h'.output.trans h.output, Nat.le_trans h.size h'.size, fun k hk hne => (h'.block k (Nat.lt_of_lt_of_le hk h.size) hne).trans (h.block k hk hne)⟩
theorem pnum_bad' (P : Nat) (l : List (BitVec 8)) (A : Option Addr) (n c : Nat) (made bad : Bool) (w : World) (h : PrgR w P l A n c made bad) (hn : n < 8) :
    Calls Tryz.prog 98 #[.pointer (some ⟨P, 0, none⟩)] w (PBad w P made bad) :=
  (pnum_bad P l A n c made bad w h hn).mono fun e w' ⟨he, hw⟩ => by subst hw; exact ⟨he, ⟨l, A, n, c, h⟩, grown_refl _ _⟩


/-- bytes were read -/
def BytOk (w : World) (P : Nat) (l : List (BitVec 8)) (A : Option Addr) (made bad : Bool) (e : Ending) (w' : World) : Prop :=
  ∃ B m c' A' n2 c2 l', e = .returned (.slice B m c') ∧ w'.ownsRow w.heap.size 5 1 (.slice B m c') m (bv (M.rdBytes (some l)).1) ∧ (M.rdBytes (some l)).2 = some l' ∧ PrgR w' P l' A' n2 c2 made bad ∧ (∀ a', A' = some a' → ∃ a, A = some a ∧ a'.block = a.block) ∧ w.grownBy w' (some P)
theorem PrgR.grown {w w' : World} {P : Nat} {l : List (BitVec 8)} {A : Option Addr} {n c : Nat} {made bad : Bool} (h : PrgR w P l A n c made bad) {row : Option Nat} (hg : w.grownBy w' row) (hR : row ≠ some P) (hA : ∀ a, A = some a → row ≠ some a.block) : PrgR w' P l A n c made bad := by
  obtain ⟨t, hb⟩ := h.blk
  refine ⟨⟨t, (hg.block P (Array.getElem?_eq_some_iff.1 hb).1 (Ne.symm hR)).trans hb⟩, fun k hk => ?_, h.len, h.none, h.n_le, h.cap, h.ne, h.form⟩
  obtain ⟨b, o, e, hc⟩ := h.rd k hk
  exact ⟨b, o, e, hg.cell hc (Ne.symm (hA ⟨b, o, Option.none⟩ e))⟩

set_option maxHeartbeats 1000000 in
theorem bytes_bad (P : Nat) (l : List (BitVec 8)) (A : Option Addr) (n c : Nat) (made bad : Bool) (w : World) (h : PrgR w P l A n c made bad) (hb : (M.rdBytes (some l)).2 = none) :
    Calls Tryz.prog 101 #[.pointer (some ⟨P, 0, none⟩)] w (PBad w P made bad) := by
  have hlen := h.len
  have hga := World.grownBy_alloc w (.cells #[] 5)
  have h0 := h.grown (hga none) (by simp) (fun _ _ => by simp)
  have H0 := Lib.hid h0; have HGA := Lib.hid (hga (some P))
  clear h h0 hga
  rcases Nat.lt_or_ge n 8 with h8 | h8
  · go_enter Tryz.func101, Tryz.ntmps101
    go_wp2_with fail
    refine (pnum_bad' P l A n c made bad _ H0.out h8).mono ?_
    rintro e w1 ⟨rfl, hp, hg⟩
    have HP := Lib.hid hp; have HG := Lib.hid (grown_trans' HGA.out hg)
    clear hp hg
    go_wp2
    exact ⟨rfl, rfl, HP.out, HG.out⟩
  · have hv : M.val (l.take 8) < 0 ∨ ((n - 8 : Nat) : Int) < M.val (l.take 8) := by
      simp only [M.rdBytes, M.rdNumber] at hb
      rw [if_neg (by omega)] at hb
      simp only at hb
      split at hb
      · rename_i h'; rw [List.length_drop, hlen] at h'; exact h'
      · cases hb
    obtain ⟨v, hvv⟩ : ∃ v, v = M.val (l.take 8) := ⟨_, rfl⟩
    rw [← hvv] at hv
    have HV := Lib.hid hvv
    clear hvv hb hlen
    go_enter Tryz.func101, Tryz.ntmps101
    go_wp2_with fail
    refine (pnum_ok P l A n c made bad _ H0.out h8).mono ?_
    rintro e w1 ⟨rfl, ⟨A', hp, _⟩, hg⟩
    rw [← HV.out]
    have HP := Lib.hid hp; have HG := Lib.hid (grown_trans' HGA.out hg)
    clear hp hg
    go_wp2_with fail
    refine (take_bad P (l.drop 8) A' (n - 8) (c - 8) made bad v w1 HP.out hv).mono ?_
    rintro e w2 ⟨rfl, rfl⟩
    go_wp2
    exact ⟨rfl, rfl, ⟨_, _, _, _, HP.out⟩, HG.out⟩

theorem grown_more {w w2 w3 : World} {P X : Nat} (h : w.grownBy w2 (some P)) (h' : w2.grownBy w3 (some X)) (hX : w.heap.size ≤ X) : w.grownBy w3 (some P) :=
  ⟨h'.os.trans h.os, h'.tape.trans h.tape, h'.output.trans h.output, Nat.le_trans h.size h'.size, fun k hk hne => (h'.block k (Nat.lt_of_lt_of_le hk h.size) (by simp; omega)).trans (h.block k hk hne)⟩
theorem PrgR.lt {w : World} {P : Nat} {l : List (BitVec 8)} {A : Option Addr} {n c : Nat} {made bad : Bool} (h : PrgR w P l A n c made bad) : P < w.heap.size := by
  obtain ⟨t, hb⟩ := h.blk
  exact (Array.getElem?_eq_some_iff.1 hb).1

theorem away {w : World} {A0 A1 A2 : Option Addr} (h0 : ∀ a, A0 = some a → a.block < w.heap.size) (h1 : ∀ a', A1 = some a' → ∃ a, A0 = some a ∧ a'.block = a.block) (h2 : ∀ a', A2 = some a' → ∃ a, A1 = some a ∧ a'.block = a.block) : ∀ a, A2 = some a → some w.heap.size ≠ some a.block := by
  intro a e
  obtain ⟨a1, e1, g1⟩ := h2 a e
  obtain ⟨a0, e0, g0⟩ := h1 a1 e1
  have := h0 a0 e0
  simp; omega
set_option maxHeartbeats 1000000 in
set_option maxRecDepth 100000 in
theorem bytes_ok (P : Nat) (l : List (BitVec 8)) (A : Option Addr) (n c : Nat) (made bad : Bool) (w : World) (l' : List (BitVec 8)) (h : PrgR w P l A n c made bad) (hAB : ∀ a, A = some a → a.block < w.heap.size) (hb : (M.rdBytes (some l)).2 = some l') :
    Calls Tryz.prog 101 #[.pointer (some ⟨P, 0, none⟩)] w (BytOk w P l A made bad) := by
  obtain ⟨i0, hi, hz0, hz1, hz2⟩ := info_parts infoByte
  have hlen := h.len
  have hnl := h.n_le
  have hPl := h.lt
  have hga := World.grownBy_alloc w (.cells #[] 5)
  have h0 := h.grown (hga none) (by simp) (fun _ _ => by simp)
  have hrow := own_lit0 (w := w) (base := w.heap.size) (e := 5) (Nat.le_refl _)
  have hv : 8 ≤ n ∧ 0 ≤ M.val (l.take 8) ∧ M.val (l.take 8) ≤ ((n - 8 : Nat) : Int) ∧ M.rdBytes (some l) = ((l.drop 8).take (M.val (l.take 8)).toNat, some ((l.drop 8).drop (M.val (l.take 8)).toNat)) := by
    simp only [M.rdBytes, M.rdNumber] at hb ⊢
    by_cases h8 : l.length < 8
    · rw [if_pos h8] at hb; cases hb
    · rw [if_neg h8] at hb ⊢
      simp only at hb ⊢
      by_cases hc : M.val (l.take 8) < 0 ∨ ((l.drop 8).length : Int) < M.val (l.take 8)
      · rw [if_pos hc] at hb; cases hb
      · rw [if_neg hc]
        rw [List.length_drop, hlen] at hc
        exact ⟨by omega, by omega, by omega, rfl⟩
  obtain ⟨h8, hv0, hv1, hrb⟩ := hv
  obtain ⟨m, hm⟩ : ∃ m : Nat, M.val (l.take 8) = (m : Int) := ⟨(M.val (l.take 8)).toNat, by omega⟩
  rw [hm] at hrb hv1
  rw [Int.toNat_natCast] at hrb
  have hm1 : m ≤ n - 8 := by omega
  have HRB := Lib.hid hrb; have H0 := Lib.hid h0; have HGA := Lib.hid (hga (some P)); have HROW := Lib.hid hrow; have HM := Lib.hid hm; have HAB := Lib.hid hAB; have HLEN := Lib.hid hlen
  clear h h0 hga hrow hb hrb hm hv0 hv1 hAB hlen
  go_enter Tryz.func101, Tryz.ntmps101
  go_wp2_with fail
  refine (pnum_ok P l A n c made bad _ H0.out h8).mono ?_
  rintro e w1 ⟨rfl, ⟨A1, hp, hA1⟩, hg⟩
  rw [HM.out]
  have HP := Lib.hid hp; have HG := Lib.hid (grown_trans' HGA.out hg); have HA1 := Lib.hid hA1
  have HROW1 := Lib.hid (World.ownsRow.kept HROW.out hg (.inr (by simp [Value.ownBlock]; omega)))
  clear hp hg hA1 HROW
  go_wp2_with fail
  refine (take_ok P (l.drop 8) A1 (n - 8) (c - 8) made bad m w1 HP.out hm1).mono ?_
  rintro e w2 ⟨rfl, ⟨A2, hp2, hA2⟩, hg2, hrd2⟩
  have hcs := hrd2.cells
  have hlm : ((l.drop 8).take m).length = m := by have := HLEN.out; rw [List.length_take, List.length_drop]; omega
  have hl2 : (bv ((l.drop 8).take m)).length = m * 1 := by rw [bv_length, hlm]; omega
  have hnn : A1 = none → m = 0 ∧ c - 8 = 0 := fun e => ⟨by
    rw [e] at hrd2
    rw [hrd2.empty] at hlm; exact hlm.symm, HP.out.none e⟩
  have hs2 : w.heap.size ≤ w2.heap.size := Nat.le_trans HG.out.size hg2.size
  have HP2 := Lib.hid hp2; have HG2 := Lib.hid (grown_trans' HG.out hg2); have HA2 := Lib.hid hA2; have HCS := Lib.hid hcs; have HL2 := Lib.hid hl2; have HNN := Lib.hid hnn
  have HROW2 := Lib.hid (World.ownsRow.kept HROW1.out hg2 (.inr (by simp [Value.ownBlock]; omega)))
  clear hp2 hg2 hA2 hrd2 hcs hlm hl2 hnn HROW1 HP HG
  go_wp2_with (at_builtin; refine wpList_append_any _ rfl _ _ 22 rfl w.heap.size 5 i0 (.int .u8 0) 1 1 Tryz.underlying22 hi hz0 hz1 hz2 rfl (by decide) _ 0 (bv []) rfl HROW2.out A1 m (c - 8) (bv ((l.drop 8).take m)) rfl HNN.out HL2.out HCS.out (bv_one _) (by unfold maxLen; omega) (by omega) hs2 ?_; intro v3 w3 hown3 hgrow3; rw [← bv_append, List.nil_append, Nat.zero_add] at hown3; obtain ⟨B3, d3, rfl⟩ := row_slice hown3; have hgrow4 : w2.grownBy w3 (some w.heap.size) := hgrow3; have HG3 := Lib.hid (grown_more HG2.out hgrow4 (Nat.le_refl _)); have HP3 := Lib.hid (HP2.out.grown hgrow4 (fun e => by (cases e; omega)) (away HAB.out HA1.out HA2.out)); have HO3 := Lib.hid hown3; clear hown3 hgrow3 hgrow4)
  go_ret
  refine ⟨B3, m, d3, A2, _, _, (l.drop 8).drop m, rfl, by rw [HRB.out]; exact HO3.out, by rw [HRB.out], HP3.out, fun a e => ?_, HG3.out⟩
  obtain ⟨a1, e1, h1⟩ := HA2.out a e
  obtain ⟨a0, e0, h0⟩ := HA1.out a1 e1
  exact ⟨a0, e0, h1.trans h0⟩
end Go.Proofs.YtidcfjmibljkeaaGreatDoor.K

/- The deferred closures of wire.reads. -/
namespace Go.Proofs.YtidcfjmibljkeaaGreatDoor.K
open Go Go.RowKit

theorem tmps21 (a b x : Value) : (#[a, b] ++ ((Array.replicate 19 undef).setIfInBounds 4 x).setIfInBounds 0 x) = #[a, b, x, undef, undef, undef, x, undef, undef, undef, undef, undef, undef, undef, undef, undef, undef, undef, undef, undef, undef] := by
  apply Array.toList_inj.1
  simp [List.replicate]
theorem catchInt_idle (p q : Addr) (w : World) :
    CallsD Tryz.prog 134 #[.pointer (some p), .pointer (some q)] .returning w fun e u' w' => e = .returned (.tuple #[]) ∧ u' = .returning ∧ w' = w := by
  refine callsD_of_wpS Tryz.func134 rfl fun c₀ cs hu => ?_
  apply wpS_seq
  apply wpS_region
  simp [wpOpsS, go_sem, recoverD, hu, Tryz.ntmps134, Exit.thenS]
  refine wpS_of_wp ?_
  rw [tmps21]
  go_wp2
  cases c₀
  simp_all [bodyPostS, results, Tryz.results134]
set_option maxHeartbeats 1000000 in
set_option maxRecDepth 100000 in
theorem catchInt_panicking (O R P : Nat) (x : Int) (A : Option Addr) (l : List (BitVec 8)) (n c : Nat) (w : World) (ho : w.cell? ⟨O, 0, none⟩ = some (.int .i64 x)) (hof : w.frozen? ⟨O, 0, none⟩ = false) (hr : w.cell? ⟨R, 0, none⟩ = some (.pointer (some ⟨P, 0, none⟩))) (hp : PrgR w P l A n c true false) (hOP : O ≠ P) :
    CallsD Tryz.prog 134 #[.pointer (some ⟨O, 0, none⟩), .pointer (some ⟨R, 0, none⟩)] (.panicking shortP) w fun e u' w' =>
      e = .returned (.tuple #[]) ∧ u' = .panicking [{ v := .iface 215 (.agg #[]), recovered := true }] ∧ w' = ((w.alloc (.cells #[] 215)).setCell ⟨O, 0, none⟩ (.int .i64 0)).setCell ⟨P, 2, none⟩ (.bool true) := by
  have hta : ∀ w, (Instr.typeAssert (.iface 215 (.agg #[])) 20 215 true).run Tryz.prog w = .ok (.tuple #[.agg #[], .bool true]) w := fun _ => by kernel_rfl
  refine callsD_of_wpS Tryz.func134 rfl fun c₀ cs hu => ?_
  unfold shortP at hu
  have d0 : w.cell? ⟨P, 2, none⟩ = some (.bool false) := hp.cell rfl
  have hr' := cell_old (.cells #[] 215) hr
  have ho' := cell_old (.cells #[] 215) ho
  have hof' : (w.alloc (.cells #[] 215)).frozen? ⟨O, 0, none⟩ = false := (((Below.refl w.heap.size w).alloc (Nat.le_refl _) (.cells #[] 215)).frozen (p := ⟨O, 0, none⟩) (block_lt_of_cell ho)).trans hof
  have d2 : ((w.alloc (.cells #[] 215)).setCell ⟨O, 0, none⟩ (.int .i64 0)).cell? ⟨P, 2, none⟩ = some (.bool false) := (cell_setCell_ne _ (fun e => hOP e.symm)).trans (cell_old _ d0)
  have f2 : (w.alloc (.cells #[] 215)).frozen? ⟨P, 2, none⟩ = false := (((Below.refl w.heap.size w).alloc (Nat.le_refl _) (.cells #[] 215)).frozen (p := ⟨P, 2, none⟩) (block_lt_of_cell d0)).trans (hp.free 2)
  clear hp d0 hr ho hof
  apply wpS_seq
  apply wpS_region
  simp [wpOpsS, go_sem, recoverD, hu, Tryz.ntmps134, Exit.thenS]
  refine wpS_of_wp ?_
  rw [tmps21]
  go_wp2
  cases c₀
  simp_all [bodyPostS, results, Tryz.results134]
end Go.Proofs.YtidcfjmibljkeaaGreatDoor.K

/- The contracts of the program's reader: Bad, Number. -/
namespace Go.Proofs.YtidcfjmibljkeaaGreatDoor.K
open Go Go.RowKit

theorem pBad_nil (w : World) : Calls Tryz.prog 102 #[.pointer none] w fun e w' => e = .returned (.bool true) ∧ w = w' := by
  go_enter Tryz.func102, Tryz.ntmps102
  go_wp2
  go_ret
  exact ⟨rfl, rfl⟩
theorem pBad_any (P : Nat) (l : List (BitVec 8)) (A : Option Addr) (n c : Nat) (bad : Bool) (w : World) (h : PrgR w P l A n c true bad) : Calls Tryz.prog 102 #[.pointer (some ⟨P, 0, none⟩)] w fun e w' => e = .returned (.bool bad) ∧ w = w' := by
  have c1 : w.cell? ⟨P, 1, none⟩ = some (.bool true) := h.cell rfl
  have c2 : w.cell? ⟨P, 2, none⟩ = some (.bool bad) := h.cell rfl
  clear h
  go_enter Tryz.func102, Tryz.ntmps102
  go_wp2
  go_ret
  exact ⟨rfl, rfl⟩
theorem pBad_unmade (P : Nat) (l : List (BitVec 8)) (A : Option Addr) (n c : Nat) (bad : Bool) (w : World) (h : PrgR w P l A n c false bad) : Calls Tryz.prog 102 #[.pointer (some ⟨P, 0, none⟩)] w fun e w' => e = .returned (.bool true) ∧ w = w' := by
  have c1 : w.cell? ⟨P, 1, none⟩ = some (.bool false) := h.cell rfl
  clear h
  go_enter Tryz.func102, Tryz.ntmps102
  go_wp2
  go_ret
  exact ⟨rfl, rfl⟩

theorem closNum_ok (Bx P : Nat) (l : List (BitVec 8)) (A : Option Addr) (n c : Nat) (made bad : Bool) (w : World) (h : PrgR w P l A n c made bad) (hb : w.cell? ⟨Bx, 0, none⟩ = some (.pointer (some ⟨P, 0, none⟩))) (hn : 8 ≤ n) :
    Calls Tryz.prog 97 #[.pointer (some ⟨Bx, 0, none⟩)] w (NumOk w P l A n c made bad) := by
  have H := Lib.hid h
  clear h
  go_enter Tryz.func97, Tryz.ntmps97
  go_wp2_with fail
  refine (pnum_ok P l A n c made bad w H.out hn).mono ?_
  rintro e w1 ⟨rfl, hp, hg⟩
  have HP := Lib.hid hp; have HG := Lib.hid hg
  clear hp hg
  go_wp2
  go_ret
  exact ⟨rfl, HP.out, HG.out⟩
theorem closNum_bad (Bx P : Nat) (l : List (BitVec 8)) (A : Option Addr) (n c : Nat) (made bad : Bool) (w : World) (h : PrgR w P l A n c made bad) (hb : w.cell? ⟨Bx, 0, none⟩ = some (.pointer (some ⟨P, 0, none⟩))) (hn : n < 8) :
    Calls Tryz.prog 97 #[.pointer (some ⟨Bx, 0, none⟩)] w (PBad w P made bad) := by
  have H := Lib.hid h
  clear h
  go_enter Tryz.func97, Tryz.ntmps97
  go_wp2_with fail
  refine (pnum_bad' P l A n c made bad w H.out hn).mono ?_
  rintro e w1 ⟨rfl, hp, hg⟩
  have HP := Lib.hid hp; have HG := Lib.hid hg
  clear hp hg
  go_wp2
  exact ⟨rfl, rfl, HP.out, HG.out⟩

/-- a reader, wherever it stands -/
def PrgN (w : World) (P : Nat) (s : M.Rdr) (A0 : Option Addr) : Prop :=
  ∃ l A n c, (match s with | some l' => PrgR w P l A n c true false ∧ l = l' ∧ (∀ a, A = some a → ∃ a0, A0 = some a0 ∧ a.block = a0.block) | none => ∃ t, w.heap[P]? = some (.cells (readP A n c true true).toArray t (0, 0)))

/-- a number was got, or nothing -/
def GotNum (w : World) (P : Nat) (s : M.Rdr) (A0 : Option Addr) (e : Ending) (w' : World) : Prop := e = .returned (.int .i64 (M.rdNumber s).1) ∧ PrgN w' P (M.rdNumber s).2 A0 ∧ w.grownBy w' (some P)
set_option maxHeartbeats 1000000 in
set_option maxRecDepth 100000 in
theorem readsInt_ok (Bx P : Nat) (l : List (BitVec 8)) (A : Option Addr) (n c : Nat) (w : World) (h : PrgR w P l A n c true false) (hb : w.cell? ⟨Bx, 0, none⟩ = some (.pointer (some ⟨P, 0, none⟩))) (hn : 8 ≤ n) (hAB : ∀ a, A = some a → a.block < w.heap.size) (hBP : Bx ≠ P) :
    Calls Tryz.prog 96 #[.pointer (some ⟨P, 0, none⟩), .func (.func 97) #[] #[.pointer (some ⟨Bx, 0, none⟩)]] w (GotNum w P (some l) A) := by
  have hmf : ∀ (fn : Fn) (first cap : Array Value) (w : World), (Instr.makeFunc fn first cap).run Tryz.prog w = .ok (.func fn first cap) w := fun _ _ _ _ => rfl
  have hPl := h.lt
  have hBl := block_lt_of_cell hb
  have hga : w.grownBy ((w.alloc (.cells #[.pointer (some ⟨P, 0, none⟩)] 87)).alloc (.cells #[.int .i64 0] 3)) none := ⟨rfl, rfl, rfl, by simp; omega, fun k hk _ => (heap_alloc_old _ _ (by simp; omega)).trans (heap_alloc_old w _ hk)⟩
  have h2 := h.grown hga (by simp) (fun _ _ => by simp)
  have hb2 := hga.cell hb (by simp)
  have ho2 : ((w.alloc (.cells #[.pointer (some ⟨P, 0, none⟩)] 87)).alloc (.cells #[.int .i64 0] 3)).heap[w.heap.size + 1]? = some (.cells #[.int .i64 0] 3 (0, 0)) := heap_alloc2_new w _ _
  have hsz2 : ((w.alloc (.cells #[.pointer (some ⟨P, 0, none⟩)] 87)).alloc (.cells #[.int .i64 0] 3)).heap.size = w.heap.size + 2 := by simp
  have H := Lib.hid h2; have HB := Lib.hid hb2; have HGA := Lib.hid hga; have HO2 := Lib.hid ho2; have HSZ2 := Lib.hid hsz2; have HAB := Lib.hid hAB
  clear h hb h2 hb2 hga ho2 hsz2 hAB
  go_enter_defers Tryz.func96, Tryz.ntmps96
  go_wp2_with fail
  refine (pBad_any P l A n c false _ H.out).mono ?_
  rintro e w1 ⟨rfl, rfl⟩
  go_wp2_with fail
  refine (closNum_ok Bx P l A n c true false _ H.out HB.out hn).mono ?_
  rintro e w1 ⟨rfl, ⟨A', hp, hA'⟩, hg⟩
  have hob : w1.heap[w.heap.size + 1]? = some (.cells #[.int .i64 0] 3 (0, 0)) := (hg.block _ (by rw [HSZ2.out]; omega) (by simp; omega)).trans HO2.out
  have hoc : w1.cell? ⟨w.heap.size + 1, 0, none⟩ = some (.int .i64 0) := block_cell (xs := [.int .i64 0]) hob rfl
  have hof : w1.frozen? ⟨w.heap.size + 1, 0, none⟩ = false := frozen_of_row w1 _ 0 _ _ hob
  have HP := Lib.hid hp; have HA' := Lib.hid hA'; have HG := Lib.hid hg; have HOB := Lib.hid hob
  clear hp hA' hg hob
  go_wp2
  have hoc2 : (w1.setCell ⟨w.heap.size + 1, 0, none⟩ (.int .i64 (M.val (l.take 8)))).cell? ⟨w.heap.size + 1, 0, none⟩ = some (.int .i64 (M.val (l.take 8))) := World.cell?_setCell_same _ _ _ hoc
  refine leaves_cons (f := 134) (args := #[.pointer (some ⟨w.heap.size + 1, 0, none⟩), .pointer (some ⟨w.heap.size, 0, none⟩)]) (by simp) (by simp [go_sem]) ?_
  refine (catchInt_idle _ _ _).mono ?_
  rintro e u' w'' ⟨rfl, rfl, rfl⟩
  have hfin : GotNum w P (some l) A (.returned (.int .i64 (M.val (l.take 8)))) (w1.setCell ⟨w.heap.size + 1, 0, none⟩ (.int .i64 (M.val (l.take 8)))) := by
    have hr : M.rdNumber (some l) = (M.val (l.take 8), some (l.drop 8)) := by
      simp only [M.rdNumber]; rw [if_neg (by have := H.out.len; omega)]
    refine ⟨by rw [hr], ?_, ?_⟩
    · rw [hr]
      refine ⟨_, A', _, _, HP.out.grown (grownBy_setCell w1 (w.heap.size + 1) 0 _) (by simp; omega) (fun a e => ?_), rfl, HA'.out⟩
      obtain ⟨a0, e0, h0⟩ := HA'.out a e
      have := HAB.out a0 e0
      simp; omega
    · refine grown_more (X := w.heap.size + 1) (grown_trans' ⟨HGA.out.os, HGA.out.tape, HGA.out.output, HGA.out.size, fun k hk _ => HGA.out.block k hk (by simp)⟩ HG.out) (grownBy_setCell w1 (w.heap.size + 1) 0 _) (by omega)
  have HFIN := Lib.hid hfin
  clear hfin
  simp [Leaves, settle, results, Tryz.results96, go_sem, hoc2]
  exact HFIN.out

set_option maxHeartbeats 1000000 in
set_option maxRecDepth 100000 in
theorem readsInt_bad (Bx P : Nat) (l : List (BitVec 8)) (A : Option Addr) (n c : Nat) (w : World) (h : PrgR w P l A n c true false) (hb : w.cell? ⟨Bx, 0, none⟩ = some (.pointer (some ⟨P, 0, none⟩))) (hn : n < 8) (hBP : Bx ≠ P) :
    Calls Tryz.prog 96 #[.pointer (some ⟨P, 0, none⟩), .func (.func 97) #[] #[.pointer (some ⟨Bx, 0, none⟩)]] w (GotNum w P (some l) A) := by
  have hmf : ∀ (fn : Fn) (first cap : Array Value) (w : World), (Instr.makeFunc fn first cap).run Tryz.prog w = .ok (.func fn first cap) w := fun _ _ _ _ => rfl
  have hPl := h.lt
  have hlen := h.len
  have hga : w.grownBy ((w.alloc (.cells #[.pointer (some ⟨P, 0, none⟩)] 87)).alloc (.cells #[.int .i64 0] 3)) none := ⟨rfl, rfl, rfl, by simp; omega, fun k hk _ => (heap_alloc_old _ _ (by simp; omega)).trans (heap_alloc_old w _ hk)⟩
  have h2 := h.grown hga (by simp) (fun _ _ => by simp)
  have hb2 := hga.cell hb (by simp)
  have ho2 : ((w.alloc (.cells #[.pointer (some ⟨P, 0, none⟩)] 87)).alloc (.cells #[.int .i64 0] 3)).heap[w.heap.size + 1]? = some (.cells #[.int .i64 0] 3 (0, 0)) := heap_alloc2_new w _ _
  have hr2 : ((w.alloc (.cells #[.pointer (some ⟨P, 0, none⟩)] 87)).alloc (.cells #[.int .i64 0] 3)).heap[w.heap.size]? = some (.cells #[.pointer (some ⟨P, 0, none⟩)] 87 (0, 0)) := heap_alloc2_old w _ _
  have hsz2 : ((w.alloc (.cells #[.pointer (some ⟨P, 0, none⟩)] 87)).alloc (.cells #[.int .i64 0] 3)).heap.size = w.heap.size + 2 := by simp
  have H := Lib.hid h2; have HB := Lib.hid hb2; have HGA := Lib.hid hga; have HO2 := Lib.hid ho2; have HR2 := Lib.hid hr2; have HSZ2 := Lib.hid hsz2; have HLEN := Lib.hid hlen
  clear h hb h2 hb2 hga ho2 hr2 hsz2 hlen
  go_enter_defers Tryz.func96, Tryz.ntmps96
  go_wp2_with fail
  refine (pBad_any P l A n c false _ H.out).mono ?_
  rintro e w1 ⟨rfl, rfl⟩
  go_wp2_with fail
  refine (closNum_bad Bx P l A n c true false _ H.out HB.out hn).mono ?_
  rintro e w1 ⟨rfl, ⟨l1, A1, n1, c1, hp⟩, hg⟩
  have hob : w1.heap[w.heap.size + 1]? = some (.cells #[.int .i64 0] 3 (0, 0)) := (hg.block _ (by rw [HSZ2.out]; omega) (by simp; omega)).trans HO2.out
  have hrb : w1.heap[w.heap.size]? = some (.cells #[.pointer (some ⟨P, 0, none⟩)] 87 (0, 0)) := (hg.block _ (by rw [HSZ2.out]; omega) (by simp; omega)).trans HR2.out
  have hoc : w1.cell? ⟨w.heap.size + 1, 0, none⟩ = some (.int .i64 0) := block_cell (xs := [.int .i64 0]) hob rfl
  have hrc : w1.cell? ⟨w.heap.size, 0, none⟩ = some (.pointer (some ⟨P, 0, none⟩)) := block_cell (xs := [.pointer (some ⟨P, 0, none⟩)]) hrb rfl
  have hof : w1.frozen? ⟨w.heap.size + 1, 0, none⟩ = false := frozen_of_row w1 _ 0 _ _ hob
  have HP := Lib.hid hp; have HG := Lib.hid hg; have HOC := Lib.hid hoc; have HRC := Lib.hid hrc; have HOF := Lib.hid hof
  clear hp hg hob hrb hoc hrc hof
  go_wp2
  refine leaves_cons (f := 134) (args := #[.pointer (some ⟨w.heap.size + 1, 0, none⟩), .pointer (some ⟨w.heap.size, 0, none⟩)]) (by simp) (by simp [go_sem]) ?_
  refine (catchInt_panicking (w.heap.size + 1) w.heap.size P 0 A1 l1 n1 c1 _ HOC.out HOF.out HRC.out HP.out (by omega)).mono ?_
  rintro e u' w'' ⟨rfl, rfl, rfl⟩
  have hPl1 := HP.out.lt
  have hw2 : w1.grownBy (w1.alloc (.cells #[] 215)) none := World.grownBy_alloc w1 _ _
  have hlt1 := block_lt_of_cell HOC.out
  have hoc2 : (((w1.alloc (.cells #[] 215)).setCell ⟨w.heap.size + 1, 0, none⟩ (.int .i64 0)).setCell ⟨P, 2, none⟩ (.bool true)).cell? ⟨w.heap.size + 1, 0, none⟩ = some (.int .i64 0) := (cell_setCell_ne _ (by omega)).trans (World.cell?_setCell_same _ _ _ (cell_old _ HOC.out))
  have hfin : GotNum w P (some l) A (.returned (.int .i64 0)) (((w1.alloc (.cells #[] 215)).setCell ⟨w.heap.size + 1, 0, none⟩ (.int .i64 0)).setCell ⟨P, 2, none⟩ (.bool true)) := by
    have hr : M.rdNumber (some l) = (0, none) := by
      simp only [M.rdNumber]; rw [if_pos (by have := HLEN.out; omega)]
    refine ⟨by rw [hr], ?_, ?_⟩
    · rw [hr]
      obtain ⟨t, hblk⟩ := HP.out.blk
      have hblk2 : ((w1.alloc (.cells #[] 215)).setCell ⟨w.heap.size + 1, 0, none⟩ (.int .i64 0)).heap[P]? = some (.cells (readP A1 n1 c1 true false).toArray t (0, 0)) := (heap_setCell_other _ ⟨w.heap.size + 1, 0, none⟩ P _ (by simp; omega)).trans ((heap_alloc_old w1 _ hPl1).trans hblk)
      exact ⟨[], A1, n1, c1, t, block_set hblk2 2 _⟩
    · have g1 : w.grownBy w1 (some P) := grown_trans' ⟨HGA.out.os, HGA.out.tape, HGA.out.output, HGA.out.size, fun k hk _ => HGA.out.block k hk (by simp)⟩ HG.out
      have g2 : w.grownBy (w1.alloc (.cells #[] 215)) (some P) := grown_trans' g1 (World.grownBy_alloc w1 _ _)
      have g3 := grown_more g2 (grownBy_setCell (w1.alloc (.cells #[] 215)) (w.heap.size + 1) 0 (.int .i64 0)) (by omega)
      exact grown_trans' g3 (grownBy_setCell _ P 2 _)
  have HFIN := Lib.hid hfin
  clear hfin
  simp [Leaves, settle, results, Tryz.results96, go_sem, hoc2]
  exact HFIN.out

theorem pBad_bad (P : Nat) (A : Option Addr) (n c : Nat) (w : World) (h : ∃ t, w.heap[P]? = some (.cells (readP A n c true true).toArray t (0, 0))) : Calls Tryz.prog 102 #[.pointer (some ⟨P, 0, none⟩)] w fun e w' => e = .returned (.bool true) ∧ w = w' := by
  obtain ⟨t, hb⟩ := h
  have c1 : w.cell? ⟨P, 1, none⟩ = some (.bool true) := block_cell hb rfl
  have c2 : w.cell? ⟨P, 2, none⟩ = some (.bool true) := block_cell hb rfl
  clear hb
  go_enter Tryz.func102, Tryz.ntmps102
  go_wp2
  go_ret
  exact ⟨rfl, rfl⟩

/-- nothing is read of what is bad -/
theorem readsInt_early (p : Option Addr) (Bx : Addr) (w : World) (hbad : ∀ w1, w.grownBy w1 none → Calls Tryz.prog 102 #[.pointer p] w1 fun e w' => e = .returned (.bool true) ∧ w1 = w') :
    Calls Tryz.prog 96 #[.pointer p, .func (.func 97) #[] #[.pointer (some Bx)]] w fun e w' => e = .returned (.int .i64 0) ∧ Below w.heap.size w w' := by
  have hga : w.grownBy ((w.alloc (.cells #[.pointer p] 87)).alloc (.cells #[.int .i64 0] 3)) none := ⟨rfl, rfl, rfl, by simp; omega, fun k hk _ => (heap_alloc_old _ _ (by simp; omega)).trans (heap_alloc_old w _ hk)⟩
  have hb := hbad _ hga
  have hbel : Below w.heap.size w ((w.alloc (.cells #[.pointer p] 87)).alloc (.cells #[.int .i64 0] 3)) := ((Below.refl _ _).alloc (Nat.le_refl _) _).alloc (by simp) _
  have HB := Lib.hid hb; have HBEL := Lib.hid hbel
  clear hbad hga hb hbel
  go_enter_defers Tryz.func96, Tryz.ntmps96
  go_wp2_with fail
  refine HB.out.mono ?_
  rintro e w1 ⟨rfl, rfl⟩
  go_wp2
  simp [bodyPostD, Leaves, settle, results, Tryz.results96, go_sem]
  exact HBEL.out

set_option maxHeartbeats 1000000 in
theorem pNumber_early (p : Option Addr) (w : World) (hbad : ∀ w1, w.grownBy w1 none → Calls Tryz.prog 102 #[.pointer p] w1 fun e w' => e = .returned (.bool true) ∧ w1 = w') :
    Calls Tryz.prog 54 #[.pointer p] w fun e w' => e = .returned (.int .i64 0) ∧ Below w.heap.size w w' := by
  have hmf : ∀ (fn : Fn) (first cap : Array Value) (w : World), (Instr.makeFunc fn first cap).run Tryz.prog w = .ok (.func fn first cap) w := fun _ _ _ _ => rfl
  have hga : w.grownBy (w.alloc (.cells #[.pointer p] 87)) none := World.grownBy_alloc w _ _
  have hbel : Below w.heap.size w (w.alloc (.cells #[.pointer p] 87)) := (Below.refl _ _).alloc (Nat.le_refl _) _
  have hb := readsInt_early p ⟨w.heap.size, 0, none⟩ (w.alloc (.cells #[.pointer p] 87)) (fun w1 h1 => hbad w1 (grown_trans' hga h1))
  have HB := Lib.hid hb; have HBEL := Lib.hid hbel
  clear hbad hga hb hbel
  go_enter Tryz.func54, Tryz.ntmps54
  go_wp2_with fail
  refine HB.out.mono ?_
  rintro e w1 ⟨rfl, hb1⟩
  have HB1 := Lib.hid (HBEL.out.trans (hb1.mono (by simp)))
  clear hb1
  go_wp2
  go_ret
  exact ⟨rfl, HB1.out⟩

set_option maxHeartbeats 1000000 in
theorem pNumber_any (P : Nat) (s : M.Rdr) (A0 : Option Addr) (w : World) (h : PrgN w P s A0) (hAB : ∀ a, A0 = some a → a.block < w.heap.size) :
    Calls Tryz.prog 54 #[.pointer (some ⟨P, 0, none⟩)] w (GotNum w P s A0) := by
  obtain ⟨l, A, n, c, h⟩ := h
  cases s with
  | none =>
    have h' : ∃ t, w.heap[P]? = some (.cells (readP A n c true true).toArray t (0, 0)) := h
    have hPl : P < w.heap.size := by obtain ⟨t, hb⟩ := h'; exact (Array.getElem?_eq_some_iff.1 hb).1
    refine (pNumber_early (some ⟨P, 0, none⟩) w (fun w1 hg => pBad_bad P A n c w1 ?_)).mono ?_
    · obtain ⟨t, hb⟩ := h'
      exact ⟨t, (hg.block P hPl (by simp)).trans hb⟩
    · rintro e w' ⟨rfl, hb⟩
      obtain ⟨t, hb'⟩ := h'
      exact ⟨rfl, ⟨l, A, n, c, t, (hb.block P hPl).trans hb'⟩, ⟨hb.os, hb.tape, hb.output, hb.size, fun k hk _ => hb.block k hk⟩⟩
  | some l' =>
    obtain ⟨hp, rfl, hA⟩ := h
    have hmf : ∀ (fn : Fn) (first cap : Array Value) (w : World), (Instr.makeFunc fn first cap).run Tryz.prog w = .ok (.func fn first cap) w := fun _ _ _ _ => rfl
    have hPl := hp.lt
    have hga : w.grownBy (w.alloc (.cells #[.pointer (some ⟨P, 0, none⟩)] 87)) none := World.grownBy_alloc w _ _
    have hp2 := hp.grown hga (by simp) (fun _ _ => by simp)
    have hbx : (w.alloc (.cells #[.pointer (some ⟨P, 0, none⟩)] 87)).cell? ⟨w.heap.size, 0, none⟩ = some (.pointer (some ⟨P, 0, none⟩)) := by rw [World.cell?_alloc_new]; rfl
    have hcall : Calls Tryz.prog 96 #[.pointer (some ⟨P, 0, none⟩), .func (.func 97) #[] #[.pointer (some ⟨w.heap.size, 0, none⟩)]] (w.alloc (.cells #[.pointer (some ⟨P, 0, none⟩)] 87)) (GotNum (w.alloc (.cells #[.pointer (some ⟨P, 0, none⟩)] 87)) P (some l) A) := by
      rcases Nat.lt_or_ge n 8 with h8 | h8
      · exact readsInt_bad w.heap.size P l A n c _ hp2 hbx h8 (by omega)
      · exact readsInt_ok w.heap.size P l A n c _ hp2 hbx h8 (fun a e => by obtain ⟨a0, e0, h0⟩ := hA a e; have := hAB a0 e0; simp; omega) (by omega)
    have HC := Lib.hid hcall; have HA := Lib.hid hA; have HGA := Lib.hid hga
    clear hcall hA hga hp2 hbx hp hAB
    go_enter Tryz.func54, Tryz.ntmps54
    go_wp2_with fail
    refine HC.out.mono ?_
    rintro e w1 ⟨rfl, ⟨l2, A2, n2, c2, hp⟩, hg⟩
    have hfin : GotNum w P (some l) A0 (.returned (.int .i64 (M.rdNumber (some l)).1)) w1 := by
      refine ⟨rfl, ⟨l2, A2, n2, c2, ?_⟩, grown_trans' ⟨HGA.out.os, HGA.out.tape, HGA.out.output, HGA.out.size, fun k hk _ => HGA.out.block k hk (by simp)⟩ hg⟩
      cases hs : (M.rdNumber (some l)).2 with
      | none => rw [hs] at hp; exact hp
      | some l3 =>
        rw [hs] at hp
        refine ⟨hp.1, hp.2.1, fun a e => ?_⟩
        obtain ⟨a1, e1, h1⟩ := hp.2.2 a e
        obtain ⟨a0, e0, h0⟩ := HA.out a1 e1
        exact ⟨a0, e0, h1.trans h0⟩
    have HFIN := Lib.hid hfin
    clear hfin hp hg
    go_wp2
    go_ret
    exact HFIN.out
end Go.Proofs.YtidcfjmibljkeaaGreatDoor.K
