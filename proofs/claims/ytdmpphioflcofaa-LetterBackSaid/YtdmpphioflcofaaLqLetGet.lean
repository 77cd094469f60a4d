/- The contracts of letter's Get and of the closure that it hands to tried. -/
import Derived.Test.YtdmpphioflcofaaLqLetRead
import Derived.Test.YtdmpphioflcofaaLq7
namespace Go.Proofs.Ytdmpphioflcofaa.K
open Go Go.RowKit

theorem prgL_grown {w w' : World} {P : Nat} {s : M.Rdr} {A0 : Option Addr} (h : PrgN w P s A0) {row : Option Nat} (hg : w.grownBy w' row) (hR : row ≠ some P) (hA : ∀ a, A0 = some a → row ≠ some a.block) : PrgN w' P s A0 := by
  obtain ⟨l, A, n, c, h⟩ := h
  refine ⟨l, A, n, c, ?_⟩
  cases s with
  | none =>
    obtain ⟨t, hb⟩ := h
    exact ⟨t, (hg.block P (Array.getElem?_eq_some_iff.1 hb).1 (Ne.symm hR)).trans hb⟩
  | some l' => exact ⟨h.1.grown hg hR (fun a e => by obtain ⟨a0, e0, h0⟩ := h.2.2 a e; rw [h0]; exact hA a0 e0), h.2.1, h.2.2⟩
theorem prgL_lt {w : World} {P : Nat} {s : M.Rdr} {A0 : Option Addr} (h : PrgN w P s A0) : P < w.heap.size := by
  obtain ⟨l, A, n, c, h⟩ := h
  cases s with
  | none =>
    obtain ⟨t, hb⟩ := h
    exact (Array.getElem?_eq_some_iff.1 hb).1
  | some l' =>
    obtain ⟨t, hb⟩ := h.1.blk
    exact (Array.getElem?_eq_some_iff.1 hb).1
theorem results_cell_tmpL {fn : Func} {p q : Tmp} {ty : TypeId} {P : Program} (h : fn.results = #[.cell p ty, .tmp q]) (tmps : Array Value) (w : World) (g : Nat) (u v : Value)
    (hp : tmps.getD p undef = .pointer (some ⟨g, 0, none⟩)) (hq : tmps.getD q undef = v) (hrun : (loadVar ty ⟨g, 0, none⟩).run P w = .ok u w) : (results fn tmps).run P w = .ok (.tuple #[u, v]) w := by
  have hp' : tmps[p]?.getD undef = .pointer (some ⟨g, 0, none⟩) := by simpa using hp
  have hq' : tmps[q]?.getD undef = v := by simpa using hq
  simp [results, h, hp', hq', asAddr, hrun]
theorem Bank.permA' {w0 w : World} {L L' : List Acc} (h : Bank w0 w L) (hp : L.Perm L') : Bank w0 w L' := ⟨h.since, fun p hm => h.own p (hp.mem_iff.2 hm), (List.Perm.pairwise_iff (fun {_ _} h => Apartness.symm h) hp).1 h.sep⟩
/-- what stands when the closure is through: the letter's box, the bytes' box, the entries -/
def GetR (bs : List (BitVec 8)) (Gl Gb : Nat) (A : Option Addr) (n c : Nat) (ok : Bool) (L2 : List Acc) : Prop :=
  (ok = true ∧ ∃ l xs A' k c', M.lread bs = some l ∧ l.ents = xs.map EV.e ∧ k = xs.length ∧ L2 = boxAcc Gl 25 (letL l A' k c') :: boxAcc Gb 29 [.slice A n c] :: evsAcc A' k c' xs :: evRows xs) ∨
  (ok = false ∧ M.lread bs = none ∧ L2 = [boxAcc Gl 25 zeroLL, boxAcc Gb 29 [.slice A n c]])
def ClosL (wB : World) (I : Nat) (R : Bool → List Acc → Prop) (e : Ending) (w2 : World) : Prop :=
  ∃ ok L2, R ok L2 ∧ Bank wB w2 (boxAcc I 4 [.bool false] :: L2) ∧ ((ok = true ∧ e = .returned (.tuple #[])) ∨ (ok = false ∧ e = .panicked wrongP))
set_option maxHeartbeats 4000000 in
set_option maxRecDepth 100000 in
theorem get1L_any (wB w : World) (I Gl Gb : Nat) (A : Option Addr) (n c : Nat) (bs : List (BitVec 8)) (h : Bank wB w [boxAcc I 4 [.bool false], boxAcc Gl 25 zeroLL, boxAcc Gb 29 [.slice A n c]]) (hr : RowRd wB ⟨A, n, c⟩ bs) (hn : n ≤ 1000000000000) :
    Calls Try.prog 33 #[.pointer (some ⟨Gb, 0, none⟩), .pointer (some ⟨Gl, 0, none⟩)] w (ClosL wB I (GetR bs Gl Gb A n c)) := by
  have BK0 := Lib.hid h; have HR := Lib.hid hr
  clear hr
  have x0 := h.cell 2 rfl 0 rfl
  clear h
  go_enter Try.func33, Try.ntmps33
  go_wp2_with fail
  clear x0
  refine (pNew_any A n c bs w (Since.row BK0.out.since HR.out) hn).mono ?_
  rintro e w2 ⟨P, A0, rfl, hP, hq, hA0, hb⟩
  have H2 := Lib.hid (Held.start (Q := fun w s => PrgN w P s A0) BK0.out hq hb hP (prgL_lt hq) (fun a e => ⟨(hA0 a e).1, (hA0 a e).2.1⟩) (fun w w' s row h hg hR hA => prgL_grown h hg hR hA))
  clear hq hA0 hb hP BK0
  go_wp2_with fail
  refine (read_any wB w2 P A0 bs _ H2.out).mono ?_
  rintro e w3 (⟨l, xs, A', k, c', hl, rfl, hx, hk, hB⟩ | ⟨hl, rfl, hB⟩)
  · have HL := Lib.hid hl; have HX := Lib.hid hx; have HK := Lib.hid hk
    have BK := Lib.hid (hB.permA' (List.perm_append_comm (l₁ := evsAcc A' k c' xs :: evRows xs) (l₂ := [boxAcc I 4 [.bool false], boxAcc Gl 25 zeroLL, boxAcc Gb 29 [.slice A n c]])))
    clear hl hx hk hB H2
    have HRES := Lib.hid (BK.out.boxAt 1 rfl).2
    have HFIN := Lib.hid (show ClosL wB I (GetR bs Gl Gb A n c) (.returned (.tuple #[])) (w3.setRow Gl (letL l A' k c').toArray) from
      ⟨true, _, .inl ⟨rfl, l, xs, A', k, c', HL.out, HX.out, HK.out, rfl⟩, BK.out.boxRow 1 rfl (letL l A' k c') rfl (by simp [zeroLL]), .inl ⟨rfl, rfl⟩⟩)
    go_wp2_with (with_reducible refine wpList_store_row rfl 25 (.tmp 1) (.tmp 4) rfl Gl (letL l A' k c').toArray rfl rfl 25 _ HRES.out (infoLetL _ _ _ _) rfl (letL_one _ _ _ _) ?_)
    go_end0
    exact HFIN.out
  · have HFIN := Lib.hid (show ClosL wB I (GetR bs Gl Gb A n c) (.panicked wrongP) w3 from ⟨false, _, .inr ⟨rfl, hl, rfl⟩, hB, .inr ⟨rfl, rfl⟩⟩)
    clear hl hB H2
    go_wp2
    exact ⟨rfl, HFIN.out⟩
set_option maxHeartbeats 4000000 in
set_option maxRecDepth 100000 in
theorem triedG_any (wB w : World) (Lb : List Acc) (cap : Array Value) (R : Bool → List Acc → Prop) (hB : Bank wB w Lb)
    (hc : ∀ w1, Bank wB w1 (boxAcc w.heap.size 4 [.bool false] :: Lb) → Calls Try.prog 33 (#[] ++ cap) w1 (ClosL wB w.heap.size R)) :
    Calls Try.prog 26 #[.func (.func 33) #[] cap] w fun e w' => ∃ ok L2, R ok L2 ∧ e = .returned (.bool ok) ∧ Bank wB w' L2 := by
  have hmf : ∀ (fn : Fn) (first cap : Array Value) (w : World), (Instr.makeFunc fn first cap).run Try.prog w = .ok (.func fn first cap) w := fun _ _ _ _ => rfl
  have BK0 := Lib.hid (hB.box #[.bool false] 4 (by simp))
  have HC := Lib.hid (hc _ BK0.out)
  clear hc hB
  simp only [Array.empty_append] at HC
  go_enter_defers Try.func26, Try.ntmps26
  go_wp2_with fail
  generalize hw1 : (w.alloc (.cells #[.bool false] 4)) = w1 at *
  clear hw1
  refine HC.out.mono ?_
  rintro e w2 ⟨ok, L2, hR, hB2, (⟨rfl, rfl⟩ | ⟨rfl, rfl⟩)⟩
  · have BK2 := Lib.hid hB2
    have HR := Lib.hid hR
    have c1 := BK2.out.cell 0 rfl 0 rfl
    have f1 := BK2.out.free 0 rfl 0
    have BK3 := Lib.hid (BK2.out.boxSet 0 rfl 0 (.bool true))
    clear hR hB2 BK0 BK2
    go_wp2
    refine leaves_cons (f := 44) (args := #[.pointer (some ⟨w.heap.size, 0, none⟩)]) (by simp) (by simp [go_sem]) ?_
    refine (catchL_idle _ _).mono ?_
    rintro e u' w'' ⟨rfl, rfl, rfl⟩
    have r1 := BK3.out.cell 0 rfl 0 rfl
    exact ⟨.bool true, by simp [results, Try.results26, go_sem, r1], ⟨true, L2, HR.out, rfl, BK3.out.drop⟩⟩
  · have BK2 := Lib.hid hB2
    have HR := Lib.hid hR
    have HBX := Lib.hid (BK2.out.boxAt 0 rfl).2
    have BK3 := Lib.hid ((BK2.out.alloc (.cells #[] 90)).boxSet 0 rfl 0 (.bool false))
    clear hR hB2 BK0 BK2
    go_wp2
    refine leaves_cons (f := 44) (args := #[.pointer (some ⟨w.heap.size, 0, none⟩)]) (by simp) (by simp [go_sem]) ?_
    refine (catchL_panicking w.heap.size _ _ HBX.out).mono ?_
    rintro e u' w'' ⟨rfl, rfl, rfl⟩
    have r1 := BK3.out.cell 0 rfl 0 rfl
    exact ⟨.bool false, by simp [results, Try.results26, go_sem, r1], ⟨false, L2, HR.out, rfl, BK3.out.drop⟩⟩
/-- the letter that bytes are, or the error -/
def LGot (w : World) (bs : List (BitVec 8)) (e : Ending) (w' : World) : Prop :=
  ∃ l xs A k c, l = M.lget bs ∧ e = .returned (.tuple #[.agg (letL l A k c).toArray, .int .i64 (M.lgetE bs : Int)]) ∧ l.ents = xs.map EV.e ∧ k = xs.length ∧ Bank w w' (evsAcc A k c xs :: evRows xs)
theorem load_let (l : M.Let) (A : Option Addr) (n c : Nat) {w : World} {g : Nat} (h : w.heap[g]? = some (.cells (letL l A n c).toArray 25 (0, 0))) : (loadVar 25 ⟨g, 0, none⟩).run Try.prog w = .ok (.agg (letL l A n c).toArray) w := by
  have x0 : w.cell? ⟨g, 0, none⟩ = some (B8 l.kind) := block_cell h rfl
  have x1 : w.cell? ⟨g, 1, none⟩ = some (.int .i64 l.src) := block_cell h rfl
  have x2 : w.cell? ⟨g, 2, none⟩ = some (.int .i64 l.dst) := block_cell h rfl
  have x3 : w.cell? ⟨g, 3, none⟩ = some (.int .i64 l.term) := block_cell h rfl
  have x4 : w.cell? ⟨g, 4, none⟩ = some (.int .i64 l.index) := block_cell h rfl
  have x5 : w.cell? ⟨g, 5, none⟩ = some (.int .i64 l.was) := block_cell h rfl
  have x6 : w.cell? ⟨g, 6, none⟩ = some (.bool l.ok) := block_cell h rfl
  have x7 : w.cell? ⟨g, 7, none⟩ = some (.int .i64 l.commit) := block_cell h rfl
  have x8 : w.cell? ⟨g, 8, none⟩ = some (.int .i64 l.version) := block_cell h rfl
  have x9 : w.cell? ⟨g, 9, none⟩ = some (.slice A n c) := block_cell h rfl
  simp [go_sem, x0, x1, x2, x3, x4, x5, x6, x7, x8, x9, letL]
set_option maxHeartbeats 4000000 in
set_option maxRecDepth 100000 in
/-- letter.Get -/
theorem lGet_any (A : Option Addr) (n c : Nat) (bs : List (BitVec 8)) (w : World) (hr : RowRd w ⟨A, n, c⟩ bs) (hn : n ≤ 1000000000000) :
    Calls Try.prog 15 #[.slice A n c] w (LGot w bs) := by
  have hmf : ∀ (fn : Fn) (first cap : Array Value) (w : World), (Instr.makeFunc fn first cap).run Try.prog w = .ok (.func fn first cap) w := fun _ _ _ _ => rfl
  have HR := Lib.hid hr
  have BK0 := Lib.hid (((Bank.nil (Below.refl w.heap.size w)).box #[.slice A n c] 29 (by simp)).box #[.int .u8 0, .int .i64 0, .int .i64 0, .int .i64 0, .int .i64 0, .int .i64 0, .bool false, .int .i64 0, .int .i64 0, .slice none 0 0] 25 (by decide))
  rw [World.size_alloc] at BK0
  clear hr
  go_enter Try.func15, Try.ntmps15
  go_wp2_with fail
  generalize (w.alloc (.cells #[.slice A n c] 29)).alloc (.cells #[.int .u8 0, .int .i64 0, .int .i64 0, .int .i64 0, .int .i64 0, .int .i64 0, .bool false, .int .i64 0, .int .i64 0, .slice none 0 0] 25) = w1 at *
  generalize hX : w.heap.size = X at *
  refine (triedG_any w w1 [boxAcc (X + 1) 25 zeroLL, boxAcc X 29 [.slice A n c]] #[.pointer (some ⟨X, 0, none⟩), .pointer (some ⟨X + 1, 0, none⟩)] (GetR bs (X + 1) X A n c) BK0.out (fun w2 hB => get1L_any w w2 w1.heap.size (X + 1) X A n c bs hB HR.out hn)).mono ?_
  rintro e w3 ⟨ok, L2, (⟨rfl, l, xs, A', k, c', hl, hx, hk, rfl⟩ | ⟨rfl, hl, rfl⟩), rfl, hB⟩
  · have BK := Lib.hid hB
    have x0 := hB.cell 0 rfl 0 rfl
    have x1 := hB.cell 0 rfl 1 rfl
    have x2 := hB.cell 0 rfl 2 rfl
    have x3 := hB.cell 0 rfl 3 rfl
    have x4 := hB.cell 0 rfl 4 rfl
    have x5 := hB.cell 0 rfl 5 rfl
    have x6 := hB.cell 0 rfl 6 rfl
    have x7 := hB.cell 0 rfl 7 rfl
    have x8 := hB.cell 0 rfl 8 rfl
    have x9 := hB.cell 0 rfl 9 rfl
    have HRES := Lib.hid (hB.boxAt 0 rfl).2
    have HFIN := Lib.hid (show LGot w bs (.returned (.tuple #[.agg (letL l A' k c').toArray, .int .i64 0])) (w3.setRow (X + 1) (letL l A' k c').toArray) from
      ⟨l, xs, A', k, c', by rw [M.lget, hl]; rfl, by rw [M.lgetE, hl]; rfl, hx, hk, (hB.boxRow 0 rfl (letL l A' k c') rfl (by simp [letL])).drop.drop⟩)
    clear hl hx hk hB BK0
    go_wp2_with (with_reducible refine wpList_store_row rfl 25 (.tmp 2) (.tmp 8) rfl (X + 1) (letL l A' k c').toArray rfl rfl 25 _ HRES.out (infoLetL _ _ _ _) rfl (letL_one _ _ _ _) ?_)
    refine bodyPost_ret (v := .tuple #[.agg (letL l A' k c').toArray, .int .i64 0]) ?_ rfl HFIN.out
    exact results_cell_tmpL rfl _ _ (X + 1) _ _ rfl rfl (load_let _ _ _ _ (setRow_heap _ _ _ _ _ _ HRES.out))
  · have HRES := Lib.hid (hB.boxAt 0 rfl).2
    have HFIN := Lib.hid (show LGot w bs (.returned (.tuple #[.agg (letL M.zeroLet none 0 0).toArray, .int .i64 4])) (w3.setRow (X + 1) (letL M.zeroLet none 0 0).toArray) from
      ⟨M.zeroLet, [], none, 0, 0, by rw [M.lget, hl]; rfl, by rw [M.lgetE, hl]; rfl, rfl, rfl, ((hB.boxRow 0 rfl (letL M.zeroLet none 0 0) rfl (by simp [zeroLL])).drop.drop).none _ _⟩)
    clear hl hB BK0
    go_wp2_with (with_reducible refine wpList_store_row rfl 25 (.tmp 2) (.tmp 7) rfl (X + 1) (letL M.zeroLet none 0 0).toArray rfl rfl 25 _ HRES.out (infoLetL _ _ _ _) rfl (letL_one _ _ _ _) ?_)
    refine bodyPost_ret (v := .tuple #[.agg (letL M.zeroLet none 0 0).toArray, .int .i64 4]) ?_ rfl HFIN.out
    exact results_cell_tmpL rfl _ _ (X + 1) _ _ rfl rfl (load_let _ _ _ _ (setRow_heap _ _ _ _ _ _ HRES.out))
end Go.Proofs.Ytdmpphioflcofaa.K
