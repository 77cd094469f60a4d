/- Merged: WireNewB, Evs, WireEntry, FrMath, StoMath, StoMath2, HeldL, Side. -/
import Derived.Test.YtfpjmeknjhhakaaGreatSz4
import Derived.Deep.RegionHeld3
import Derived.OrdersHeld
import Derived.Deep.RegionHeld
set_option linter.unusedVariables false
/- The contracts of the program's NewReader, and of Bad and Done in every state. -/
namespace Go.Proofs.YtfpjmeknjhhakaaGreat.K
open Go Go.RowKit

/-- a new reader of the program's -/
def PNew (w : World) (bs : List (BitVec 8)) (e : Ending) (w' : World) : Prop := ∃ P A, e = .returned (.pointer (some ⟨P, 0, none⟩)) ∧ w.heap.size ≤ P ∧ PrgN w' P (some bs) A ∧ (∀ a, A = some a → w.heap.size ≤ a.block ∧ a.block < w'.heap.size ∧ a.block ≠ P) ∧ Below w.heap.size w w'
set_option maxHeartbeats 1000000 in
set_option maxRecDepth 100000 in
theorem pNew_any (A : Option Addr) (n c : Nat) (bs : List (BitVec 8)) (w : World) (hx : RowRd w ⟨A, n, c⟩ bs) (hn2 : n ≤ 1000000000000) :
    Calls Tryz.prog 54 #[.slice A n c] w (PNew w bs) := by
  obtain ⟨i0, hi, hz0, hz1, hz2⟩ := info_parts infoByte
  have hlen : bs.length = n := hx.len
  have hl2 : (bv bs).length = n * 1 := by rw [bv_length]; omega
  have hnn : A = none → n = 0 ∧ c = 0 := fun h => ⟨by
    have hrd : Rd w A bs := hx.rd
    rw [h] at hrd
    rw [hrd.empty] at hlen; exact hlen.symm, hx.none h⟩
  have hcs := hx.rd.cells
  have HL2 := Lib.hid hl2; have HNN := Lib.hid hnn; have HCS := Lib.hid hcs; have HLEN := Lib.hid hlen
  clear hx hlen hl2 hnn hcs
  go_enter Tryz.func54, Tryz.ntmps54
  go_wp2_with (at_builtin; refine wpList_append_any _ rfl _ _ 37 rfl w.heap.size 5 i0 (.int .u8 0) 1 1 Tryz.underlying37 hi hz0 hz1 hz2 rfl (by decide) _ 0 (bv []) rfl (own_lit0 (Nat.le_refl _)) A n c (bv bs) rfl HNN.out HL2.out (fun ad had j u hu => cell_old _ (HCS.out ad had j u hu)) (bv_one _) (by unfold maxLen; omega) (by omega) (by simp) ?_; intro v3 w3 hown3 hgrow3; rw [← bv_append, List.nil_append, Nat.zero_add] at hown3; obtain ⟨B3, d3, rfl⟩ := row_slice hown3; have hb3 : Below w.heap.size w w3 := ((Below.refl w.heap.size w).alloc (Nat.le_refl _) _).grown hgrow3 (by simp) (fun k hk => ((own_lit0 (e := 5) (Nat.le_refl w.heap.size)).lt k hk).1); have HB3 := Lib.hid hb3; have HO3 := Lib.hid hown3; clear hb3 hown3 hgrow3)
  go_ret
  have hr := row_room HO3.out
  have hb := HB3.out
  have hsz := hb.size
  refine ⟨w3.heap.size, B3, rfl, hsz, ⟨bs, B3, n, d3, ⟨⟨_, by exact heap_alloc_new w3 (.cells (readP B3 n d3 true false).toArray 142)⟩, ?_, HLEN.out, fun e => (hr.2.2.1 e).2, hn2, ⟨hr.1, hr.2.1⟩, fun a e => ?_, fun a e => ?_⟩, rfl, fun a e => ⟨a, e, rfl⟩⟩, fun a e => ?_, hb.alloc hsz _⟩
  · exact (Rd.of_own HO3.out).below ((Below.refl _ _).alloc (Nat.le_refl _) _)
  · obtain ⟨g, rfl, _, hg⟩ := hr.2.2.2 a e
    show g ≠ _; omega
  · obtain ⟨g, rfl, _, hg⟩ := hr.2.2.2 a e
    exact ⟨g, 0, rfl⟩
  · obtain ⟨g, rfl, hg, hg2⟩ := hr.2.2.2 a e
    refine ⟨hg, ?_, ?_⟩
    · show g < _; simp; omega
    · show g ≠ _; omega

theorem pBadN (P : Nat) (s : M.Rdr) (A0 : Option Addr) (w : World) (h : PrgN w P s A0) : Calls Tryz.prog 84 #[.pointer (some ⟨P, 0, none⟩)] w fun e w' => e = .returned (.bool s.isNone) ∧ w = w' := by
  obtain ⟨l, A, n, c, h⟩ := h
  cases s with
  | none => exact pBad_bad P A n c w h
  | some l' => exact pBad_any P l A n c false w h.1
theorem pDone_bad (p : Option Addr) (w : World) (hbad : Calls Tryz.prog 84 #[.pointer p] w fun e w' => e = .returned (.bool true) ∧ w = w') : Calls Tryz.prog 56 #[.pointer p] w fun e w' => e = .returned (.bool false) ∧ w = w' := by
  go_enter Tryz.func56, Tryz.ntmps56
  go_wp2_with fail
  refine hbad.mono ?_
  rintro e w1 ⟨rfl, rfl⟩
  go_wp2
  go_ret
  exact ⟨rfl, rfl⟩
theorem pDone_good (P : Nat) (l : List (BitVec 8)) (A : Option Addr) (n c : Nat) (w : World) (h : PrgR w P l A n c true false) : Calls Tryz.prog 56 #[.pointer (some ⟨P, 0, none⟩)] w fun e w' => e = .returned (.bool ((n : Int) == 0)) ∧ w = w' := by
  have c0 : w.cell? ⟨P, 0, none⟩ = some (.slice A n c) := h.cell rfl
  have H := Lib.hid h
  clear h
  go_enter Tryz.func56, Tryz.ntmps56
  go_wp2_with fail
  refine (pBad_any P l A n c false w H.out).mono ?_
  rintro e w1 ⟨rfl, rfl⟩
  go_wp2
  go_ret
  exact ⟨rfl, rfl⟩
theorem pDoneN (P : Nat) (s : M.Rdr) (A0 : Option Addr) (w : World) (h : PrgN w P s A0) : Calls Tryz.prog 56 #[.pointer (some ⟨P, 0, none⟩)] w fun e w' => e = .returned (.bool (decide (s = some []))) ∧ w = w' := by
  have hb := pBadN P s A0 w h
  obtain ⟨l, A, n, c, h⟩ := h
  cases s with
  | none => exact (pDone_bad _ w hb).mono fun e w' ⟨h1, h2⟩ => ⟨by rw [h1]; rfl, h2⟩
  | some l' =>
    obtain ⟨hp, rfl, _⟩ := h
    refine (pDone_good P l A n c w hp).mono fun e w' ⟨h1, h2⟩ => ⟨?_, h2⟩
    have hl := hp.len
    have e2 : ((n : Int) == 0) = decide (some l = some []) := by
      rw [Bool.eq_iff_iff, decide_eq_true_iff, beq_iff_eq]
      constructor
      · intro h0
        rw [List.eq_nil_of_length_eq_zero (by omega : l.length = 0)]
      · intro h0
        have h1 : l = [] := Option.some.inj h0
        rw [h1] at hl; simp at hl; omega
    rw [h1, e2]
end Go.Proofs.YtfpjmeknjhhakaaGreat.K

/- Entries as accounts of a bank, and a reader beside a bank (for seats without letter). -/
namespace Go.Proofs.YtfpjmeknjhhakaaGreat.K
open Go Go.RowKit

/-- an entry and where its data lie -/
structure EV where
  e : M.Ent
  A : Option Addr
  n : Nat
  c : Nat
def EV.cells (x : EV) : List Value := entL x.e.term x.e.version x.e.server x.e.kind x.e.good x.A x.n x.c
def EV.acc (x : EV) : Acc := rowAcc x.A x.n x.c x.e.data
def evRows (xs : List EV) : List Acc := xs.reverse.map EV.acc
theorem evRows_snoc (xs : List EV) (x : EV) : evRows (xs ++ [x]) = x.acc :: evRows xs := by simp [evRows]
def evsAcc (A : Option Addr) (n c : Nat) (xs : List EV) : Acc := ⟨.slice A n c, n, 62, 6, xs.flatMap EV.cells⟩
theorem EV.cells_length (x : EV) : x.cells.length = 6 := rfl
section
variable {w0 w w' : World} {Q : World → M.Rdr → Prop} {s s' : M.Rdr} {R : Nat} {Bd : Option Addr} {L : List Acc}
theorem Held.perm (h : Held w0 w Q s R Bd L) {L' : List Acc} (hp : L.Perm L') : Held w0 w Q s R Bd L' :=
  ⟨⟨h.bank.since, fun p hm => h.bank.own p (hp.mem_iff.2 hm), (List.Perm.pairwise_iff (fun {_ _} h => Apartness.symm h) hp).1 h.bank.sep⟩, h.q, h.keep, h.lt, h.base, fun p hm => h.away p (hp.mem_iff.2 hm)⟩
theorem Held.nil6 (h : Held w0 w Q s R Bd L) (e : TypeId) (size : Nat) : Held w0 w Q s R Bd (⟨.slice none 0 0, 0, e, size, []⟩ :: L) :=
  ⟨h.bank.none e size, h.q, h.keep, h.lt, h.base, fun p hp b hb => by
    rcases List.mem_cons.1 hp with rfl | hp
    · cases hb
    · exact h.away p hp b hb⟩
theorem Held.put (h : Held w0 w Q s R Bd L) (i : Nat) {p p' : Acc} (hi : L[i]? = some p) (hB : Bank w0 w' (L.set i p')) (hg : w.grownBy w' p.v.ownBlock) (hb : p'.v.ownBlock = p.v.ownBlock ∨ p'.v.ownBlock = some w.heap.size) : Held w0 w' Q s R Bd (L.set i p') := by
  have hp : p ∈ L := List.mem_of_getElem? hi
  refine ⟨hB, h.keep _ _ _ _ h.q hg (fun e => (h.away p hp R e).1 rfl) (fun a ea e => (h.away p hp a.block e).2 a ea rfl), h.keep, ⟨Nat.lt_of_lt_of_le h.lt.1 hg.size, fun a e => Nat.lt_of_lt_of_le (h.lt.2 a e) hg.size⟩, h.base, fun q hq b hbq => ?_⟩
  rcases List.mem_or_eq_of_mem_set hq with hq | rfl
  · exact h.away q hq b hbq
  · rcases hb with hb | hb
    · exact h.away p hp b (hb.symm.trans hbq)
    · have e : w.heap.size = b := Option.some.inj (hb.symm.trans hbq)
      have h3 := h.lt.1
      exact ⟨by omega, fun a ea => by have := h.lt.2 a ea; omega⟩
theorem step_held {P : Program} {ops : Array Oper} {o : Oper} {a : Act} {K : Act → World → Prop} {Q1 : Exit → Act → World → Prop} {E : Prop} (h : Held w0 w Q s R Bd L) (hq : Held w0 w Q s R Bd L → if Region.wanted o (yielded ops a.tmps) = true then Oper.wp P o a w K Q1 else E) : if Region.wanted o (yielded ops a.tmps) = true then Oper.wp P o a w K Q1 else E := hq h
theorem step_append_held {P : Program} {ops : Array Oper} {o : Oper} {a : Act} {K : Act → World → Prop} {Q1 : Exit → Act → World → Prop} {E : Prop} (h : Held w0 w Q s R Bd L) (hgd : o.guard = Option.none) (s0 y : Operand) (t : TypeId)
    (ho : o.op = .call { callee := .builtin .append, args := #[s0, y], argTypes := #[t, t] })
    (e : TypeId) (z : Value) (size bytes : Nat) (hz : (P.info? e).map (fun i => (i.zero, i.size, i.bytes)) = some (some z, size, bytes)) (ht : P.underlying t = some (.slice e)) (hzs : z.cells.size = size) (hsz : 0 < size)
    (k : Nat) (A : Option Addr) (n cap : Nat) (xs : List Value) (hs : a.eval s0 = .slice A n cap) (hk : L[k]? = some ⟨.slice A n cap, n, e, size, xs⟩)
    (ad : Addr) (m c : Nat) (news : List Value) (hx : a.eval y = .slice (some ad) m c) (hl : news.length = m * size) (hnews : ∀ j u, news[j]? = some u → w.cell? (ad.add j) = some u) (h1 : ∀ u ∈ news, u.oneCell' = true)
    (h63 : n + m ≤ maxLen) (hbytes : (n + m) * bytes ≤ 140737488355328)
    (hK : ∀ A' n' c' w', n' = n + m → Held w0 w' Q s R Bd (L.set k ⟨.slice A' n' c', n', e, size, xs ++ news⟩) → K (a.put o.dst (.slice A' n' c')) w') :
    if Region.wanted o (yielded ops a.tmps) = true then Oper.wp P o a w K Q1 else E := by
  have hw : Region.wanted o (yielded ops a.tmps) = true := by simp [Region.wanted, hgd]
  rw [if_pos hw]
  obtain ⟨i0, hi, hz0, hz1, hz2⟩ := info_parts hz
  obtain ⟨A', c', w', hr, h2, h3, h4⟩ := run_append_bankG (P := P) h.bank t o.type e i0 z size bytes ht hi hz0 hz1 hz2 hzs hsz k A n cap xs hk ad m c news hl hnews h1 h63 hbytes
  unfold Oper.wp execOp
  simp only [ho, resolve, invoke, builtin, Sem.run_bind, Sem.run_pure, Result.andThen_ok, List.map_toArray, List.map_cons, List.map_nil, hs, hx, hr]
  exact hK A' _ c' w' rfl (h.put k hk h2 h3 h4)
theorem Held.drew (h : Held w0 w Q s R Bd L) : Held w0 w.drew Q s R Bd L := h.call (Below.refl _ _).drew
end
theorem flat6 : ∀ (xs : List EV) (i j : Nat) (hi : i < xs.length), j < 6 → (xs.flatMap EV.cells)[i * 6 + j]? = (xs[i]).cells[j]?
  | [], i, j, hi, hj => absurd hi (Nat.not_lt_zero _)
  | x :: xs, 0, j, hi, hj => by
    rw [List.flatMap_cons, Nat.zero_mul, Nat.zero_add, List.getElem?_append_left (by rw [x.cells_length]; exact hj)]; rfl
  | x :: xs, i + 1, j, hi, hj => by
    rw [List.flatMap_cons, List.getElem?_append_right (by rw [x.cells_length]; omega), x.cells_length, show (i + 1) * 6 + j - 6 = i * 6 + j by omega]
    exact flat6 xs i j (by simpa using hi) hj
/-- entries of a bank, read -/
theorem evs_rd {w0 w : World} {L : List Acc} {A : Option Addr} {n c : Nat} {xs : List EV} (h : Bank w0 w L) (ha : evsAcc A n c xs ∈ L) (hr : ∀ x ∈ xs, x.acc ∈ L) (hn : xs.length = n) : EntsRd w A (xs.map EV.e) := by
  intro i hi
  have hi' : i < xs.length := by simpa using hi
  have hx := h.own _ (hr _ (List.getElem_mem hi'))
  have ho := h.own _ ha
  have hA : ∃ g, A = some ⟨g, 0, none⟩ := by
    rcases ho.2 with ⟨h0, _⟩ | ⟨g, cap, cur, hv, _⟩
    · exfalso
      have h1 : n = 0 := by
        simp only [evsAcc, Value.slice.injEq] at h0
        exact h0.2.1
      omega
    · simp only [evsAcc, Value.slice.injEq] at hv
      exact ⟨g, hv.1⟩
  obtain ⟨g, rfl⟩ := hA
  have hc : ∀ j, j < 6 → w.cell? ⟨g, 0 + i * 6 + j, none⟩ = (xs[i]).cells[j]? := fun j hj => by
    rw [Nat.zero_add]
    exact (World.ownsRow.cellAt ho (i * 6 + j) (by show _ < n * 6; omega)).trans (flat6 xs i j hi' hj)
  refine ⟨g, 0, rfl, (xs[i]).A, (xs[i]).n, (xs[i]).c, ?_, ?_⟩
  · rw [List.getElem_map]
    exact ⟨hc 0 (by omega), hc 1 (by omega), hc 2 (by omega), hc 3 (by omega), hc 4 (by omega), hc 5 (by omega)⟩
  · rw [List.getElem_map]
    exact RowRd.of_row hx
theorem entry_held {w0 w : World} {s s' : M.Rdr} {x : M.Ent} {P : Nat} {A0 : Option Addr} {L : List Acc} (h : Held w0 w (fun w s => PrgN w P s A0) s P A0 L) (hx : M.rdEntry s = (x, s')) :
    Calls Tryz.prog 55 #[.pointer (some ⟨P, 0, none⟩)] w fun e w' => ∃ B m c, e = .returned (.agg #[.int .i64 x.term, B8 x.kind, .int .i64 x.version, .int .i64 x.server, .bool x.good, .slice B m c]) ∧ Held w0 w' (fun w s => PrgN w P s A0) s' P A0 (rowAcc B m c x.data :: L) := by
  refine (pEntry_any P s A0 w h.q h.lt.2).mono ?_
  rintro e w' ⟨B, m, c, rfl, ho, hq, hg⟩
  rw [hx] at ho hq
  rw [hx]
  exact ⟨B, m, c, rfl, h.row hq hg ho⟩
theorem Held.sub {w0 w : World} {Q : World → M.Rdr → Prop} {s : M.Rdr} {R : Nat} {Bd : Option Addr} {L L' : List Acc} (h : Held w0 w Q s R Bd L) (hs : L'.Sublist L) : Held w0 w Q s R Bd L' :=
  ⟨h.bank.sub hs, h.q, h.keep, h.lt, h.base, fun p hp => h.away p (hs.subset hp)⟩
theorem prgL_grown {w w' : World} {P : Nat} {s : M.Rdr} {A0 : Option Addr} (h : PrgN w P s A0) {row : Option Nat} (hg : w.grownBy w' row) (hR : row ≠ some P) (hA : ∀ a, A0 = some a → row ≠ some a.block) : PrgN w' P s A0 := by
  obtain ⟨l, A, n, c, h⟩ := h
  refine ⟨l, A, n, c, ?_⟩
  cases s with
  | none =>
    obtain ⟨t, hb⟩ := h
    exact ⟨t, (hg.block P (Array.getElem?_eq_some_iff.1 hb).1 (Ne.symm hR)).trans hb⟩
  | some l' => exact ⟨h.1.grown hg hR (fun a e => by obtain ⟨a0, e0, h0⟩ := h.2.2 a e; rw [h0]; exact hA a0 e0), h.2.1, h.2.2⟩
theorem prgL_lt {w : World} {P : Nat} {s : M.Rdr} {A0 : Option Addr} (h : PrgN w P s A0) : P < w.heap.size := by
  obtain ⟨l, A, n, c, h⟩ := h
  cases s with
  | none =>
    obtain ⟨t, hb⟩ := h
    exact (Array.getElem?_eq_some_iff.1 hb).1
  | some l' =>
    obtain ⟨t, hb⟩ := h.1.blk
    exact (Array.getElem?_eq_some_iff.1 hb).1
end Go.Proofs.YtfpjmeknjhhakaaGreat.K

/- The contract of wire.Entry. -/
namespace Go.Proofs.YtfpjmeknjhhakaaGreat.K
open Go Go.RowKit

theorem truth_any (b : Bool) (w : World) : Calls Tryz.prog 79 #[.bool b] w fun e w' => e = .returned (.int .i64 (M.flag b)) ∧ w = w' := by
  cases b
  · go_enter Tryz.func79, Tryz.ntmps79
    go_wp2
    go_ret
    exact ⟨rfl, rfl⟩
  · go_enter Tryz.func79, Tryz.ntmps79
    go_wp2
    go_ret
    exact ⟨rfl, rfl⟩
theorem conv_B8_int {P : Program} (w : World) (src dst : TypeId) (x : BitVec 8) (hs : P.underlying src = some (.int .u8)) (hd : P.underlying dst = some (.int .i64)) : (convert src dst (B8 x)).run P w = .ok (.int .i64 (x.toNat : Int)) w := by
  have hx := x.isLt
  have h : IntKind.i64.wrap (x.toNat : Int) = (x.toNat : Int) := IntWalk.i64_in _ (by omega)
  simp [convert, run_underlying hs, run_underlying hd, Conv.intToInt, B8, h]
/-- an entry as a value; its Data lies at A -/
def entV (e : M.Ent) (A : Option Addr) (n c : Nat) : Value := .agg #[.int .i64 e.term, B8 e.kind, .int .i64 e.version, .int .i64 e.server, .bool e.good, .slice A n c]
def entCells (e : M.Ent) (A : Option Addr) (n c : Nat) : Array Value := #[.int .i64 e.term, B8 e.kind, .int .i64 e.version, .int .i64 e.server, .bool e.good, .slice A n c]
abbrev sixRows (a b c d e f : Rw) (xa xb xc xd xe xf : List (BitVec 8)) : List (Rw × List (BitVec 8)) := [(a, xa), (b, xb), (c, xc), (d, xd), (e, xe), (f, xf)]
theorem six_mem {P : Rw × List (BitVec 8) → Prop} {a b c d e f : Rw} {xa xb xc xd xe xf : List (BitVec 8)} (h1 : P (a, xa)) (h2 : P (b, xb)) (h3 : P (c, xc)) (h4 : P (d, xd)) (h5 : P (e, xe)) (h6 : P (f, xf)) : ∀ p ∈ sixRows a b c d e f xa xb xc xd xe xf, P p := by
  intro p hp
  simp only [List.mem_cons, List.mem_nil_iff, or_false] at hp
  rcases hp with rfl | rfl | rfl | rfl | rfl | rfl <;> assumption

set_option maxHeartbeats 2000000 in
set_option maxRecDepth 100000 in
theorem wentry_any (t k v s g : Int) (K : BitVec 8) (G : Bool) (A : Option Addr) (n c : Nat) (bs : List (BitVec 8)) (w : World) (hr : RowRd w ⟨A, n, c⟩ bs) (hn2 : n ≤ 1000000000000) (hk : k = (K.toNat : Int)) (hg : g = M.flag G) :
    Calls Tryz.prog 53 #[.agg #[.int .i64 t, B8 K, .int .i64 v, .int .i64 s, .bool G, .slice A n c]] w fun e w' => ∃ g N c', e = .returned (.slice (some ⟨g, 0, none⟩) N c') ∧ N = (M.ent ⟨t, K, v, s, G, bs⟩).length ∧ w'.ownsRow w.heap.size 5 1 (.slice (some ⟨g, 0, none⟩) N c') N (bv (M.ent ⟨t, K, v, s, G, bs⟩)) ∧ Below w.heap.size w w' := by
  have hcv := fun w => conv_B8_int (P := Tryz.prog) w 60 3 K Tryz.underlying60 Tryz.underlying3
  rw [← hk] at hcv
  have htr : ∀ w, Calls Tryz.prog 79 #[.bool G] w fun e w' => e = .returned (.int .i64 g) ∧ w = w' := fun w => by rw [hg]; exact truth_any G w
  have hr0 : RowRd (w.alloc (.cells #[.int .i64 t, B8 K, .int .i64 v, .int .i64 s, .bool G, .slice A n c] 62)) ⟨A, n, c⟩ bs := hr.below ((Below.refl _ _).alloc (Nat.le_refl _) _)
  have HR := Lib.hid hr0; have HK := Lib.hid hk; have HG := Lib.hid hg; have HTR := Lib.hid htr
  have hlb : bs.length = n := hr.len
  have HLB := Lib.hid hlb
  clear hr hk hg htr hr0 hlb
  go_enter Tryz.func53, Tryz.ntmps53
  go_wp2_with fail
  have x0 : (w.alloc (.cells #[.int .i64 t, B8 K, .int .i64 v, .int .i64 s, .bool G, .slice A n c] 62)).cell? ⟨w.heap.size, 0, none⟩ = some (.int .i64 t) := by rw [World.cell?_alloc_new]; rfl
  have x1 : (w.alloc (.cells #[.int .i64 t, B8 K, .int .i64 v, .int .i64 s, .bool G, .slice A n c] 62)).cell? ⟨w.heap.size, 1, none⟩ = some (B8 K) := by rw [World.cell?_alloc_new]; rfl
  have x2 : (w.alloc (.cells #[.int .i64 t, B8 K, .int .i64 v, .int .i64 s, .bool G, .slice A n c] 62)).cell? ⟨w.heap.size, 2, none⟩ = some (.int .i64 v) := by rw [World.cell?_alloc_new]; rfl
  have x3 : (w.alloc (.cells #[.int .i64 t, B8 K, .int .i64 v, .int .i64 s, .bool G, .slice A n c] 62)).cell? ⟨w.heap.size, 3, none⟩ = some (.int .i64 s) := by rw [World.cell?_alloc_new]; rfl
  have x4 : (w.alloc (.cells #[.int .i64 t, B8 K, .int .i64 v, .int .i64 s, .bool G, .slice A n c] 62)).cell? ⟨w.heap.size, 4, none⟩ = some (.bool G) := by rw [World.cell?_alloc_new]; rfl
  have x5 : (w.alloc (.cells #[.int .i64 t, B8 K, .int .i64 v, .int .i64 s, .bool G, .slice A n c] 62)).cell? ⟨w.heap.size, 5, none⟩ = some (.slice A n c) := by rw [World.cell?_alloc_new]; rfl
  have hb0 : Below w.heap.size w (w.alloc (.cells #[.int .i64 t, B8 K, .int .i64 v, .int .i64 s, .bool G, .slice A n c] 62)) := (Below.refl _ _).alloc (Nat.le_refl _) _
  have hs0 : (w.alloc (.cells #[.int .i64 t, B8 K, .int .i64 v, .int .i64 s, .bool G, .slice A n c] 62)).heap.size = w.heap.size + 1 := by simp
  have HB0 := Lib.hid hb0
  clear hb0
  generalize w.alloc (.cells #[.int .i64 t, B8 K, .int .i64 v, .int .i64 s, .bool G, .slice A n c] 62) = w0 at *
  have hs0' : w.heap.size < w0.heap.size := by omega
  clear hs0
  go_region_held3 (fun w' => w'.cell? ⟨w.heap.size, 0, none⟩ = some (.int .i64 t) ∧ w'.cell? ⟨w.heap.size, 1, none⟩ = some (B8 K) ∧ w'.cell? ⟨w.heap.size, 2, none⟩ = some (.int .i64 v) ∧ w'.cell? ⟨w.heap.size, 3, none⟩ = some (.int .i64 s) ∧ w'.cell? ⟨w.heap.size, 4, none⟩ = some (.bool G) ∧ w'.cell? ⟨w.heap.size, 5, none⟩ = some (.slice A n c))
    (first
      | (go_split_ands; refine ⟨?_, ?_, ?_, ?_, ?_, ?_⟩ <;> assumption)
      | (go_split_ands; refine ⟨?_, ?_, ?_, ?_, ?_, ?_⟩ <;> (rw [hb7.cell (by simp; omega)]; assumption))
      | (go_split_ands; refine ⟨?_, ?_, ?_, ?_, ?_, ?_⟩ <;> (rw [hb6.cell (by show w.heap.size < _; omega)]; assumption))
      | (go_split_ands; refine ⟨?_, ?_, ?_, ?_, ?_, ?_⟩ <;> (rw [hb5.cell (by show w.heap.size < _; omega)]; assumption))
      | (go_split_ands; refine ⟨?_, ?_, ?_, ?_, ?_, ?_⟩ <;> (rw [hb4.cell (by show w.heap.size < _; omega)]; assumption))
      | (go_split_ands; refine ⟨?_, ?_, ?_, ?_, ?_, ?_⟩ <;> (rw [hb3.cell (by show w.heap.size < _; omega)]; assumption))
      | (go_split_ands; refine ⟨?_, ?_, ?_, ?_, ?_, ?_⟩ <;> (rw [hb2.cell (by show w.heap.size < _; omega)]; assumption))
      | (go_split_ands; refine ⟨?_, ?_, ?_, ?_, ?_, ?_⟩ <;> (rw [hb1.cell (by show w.heap.size < _; omega)]; assumption))
      | go_keep)
    (first
      | (go_at_call 52; ((with_reducible refine (wnum_any t _).mono ?_); rintro e w1 ⟨g1, rfl, ho1, hb1'⟩; have hb1 := below_of_drew hb1'; have hs1 := hb1.size; clear hb1'))
      | (go_at_call 52; ((with_reducible refine (wnum_any k _).mono ?_); rintro e w2 ⟨g2, rfl, ho2, hb2⟩; have hs2 := hb2.size))
      | (go_at_call 52; ((with_reducible refine (wnum_any v _).mono ?_); rintro e w3 ⟨g3, rfl, ho3, hb3⟩; have hs3 := hb3.size))
      | (go_at_call 52; ((with_reducible refine (wnum_any s _).mono ?_); rintro e w4 ⟨g4, rfl, ho4, hb4⟩; have hs4 := hb4.size))
      | (go_at_call 79; ((with_reducible refine (HTR.out _).mono ?_); rintro e wt ⟨rfl, rfl⟩))
      | (go_at_call 52; ((with_reducible refine (wnum_any g _).mono ?_); rintro e w5 ⟨g5, rfl, ho5, hb5⟩; have hs5 := hb5.size))
      | (go_at_call 80; ((with_reducible refine (wbytes_any A n c bs _ ?_ ?_).mono ?_); (exact ((((HR.out.below hb1).below hb2).below hb3).below hb4).below hb5); (omega); rintro e w6 ⟨g6, N6, c6, rfl, hN6, ho6, hb6⟩; have hs6 := hb6.size; have HN6 := Lib.hid hN6; clear hN6))
      | (go_at_call 51; ((with_reducible refine (join_any (some ⟨w6.heap.size, 0, none⟩) 6 6 (rowsOf (sixRows ⟨some ⟨g1, 0, none⟩, 8, 8⟩ ⟨some ⟨g2, 0, none⟩, 8, 8⟩ ⟨some ⟨g3, 0, none⟩, 8, 8⟩ ⟨some ⟨g4, 0, none⟩, 8, 8⟩ ⟨some ⟨g5, 0, none⟩, 8, 8⟩ ⟨some ⟨g6, 0, none⟩, N6, c6⟩ (M.num t) (M.num k) (M.num v) (M.num s) (M.num g) (M.blob bs))) (bytesAt (sixRows ⟨some ⟨g1, 0, none⟩, 8, 8⟩ ⟨some ⟨g2, 0, none⟩, 8, 8⟩ ⟨some ⟨g3, 0, none⟩, 8, 8⟩ ⟨some ⟨g4, 0, none⟩, 8, 8⟩ ⟨some ⟨g5, 0, none⟩, 8, 8⟩ ⟨some ⟨g6, 0, none⟩, N6, c6⟩ (M.num t) (M.num k) (M.num v) (M.num s) (M.num g) (M.blob bs))) _ ?_ ?_ ?_).mono ?_); (refine parts_of (sixRows ⟨some ⟨g1, 0, none⟩, 8, 8⟩ ⟨some ⟨g2, 0, none⟩, 8, 8⟩ ⟨some ⟨g3, 0, none⟩, 8, 8⟩ ⟨some ⟨g4, 0, none⟩, 8, 8⟩ ⟨some ⟨g5, 0, none⟩, 8, 8⟩ ⟨some ⟨g6, 0, none⟩, N6, c6⟩ (M.num t) (M.num k) (M.num v) (M.num s) (M.num g) (M.blob bs)) rfl (six_mem ?_ ?_ ?_ ?_ ?_ ?_); (exact ((((((RowRd.of_row ho1).below hb2).below hb3).below hb4).below hb5).below hb6)); (exact (((((RowRd.of_row ho2).below hb3).below hb4).below hb5).below hb6)); (exact ((((RowRd.of_row ho3).below hb4).below hb5).below hb6)); (exact (((RowRd.of_row ho4).below hb5).below hb6)); (exact ((RowRd.of_row ho5).below hb6)); (exact (RowRd.of_row ho6))); (omega); (rw [show (6 : Nat) = (sixRows ⟨some ⟨g1, 0, none⟩, 8, 8⟩ ⟨some ⟨g2, 0, none⟩, 8, 8⟩ ⟨some ⟨g3, 0, none⟩, 8, 8⟩ ⟨some ⟨g4, 0, none⟩, 8, 8⟩ ⟨some ⟨g5, 0, none⟩, 8, 8⟩ ⟨some ⟨g6, 0, none⟩, N6, c6⟩ (M.num t) (M.num k) (M.num v) (M.num s) (M.num g) (M.blob bs)).length from rfl, joined_all]; have := HN6.out; simp [M.num_length, M.blob_length]; have := HLB.out; omega); rintro e w7 ⟨A7, N7, c7, rfl, hN7, ho7, hb7⟩; have HN7 := Lib.hid hN7; clear hN7)))
  have hT : (List.map (·.2) (sixRows ⟨some ⟨g1, 0, none⟩, 8, 8⟩ ⟨some ⟨g2, 0, none⟩, 8, 8⟩ ⟨some ⟨g3, 0, none⟩, 8, 8⟩ ⟨some ⟨g4, 0, none⟩, 8, 8⟩ ⟨some ⟨g5, 0, none⟩, 8, 8⟩ ⟨some ⟨g6, 0, none⟩, N6, c6⟩ (M.num t) (M.num k) (M.num v) (M.num s) (M.num g) (M.blob bs))).flatten = M.ent ⟨t, K, v, s, G, bs⟩ := by
    rw [HK.out, HG.out]; simp [M.ent]
  have hN7 := HN7.out
  rw [show (6 : Nat) = (sixRows ⟨some ⟨g1, 0, none⟩, 8, 8⟩ ⟨some ⟨g2, 0, none⟩, 8, 8⟩ ⟨some ⟨g3, 0, none⟩, 8, 8⟩ ⟨some ⟨g4, 0, none⟩, 8, 8⟩ ⟨some ⟨g5, 0, none⟩, 8, 8⟩ ⟨some ⟨g6, 0, none⟩, N6, c6⟩ (M.num t) (M.num k) (M.num v) (M.num s) (M.num g) (M.blob bs)).length from rfl, joined_all, hT] at hN7 ho7
  have hlb := HLB.out
  have hN7' : 48 ≤ N7 := by rw [hN7]; simp [M.ent, M.num_length, M.blob_length]; omega
  obtain ⟨g7, c8, e, _, _⟩ := ho7.form (by omega)
  simp only [Value.slice.injEq, true_and] at e
  obtain ⟨rfl, rfl⟩ := e
  have h06 := ((((((hb1.trans (hb2.mono hb1.size)).trans (hb3.mono (by omega))).trans (hb4.mono (by omega))).trans (hb5.mono (by omega))).trans (hb6.mono (by omega)))).mono (Nat.le_of_lt hs0')
  have hw6 : w.heap.size ≤ w6.heap.size := by omega
  have ho8 := row_weaken ho7 (base' := w.heap.size) (by simp; omega)
  have h8 := HB0.out.trans ((h06.alloc hw6 (.cells ((sixRows ⟨some ⟨g1, 0, none⟩, 8, 8⟩ ⟨some ⟨g2, 0, none⟩, 8, 8⟩ ⟨some ⟨g3, 0, none⟩, 8, 8⟩ ⟨some ⟨g4, 0, none⟩, 8, 8⟩ ⟨some ⟨g5, 0, none⟩, 8, 8⟩ ⟨some ⟨g6, 0, none⟩, N6, c6⟩ (M.num t) (M.num k) (M.num v) (M.num s) (M.num g) (M.blob bs)).map fun p => p.1.v).toArray 37)).trans (hb7.mono (by simp; omega)))
  have HO8 := Lib.hid ho8; have H8 := Lib.hid h8; have HN8 := Lib.hid hN7
  clear ho1 ho2 ho3 ho4 ho5 ho6 ho7 hb1 hb2 hb3 hb4 hb5 hb6 hb7 h06 ho8 h8 hN7 hT x0 x1 x2 x3 x4 x5
  go_wp2
  go_ret
  exact ⟨g7, N7, c7, rfl, HN8.out, HO8.out, H8.out⟩
end Go.Proofs.YtfpjmeknjhhakaaGreat.K

/- Frames, their sums and their scan as plain Lean functions, and what is known of them. No program in sight. -/
namespace Go.Proofs.YtfpjmeknjhhakaaGreat.F
abbrev W := BitVec 32
abbrev B := BitVec 8

def poly : W := 0x82F63B78#32
def cstep (w : W) : W := (w >>> 1) ^^^ (if w.getLsbD 0 then poly else 0#32)
def csteps : Nat → W → W
  | 0, w => w
  | n + 1, w => csteps n (cstep w)
def cbyte (w : W) (c : B) : W := csteps 8 (w ^^^ c.setWidth 32)
def crc (w : W) (bs : List B) : W := bs.foldl cbyte w
def fsum (bs : List B) : W := ~~~ crc (~~~0#32) bs

theorem cstep_xor (x y : W) : cstep (x ^^^ y) = cstep x ^^^ cstep y := by
  unfold cstep
  rw [BitVec.ushiftRight_xor_distrib, BitVec.getLsbD_xor]
  cases x.getLsbD 0 <;> cases y.getLsbD 0 <;> simp <;> apply BitVec.eq_of_getLsbD_eq <;> intro i _ <;> simp [BitVec.getLsbD_xor]
  all_goals (cases (x.getLsbD (1 + i)) <;> cases (y.getLsbD (1 + i)) <;> cases poly.getLsbD i <;> rfl)
theorem csteps_xor (n : Nat) (x y : W) : csteps n (x ^^^ y) = csteps n x ^^^ csteps n y := by
  induction n generalizing x y with
  | zero => rfl
  | succ n ih => rw [csteps, csteps, csteps, cstep_xor, ih]
theorem csteps_add (m n : Nat) (x : W) : csteps (m + n) x = csteps n (csteps m x) := by
  induction m generalizing x with
  | zero => simp [csteps]
  | succ m ih => rw [Nat.succ_add, csteps, csteps, ih]
theorem cstep_zero : cstep 0#32 = 0#32 := by decide
theorem csteps_zero (n : Nat) : csteps n 0#32 = 0#32 := by
  induction n with
  | zero => rfl
  | succ n ih => rw [csteps, cstep_zero, ih]
/-- the low bits all nought: a shift -/
theorem csteps_shift (n : Nat) (x : W) (h : ∀ i, i < n → x.getLsbD i = false) : csteps n x = x >>> n := by
  induction n generalizing x with
  | zero => simp [csteps]
  | succ n ih =>
    rw [csteps]
    have h0 : cstep x = x >>> 1 := by unfold cstep; rw [h 0 (by omega)]; simp
    rw [h0, ih]
    · rw [← BitVec.shiftRight_add]; congr 1; omega
    · intro i hi
      rw [BitVec.getLsbD_ushiftRight]; exact h (1 + i) (by omega)
/-- as the program does a byte -/
theorem cbyte_eq (w : W) (c : B) : cbyte w c = (w >>> 8) ^^^ csteps 8 ((w &&& 255#32) ^^^ c.setWidth 32) := by
  unfold cbyte
  have e : w ^^^ c.setWidth 32 = (w &&& ~~~255#32) ^^^ ((w &&& 255#32) ^^^ c.setWidth 32) := by
    rw [← BitVec.xor_assoc]; congr 1
    apply BitVec.eq_of_getLsbD_eq; intro i hi
    simp only [BitVec.getLsbD_xor, BitVec.getLsbD_and, BitVec.getLsbD_not]
    cases w.getLsbD i <;> cases (255#32).getLsbD i <;> simp [hi]
  rw [e, csteps_xor]
  congr 1
  rw [csteps_shift]
  · apply BitVec.eq_of_getLsbD_eq; intro i hi
    rw [BitVec.getLsbD_ushiftRight, BitVec.getLsbD_ushiftRight, BitVec.getLsbD_and, BitVec.getLsbD_not]
    by_cases h : 8 + i < 32
    · have h2 : (255#32).getLsbD (8 + i) = false := by
        have : i < 24 := by omega
        revert i; decide
      rw [h2]; simp [h]
    · rw [BitVec.getLsbD_of_ge w _ (by omega)]; simp
  · intro i hi
    rw [BitVec.getLsbD_and, BitVec.getLsbD_not]
    have h2 : (255#32).getLsbD i = true := by revert i; decide
    simp [h2]
theorem and_neg_one (w : W) : poly &&& -(w &&& 1#32) = if w.getLsbD 0 then poly else 0#32 := by
  have h : w &&& 1#32 = if w.getLsbD 0 then 1#32 else 0#32 := by
    apply BitVec.eq_of_getLsbD_eq; intro i hi
    rw [BitVec.getLsbD_and]
    cases i with
    | zero => cases w.getLsbD 0 <;> simp
    | succ i =>
      have : (1#32).getLsbD (i + 1) = false := by simp [BitVec.getLsbD_one]
      rw [this]; cases w.getLsbD 0 <;> simp [BitVec.getLsbD_one]
  rw [h]; cases w.getLsbD 0
  · simp
  · simp; decide
theorem cstep_eq (w : W) : (w >>> 1) ^^^ (poly &&& -(w &&& 1#32)) = cstep w := by rw [and_neg_one]; rfl
theorem crc_append (w : W) (a b : List B) : crc w (a ++ b) = crc (crc w a) b := by simp [crc]
theorem crc_cons (w : W) (c : B) (b : List B) : crc w (c :: b) = crc (cbyte w c) b := rfl

/-! ### errors -/
theorem poly_top : poly.getLsbD 31 = true := by decide
theorem cstep_inj (x : W) (h : cstep x = 0#32) : x = 0#32 := by
  have h31 : (cstep x).getLsbD 31 = x.getLsbD 0 := by
    unfold cstep
    rw [BitVec.getLsbD_xor, BitVec.getLsbD_ushiftRight, BitVec.getLsbD_of_ge x 32 (by omega)]
    cases x.getLsbD 0 <;> simp [poly_top]
  rw [h] at h31
  have h0 : x.getLsbD 0 = false := by rw [← h31]; simp
  have h1 : cstep x = x >>> 1 := by unfold cstep; rw [h0]; simp
  rw [h1] at h
  apply BitVec.eq_of_getLsbD_eq; intro i hi
  cases i with
  | zero => rw [h0]; simp
  | succ i =>
    have : (x >>> 1).getLsbD i = false := by rw [h]; simp
    rw [BitVec.getLsbD_ushiftRight, Nat.add_comm] at this
    rw [this]; simp
theorem csteps_ne (n : Nat) (x : W) (h : x ≠ 0#32) : csteps n x ≠ 0#32 := by
  induction n generalizing x with
  | zero => exact h
  | succ n ih => rw [csteps]; exact ih _ fun e => h (cstep_inj x e)
/-- bits, one by one -/
def bit (b : Bool) : W := if b then 1#32 else 0#32
def feed (w : W) (l : List Bool) : W := l.foldl (fun w b => cstep (w ^^^ bit b)) w
theorem feed_append (w : W) (a b : List Bool) : feed w (a ++ b) = feed (feed w a) b := by simp [feed]
def bitsOf (c : B) : List Bool := (List.range 8).map fun i => c.getLsbD i
/-- the low k bits of a word fed one by one: the word put on at once, and k steps, if nothing else stands above -/
theorem feed_word (k : Nat) (w x : W) (hx : ∀ i, k ≤ i → x.getLsbD i = false) : feed w ((List.range k).map fun i => x.getLsbD i) = csteps k (w ^^^ x) := by
  induction k generalizing w x with
  | zero =>
    have : x = 0#32 := by apply BitVec.eq_of_getLsbD_eq; intro i _; rw [hx i (by omega)]; simp
    subst this; simp [feed, csteps]
  | succ k ih =>
    rw [List.range_succ_eq_map, List.map_cons, List.map_map]
    show feed (cstep (w ^^^ bit (x.getLsbD 0))) _ = _
    have e : ((fun i => x.getLsbD i) ∘ Nat.succ) = fun i => (x >>> 1).getLsbD i := by
      funext i; simp only [Function.comp, BitVec.getLsbD_ushiftRight]; congr 1; omega
    rw [e, ih]
    · rw [csteps]
      congr 1
      have ex : x = bit (x.getLsbD 0) ^^^ (x &&& ~~~1#32) := by
        apply BitVec.eq_of_getLsbD_eq; intro i hi
        rw [BitVec.getLsbD_xor, BitVec.getLsbD_and, BitVec.getLsbD_not]
        cases i with
        | zero => unfold bit; cases x.getLsbD 0 <;> simp
        | succ i => unfold bit; cases x.getLsbD 0 <;> simp [hi]
      have e2 : cstep (x &&& ~~~1#32) = x >>> 1 := by
        unfold cstep
        rw [show (x &&& ~~~1#32).getLsbD 0 = false by simp]
        simp only [Bool.false_eq_true, if_false, BitVec.xor_zero]
        apply BitVec.eq_of_getLsbD_eq; intro i hi
        rw [BitVec.getLsbD_ushiftRight, BitVec.getLsbD_ushiftRight, BitVec.getLsbD_and, BitVec.getLsbD_not]
        by_cases h : 1 + i < 32
        · simp [h]
        · simp [h]; rw [BitVec.getLsbD_of_ge x _ (by omega)]
      conv => rhs; rw [ex, ← BitVec.xor_assoc, cstep_xor, e2]
    · intro i hi
      rw [BitVec.getLsbD_ushiftRight]; exact hx _ (by omega)
theorem cbyte_feed (w : W) (c : B) : cbyte w c = feed w (bitsOf c) := by
  unfold cbyte bitsOf
  rw [← feed_word 8 w (c.setWidth 32)]
  · have e : ((List.range 8).map fun i => (c.setWidth 32).getLsbD i) = (List.range 8).map fun i => c.getLsbD i := by
      apply List.map_congr_left; intro i hi
      rw [BitVec.getLsbD_setWidth]; simp at hi; simp [show i < 32 by omega]
    rw [e]
  · intro i hi
    rw [BitVec.getLsbD_setWidth, BitVec.getLsbD_of_ge c i hi]; simp
theorem crc_feed (w : W) (bs : List B) : crc w bs = feed w (bs.flatMap bitsOf) := by
  induction bs generalizing w with
  | nil => rfl
  | cons c bs ih => rw [crc_cons, List.flatMap_cons, feed_append, ← cbyte_feed, ih]
theorem feed_xor (l e : List Bool) (h : l.length = e.length) (w v : W) : feed (w ^^^ v) (List.zipWith xor l e) = feed w l ^^^ feed v e := by
  induction l generalizing e w v with
  | nil => cases e with
    | nil => rfl
    | cons _ _ => simp at h
  | cons a l ih => cases e with
    | nil => simp at h
    | cons b e =>
      show feed (cstep ((w ^^^ v) ^^^ bit (xor a b))) (List.zipWith xor l e) = feed (cstep (w ^^^ bit a)) l ^^^ feed (cstep (v ^^^ bit b)) e
      rw [← ih e (by simpa using h), ← cstep_xor]
      congr 2
      have : bit (xor a b) = bit a ^^^ bit b := by cases a <;> cases b <;> simp [bit]
      rw [this]
      apply BitVec.eq_of_getLsbD_eq; intro i _
      simp only [BitVec.getLsbD_xor]
      cases w.getLsbD i <;> cases v.getLsbD i <;> cases (bit a).getLsbD i <;> cases (bit b).getLsbD i <;> rfl
theorem feed_noughts (n : Nat) (w : W) : feed w (List.replicate n false) = csteps n w := by
  induction n generalizing w with
  | zero => rfl
  | succ n ih => rw [List.replicate_succ]; show feed (cstep (w ^^^ bit false)) _ = _; rw [ih, csteps]; simp [bit]
theorem feed_burst (a c : Nat) (t : W) (h : t ≠ 0#32) : feed 0#32 (List.replicate a false ++ ((List.range 32).map fun i => t.getLsbD i) ++ List.replicate c false) ≠ 0#32 := by
  rw [feed_append, feed_append, feed_noughts c, feed_noughts a, csteps_zero, feed_word 32 _ t (fun i hi => BitVec.getLsbD_of_ge t i hi)]
  refine csteps_ne _ _ (csteps_ne _ _ ?_)
  simpa using h

/-! ### frames -/
structure Fr where
  kind : Int
  data : List B
deriving DecidableEq
def be4 (n : W) : List B := [(n >>> 24).setWidth 8, (n >>> 16).setWidth 8, (n >>> 8).setWidth 8, n.setWidth 8]
def of4 (a b c d : B) : W := (a.setWidth 32 <<< 24) ||| (b.setWidth 32 <<< 16) ||| (c.setWidth 32 <<< 8) ||| d.setWidth 32
def num4 (l : List B) : W := of4 (l.getD 0 0) (l.getD 1 0) (l.getD 2 0) (l.getD 3 0)
theorem be4_length (n : W) : (be4 n).length = 4 := rfl
theorem of4_be4 (n : W) : of4 ((n >>> 24).setWidth 8) ((n >>> 16).setWidth 8) ((n >>> 8).setWidth 8) (n.setWidth 8) = n := by
  unfold of4
  apply BitVec.eq_of_getLsbD_eq; intro i hi
  simp only [BitVec.getLsbD_or, BitVec.getLsbD_shiftLeft, BitVec.getLsbD_setWidth, BitVec.getLsbD_ushiftRight]
  by_cases h1 : i < 8
  · simp [hi, h1, show i < 16 by omega, show i < 24 by omega]
  · by_cases h2 : i < 16
    · simp [hi, h1, h2, show i < 24 by omega, show i - 8 < 32 by omega, show i - 8 < 8 by omega, show 8 + (i - 8) = i by omega]
    · by_cases h3 : i < 24
      · simp [hi, h1, h2, h3, show i - 16 < 32 by omega, show i - 16 < 8 by omega, show 16 + (i - 16) = i by omega, show ¬ (i - 8 < 8) by omega]
      · simp [hi, h1, h2, h3, show i - 24 < 32 by omega, show i - 24 < 8 by omega, show 24 + (i - 24) = i by omega, show ¬ (i - 8 < 8) by omega, show ¬ (i - 16 < 8) by omega]
theorem be4_of4 (a b c d : B) : be4 (of4 a b c d) = [a, b, c, d] := by
  unfold be4 of4
  have key : ∀ x : B, ∀ i, 8 ≤ i → x.getLsbD i = false := fun x i hi => BitVec.getLsbD_of_ge x i hi
  congr 1
  · apply BitVec.eq_of_getLsbD_eq; intro i hi
    simp only [BitVec.getLsbD_or, BitVec.getLsbD_shiftLeft, BitVec.getLsbD_setWidth, BitVec.getLsbD_ushiftRight]
    simp [hi, show 24 + i < 32 by omega, show ¬ (24 + i < 24) by omega, key _ (24 + i - 16) (by omega), key _ (24 + i - 8) (by omega), key _ (24 + i) (by omega)]
    intro h; omega
  congr 1
  · apply BitVec.eq_of_getLsbD_eq; intro i hi
    simp only [BitVec.getLsbD_or, BitVec.getLsbD_shiftLeft, BitVec.getLsbD_setWidth, BitVec.getLsbD_ushiftRight]
    simp [hi, show 16 + i < 32 by omega, show (16 + i < 24) by omega, key _ (16 + i - 8) (by omega), key _ (16 + i) (by omega), show ¬ (16 + i < 16) by omega, show i < 32 by omega]
  congr 1
  · apply BitVec.eq_of_getLsbD_eq; intro i hi
    simp only [BitVec.getLsbD_or, BitVec.getLsbD_shiftLeft, BitVec.getLsbD_setWidth, BitVec.getLsbD_ushiftRight]
    simp [hi, show 8 + i < 32 by omega, show (8 + i < 24) by omega, show (8 + i < 16) by omega, show ¬ (8 + i < 8) by omega, show i < 32 by omega]
  congr 1
  · apply BitVec.eq_of_getLsbD_eq; intro i hi
    simp only [BitVec.getLsbD_or, BitVec.getLsbD_shiftLeft, BitVec.getLsbD_setWidth]
    simp [hi, show i < 24 by omega, show i < 16 by omega, show i < 32 by omega]
theorem num4_be4 (n : W) (r : List B) : num4 (be4 n ++ r) = n := of4_be4 n
theorem be4_num4 (l : List B) (h : 4 ≤ l.length) : be4 (num4 l) = l.take 4 := by
  match l, h with
  | a :: b :: c :: d :: r, _ => exact be4_of4 a b c d
/-- as the program adds up a number -/
theorem of4_loop (a b c d : B) : (((((0#32 <<< 8 ||| a.setWidth 32) <<< 8 ||| b.setWidth 32) <<< 8) ||| c.setWidth 32) <<< 8) ||| d.setWidth 32 = of4 a b c d := by
  unfold of4
  simp only [BitVec.shiftLeft_or_distrib, ← BitVec.shiftLeft_add, Nat.reduceAdd]
  simp

def five (f : Fr) : List B := BitVec.ofInt 8 f.kind :: be4 (BitVec.ofNat 32 f.data.length)
def one (f : Fr) : List B := five f ++ (be4 (fsum (five f ++ f.data)) ++ f.data)
theorem five_length (f : Fr) : (five f).length = 5 := rfl
theorem one_length (f : Fr) : (one f).length = 9 + f.data.length := by simp [one, five_length, be4_length]; omega
def errOf (f : Fr) : Nat := if f.kind < 0 ∨ 255 < f.kind then 2 else if 262144 < f.data.length then 3 else 0
theorem errOf_ok (f : Fr) : errOf f = 0 ↔ 0 ≤ f.kind ∧ f.kind ≤ 255 ∧ f.data.length ≤ 262144 := by
  unfold errOf; split
  · constructor
    · intro h; cases h
    · omega
  · split
    · constructor
      · intro h; cases h
      · omega
    · constructor
      · intro _; omega
      · intro _; rfl
def perr : List Fr → Nat
  | [] => 0
  | f :: l => if errOf f = 0 then perr l else errOf f
def pbytes (l : List Fr) : List B := l.flatMap one
theorem pbytes_cons (f : Fr) (l : List Fr) : pbytes (f :: l) = one f ++ pbytes l := rfl
theorem pbytes_append (a b : List Fr) : pbytes (a ++ b) = pbytes a ++ pbytes b := by simp [pbytes]
theorem perr_zero (l : List Fr) : perr l = 0 ↔ ∀ f ∈ l, errOf f = 0 := by
  induction l with
  | nil => simp [perr]
  | cons f l ih =>
    rw [perr]
    by_cases h : errOf f = 0
    · rw [if_pos h]; simp [h, ih]
    · rw [if_neg h]; simp [h]
theorem perr_append (a b : List Fr) (h : perr a = 0) : perr (a ++ b) = perr b := by
  induction a with
  | nil => rfl
  | cons f a ih =>
    rw [perr] at h
    by_cases hf : errOf f = 0
    · rw [if_pos hf] at h; rw [List.cons_append, perr, if_pos hf, ih h]
    · rw [if_neg hf] at h; exact absurd h hf

/-! ### the scan -/
/-- the first frame, if it is there whole; and whether it is spoilt -/
def first (l : List B) : Option Fr × Bool :=
  if l.length < 9 then (none, false)
  else if 262144 < (num4 (l.drop 1)).toNat then (none, true)
  else if l.length < 9 + (num4 (l.drop 1)).toNat then (none, false)
  else if num4 (l.drop 5) = fsum (l.take 5 ++ (l.drop 9).take (num4 (l.drop 1)).toNat) then (some ⟨((l.getD 0 0).toNat : Int), (l.drop 9).take (num4 (l.drop 1)).toNat⟩, false)
  else (none, true)
def scanF : Nat → List B → List Fr × Nat × Bool
  | 0, l => ([], 0, (first l).2)
  | n + 1, l => match first l with
    | (none, s) => ([], 0, s)
    | (some f, _) => (f :: (scanF n (l.drop (9 + f.data.length))).1, 9 + f.data.length + (scanF n (l.drop (9 + f.data.length))).2.1, (scanF n (l.drop (9 + f.data.length))).2.2)
theorem take5 (l : List B) (h : 9 ≤ l.length) : l.getD 0 0 :: (l.drop 1).take 4 = l.take 5 := by
  cases l with
  | nil => simp at h
  | cons a b => simp
theorem first_some {l : List B} {f : Fr} {s : Bool} (h : first l = (some f, s)) : errOf f = 0 ∧ one f = l.take (9 + f.data.length) ∧ 9 + f.data.length ≤ l.length ∧ s = false := by
  unfold first at h
  obtain ⟨w, hw⟩ : ∃ w, w = num4 (l.drop 1) := ⟨_, rfl⟩
  rw [← hw] at h
  obtain ⟨n, hn⟩ : ∃ n, n = w.toNat := ⟨_, rfl⟩
  rw [← hn] at h
  by_cases h1 : l.length < 9
  · rw [if_pos h1] at h; cases h
  rw [if_neg h1] at h
  by_cases h2 : 262144 < n
  · rw [if_pos h2] at h; cases h
  rw [if_neg h2] at h
  by_cases h3 : l.length < 9 + n
  · rw [if_pos h3] at h; cases h
  rw [if_neg h3] at h
  by_cases h4 : num4 (l.drop 5) = fsum (l.take 5 ++ (l.drop 9).take n)
  · rw [if_pos h4] at h
    simp only [Prod.mk.injEq, Option.some.injEq] at h
    obtain ⟨h, rfl⟩ := h
    have hl : ((l.drop 9).take n).length = n := by rw [List.length_take, List.length_drop]; omega
    have hfd : f.data = (l.drop 9).take n := by rw [← h]
    have hfk : f.kind = ((l.getD 0 0).toNat : Int) := by rw [← h]
    have hfl : f.data.length = n := by rw [hfd, hl]
    have hb := (l.getD 0 0).isLt
    have hw2 : BitVec.ofNat 32 n = w := by rw [hn]; simp
    have h5 : five f = l.take 5 := by
      unfold five
      rw [hfl, hfk, BitVec.ofInt_natCast, hw2, hw, be4_num4 _ (by rw [List.length_drop]; omega), BitVec.ofNat_toNat, BitVec.setWidth_eq]
      exact take5 l (by omega)
    refine ⟨(errOf_ok _).2 ⟨by rw [hfk]; omega, by rw [hfk]; omega, by rw [hfl]; omega⟩, ?_, by rw [hfl]; omega, rfl⟩
    unfold one
    rw [h5, hfl, hfd, ← h4, be4_num4 _ (by rw [List.length_drop]; omega), ← List.append_assoc]
    rw [show l.take 5 ++ (l.drop 5).take 4 = l.take 9 from (List.take_add (l := l) (i := 5) (j := 4)).symm, ← List.take_add]
  · rw [if_neg h4] at h; cases h
theorem first_one {f : Fr} (h : errOf f = 0) (r : List B) : first (one f ++ r) = (some f, false) := by
  obtain ⟨h0, h1, h2⟩ := (errOf_ok f).1 h
  have e1 : (one f ++ r).drop 1 = be4 (BitVec.ofNat 32 f.data.length) ++ (be4 (fsum (five f ++ f.data)) ++ (f.data ++ r)) := by simp [one, five]
  have e5 : (one f ++ r).drop 5 = be4 (fsum (five f ++ f.data)) ++ (f.data ++ r) := by simp [one, five, be4]
  have e9 : (one f ++ r).drop 9 = f.data ++ r := by simp [one, five, be4]
  have et : (one f ++ r).take 5 = five f := by simp [one, five, be4]
  have e0 : (one f ++ r).getD 0 0 = BitVec.ofInt 8 f.kind := by simp [one, five]
  have hn : (BitVec.ofNat 32 f.data.length).toNat = f.data.length := by rw [BitVec.toNat_ofNat]; omega
  unfold first
  rw [e1, num4_be4, hn, e5, num4_be4, e9, et, e0, List.length_append, one_length, if_neg (by omega), if_neg (by omega), if_neg (by omega), List.take_left, if_pos rfl]
  congr 2
  have : ((BitVec.ofInt 8 f.kind).toNat : Int) = f.kind := by
    rw [BitVec.toNat_ofInt]; omega
  rw [this]
theorem first_cut {f : Fr} (h : errOf f = 0) (k : Nat) (hk : k < (one f).length) : first ((one f).take k) = (none, false) := by
  obtain ⟨h0, h1, h2⟩ := (errOf_ok f).1 h
  rw [one_length] at hk
  unfold first
  have hl : ((one f).take k).length = k := by rw [List.length_take, one_length]; omega
  rw [hl]
  by_cases h9 : k < 9
  · rw [if_pos h9]
  · have e1 : num4 (((one f).take k).drop 1) = BitVec.ofNat 32 f.data.length := by
      have e : ((one f).take k).drop 1 = be4 (BitVec.ofNat 32 f.data.length) ++ ((be4 (fsum (five f ++ f.data)) ++ f.data).take (k - 5)) := by
        rw [List.drop_take]
        have : (one f).drop 1 = be4 (BitVec.ofNat 32 f.data.length) ++ (be4 (fsum (five f ++ f.data)) ++ f.data) := by simp [one, five]
        rw [this, List.take_append, be4_length, List.take_of_length_le (by rw [be4_length]; omega)]; congr 2
      rw [e, num4_be4]
    have hn : (BitVec.ofNat 32 f.data.length).toNat = f.data.length := by rw [BitVec.toNat_ofNat]; omega
    rw [if_neg h9, e1, hn, if_neg (by omega), if_pos (by omega)]

def scan (l : List B) : List Fr × Nat × Bool := scanF l.length l
theorem scanF_fuel (n m : Nat) (l : List B) (hn : l.length ≤ n) (hm : l.length ≤ m) : scanF n l = scanF m l := by
  induction n generalizing m l with
  | zero =>
    obtain rfl : l = [] := List.length_eq_zero_iff.1 (by omega)
    cases m with
    | zero => rfl
    | succ m => simp [scanF, first]
  | succ n ih =>
    cases m with
    | zero =>
      obtain rfl : l = [] := List.length_eq_zero_iff.1 (by omega)
      simp [scanF, first]
    | succ m =>
      rw [scanF, scanF]
      cases hf : first l with
      | mk o s =>
        cases o with
        | none => rfl
        | some f =>
          have := (first_some hf).2.2.1
          show (f :: (scanF n _).1, _ + (scanF n _).2.1, (scanF n _).2.2) = _
          rw [ih m (l.drop (9 + f.data.length)) (by rw [List.length_drop]; omega) (by rw [List.length_drop]; omega)]
theorem scan_none {l : List B} {s : Bool} (h : first l = (none, s)) : scan l = ([], 0, s) := by
  unfold scan
  cases hl : l.length with
  | zero => rw [scanF, h]
  | succ n => rw [scanF, h]
theorem scan_some {l : List B} {f : Fr} {s : Bool} (h : first l = (some f, s)) : scan l = (f :: (scan (l.drop (9 + f.data.length))).1, 9 + f.data.length + (scan (l.drop (9 + f.data.length))).2.1, (scan (l.drop (9 + f.data.length))).2.2) := by
  have h9 := (first_some h).2.2.1
  unfold scan
  obtain ⟨n, hn⟩ : ∃ n, l.length = n + 1 := ⟨l.length - 1, by omega⟩
  rw [hn, scanF, h]
  show (f :: (scanF n _).1, _ + (scanF n _).2.1, (scanF n _).2.2) = _
  rw [scanF_fuel n (l.drop (9 + f.data.length)).length (l.drop (9 + f.data.length)) (by rw [List.length_drop]; omega) (by omega)]
theorem scan_nil : scan [] = ([], 0, false) := rfl
theorem scan_put (fs : List Fr) (h : perr fs = 0) (r : List B) : scan (pbytes fs ++ r) = (fs ++ (scan r).1, (pbytes fs).length + (scan r).2.1, (scan r).2.2) := by
  induction fs with
  | nil => simp [pbytes]
  | cons f fs ih =>
    rw [perr] at h
    by_cases hf : errOf f = 0
    · rw [if_pos hf] at h
      rw [pbytes_cons, List.append_assoc, scan_some (first_one hf _), ← one_length, List.drop_left, ih h]
      simp [Nat.add_assoc]
    · rw [if_neg hf] at h; exact absurd h hf
theorem scan_back (n : Nat) (b : List B) (hn : b.length ≤ n) : perr (scan b).1 = 0 ∧ pbytes (scan b).1 = b.take (scan b).2.1 ∧ (scan b).2.1 ≤ b.length := by
  induction n generalizing b with
  | zero =>
    obtain rfl : b = [] := List.length_eq_zero_iff.1 (by omega)
    exact ⟨rfl, rfl, Nat.le_refl _⟩
  | succ n ih =>
    cases hf : first b with
    | mk o s =>
      cases o with
      | none => rw [scan_none hf]; exact ⟨rfl, rfl, Nat.zero_le _⟩
      | some f =>
        obtain ⟨h1, h2, h3, _⟩ := first_some hf
        obtain ⟨i1, i2, i3⟩ := ih (b.drop (9 + f.data.length)) (by rw [List.length_drop]; omega)
        rw [List.length_drop] at i3
        rw [scan_some hf]
        refine ⟨by show perr (f :: _) = 0; rw [perr, if_pos h1, i1], ?_, by show _ + _ ≤ _; omega⟩
        show pbytes (f :: _) = b.take (_ + _)
        rw [pbytes_cons, i2, h2, ← List.take_add]
theorem scan_cut (fs : List Fr) (h : perr fs = 0) (cut k : Nat) (hk : k ≤ fs.length) (hc : (pbytes (fs.take k)).length ≤ cut) (hn : (hl : k < fs.length) → cut < (pbytes (fs.take k)).length + 9 + fs[k].data.length) :
    scan ((pbytes fs).take cut) = (fs.take k, (pbytes (fs.take k)).length, false) := by
  have hz := (perr_zero fs).1 h
  have hk0 : perr (fs.take k) = 0 := (perr_zero _).2 fun f hf => hz f (List.mem_of_mem_take hf)
  have e : (pbytes fs).take cut = pbytes (fs.take k) ++ (pbytes (fs.drop k)).take (cut - (pbytes (fs.take k)).length) := by
    conv => lhs; rw [← List.take_append_drop k fs, pbytes_append, List.take_append, List.take_of_length_le hc]
  have hs : scan ((pbytes (fs.drop k)).take (cut - (pbytes (fs.take k)).length)) = ([], 0, false) := by
    by_cases hl : k < fs.length
    · have hd : fs.drop k = fs[k] :: fs.drop (k + 1) := List.drop_eq_getElem_cons hl
      have h1 := one_length fs[k]
      have h2 := hn hl
      rw [hd, pbytes_cons, List.take_append_of_le_length (by omega)]
      exact scan_none (first_cut (hz _ (List.getElem_mem _)) _ (by omega))
    · rw [List.drop_of_length_le (by omega)]
      simp [pbytes, scan_nil]
  rw [e, scan_put _ hk0, hs]
  simp
theorem scan_spoilt (fs : List Fr) (h : perr fs = 0) (f : Fr) (hf : errOf f = 0) (d : List B) (hd : d.length = f.data.length) (hs : fsum (five f ++ d) ≠ fsum (five f ++ f.data)) (r : List B) :
    scan (pbytes fs ++ (five f ++ (be4 (fsum (five f ++ f.data)) ++ d) ++ r)) = (fs, (pbytes fs).length, true) := by
  have h2 := ((errOf_ok f).1 hf).2.2
  have e1 : (five f ++ (be4 (fsum (five f ++ f.data)) ++ d) ++ r).drop 1 = be4 (BitVec.ofNat 32 f.data.length) ++ (be4 (fsum (five f ++ f.data)) ++ (d ++ r)) := by simp [five]
  have e5 : (five f ++ (be4 (fsum (five f ++ f.data)) ++ d) ++ r).drop 5 = be4 (fsum (five f ++ f.data)) ++ (d ++ r) := by simp [five, be4]
  have e9 : (five f ++ (be4 (fsum (five f ++ f.data)) ++ d) ++ r).drop 9 = d ++ r := by simp [five, be4]
  have et : (five f ++ (be4 (fsum (five f ++ f.data)) ++ d) ++ r).take 5 = five f := by simp [five, be4]
  have el : (five f ++ (be4 (fsum (five f ++ f.data)) ++ d) ++ r).length = 9 + f.data.length + r.length := by simp [five, be4, hd]; omega
  have hn : (BitVec.ofNat 32 f.data.length).toNat = f.data.length := by rw [BitVec.toNat_ofNat]; omega
  have hff : first (five f ++ (be4 (fsum (five f ++ f.data)) ++ d) ++ r) = (none, true) := by
    unfold first
    rw [e1, num4_be4, hn, e5, num4_be4, e9, et, el, if_neg (by omega), if_neg (by omega), if_neg (by omega), ← hd, List.take_left, if_neg (Ne.symm hs)]
  rw [scan_put _ h, scan_none hff]
  simp

/-! ### bits turned -/
def bitAt (l : List B) (i : Nat) : Bool := (l.getD (i / 8) 0).getLsbD (i % 8)
theorem bits_eq (l : List B) : l.flatMap bitsOf = (List.range (8 * l.length)).map (bitAt l) := by
  induction l with
  | nil => rfl
  | cons c l ih =>
    rw [List.flatMap_cons, ih, List.length_cons, show 8 * (l.length + 1) = 8 + 8 * l.length by omega, List.range_add, List.map_append, List.map_map]
    have h1 : bitsOf c = (List.range 8).map (bitAt (c :: l)) := by
      unfold bitsOf
      apply List.map_congr_left; intro i hi
      simp at hi
      unfold bitAt
      rw [show i / 8 = 0 by omega, show i % 8 = i by omega]; rfl
    rw [h1]
    congr 1
    · apply List.map_congr_left; intro i _
      unfold bitAt
      simp only [Function.comp]
      rw [show (8 + i) / 8 = i / 8 + 1 by omega, show (8 + i) % 8 = i % 8 by omega]
      rfl
def flip (l : List B) (p : Nat) : List B := l.set (p / 8) (l.getD (p / 8) 0 ^^^ (1#8 <<< (p % 8)))
theorem flip_length (l : List B) (p : Nat) : (flip l p).length = l.length := by simp [flip]
theorem one_bit (p i : Nat) (hi : i < 8) : (1#8 <<< p).getLsbD i = decide (i = p) := by
  rw [BitVec.getLsbD_shiftLeft, BitVec.getLsbD_one]
  by_cases h : i = p
  · subst h; simp [hi]
  · by_cases h2 : i < p
    · simp [h, h2]
    · simp [h]; intro _ _; omega
theorem bitAt_flip (l : List B) (p i : Nat) (hp : p / 8 < l.length) : bitAt (flip l p) i = xor (bitAt l i) (decide (i = p)) := by
  unfold bitAt flip
  rw [List.getD_eq_getElem?_getD, List.getElem?_set]
  by_cases h : p / 8 = i / 8
  · rw [if_pos h, if_pos hp, Option.getD_some, BitVec.getLsbD_xor, h, one_bit _ _ (by omega)]
    congr 1
    by_cases h2 : i = p
    · simp [h2]
    · rw [decide_eq_false h2, decide_eq_false (by omega)]
  · rw [if_neg h, decide_eq_false (show ¬ i = p from fun e => h (by rw [e])), ← List.getD_eq_getElem?_getD]; simp
/-- the first k of 32 bits from `a` on, those of t turned -/
def turn (l : List B) (a : Nat) (t : W) : Nat → List B
  | 0 => l
  | k + 1 => if t.getLsbD k then flip (turn l a t k) (a + k) else turn l a t k
theorem turn_length (l : List B) (a : Nat) (t : W) (k : Nat) : (turn l a t k).length = l.length := by
  induction k with
  | zero => rfl
  | succ k ih => rw [turn]; split <;> simp [flip_length, ih]
theorem bitAt_turn (l : List B) (a : Nat) (t : W) (k i : Nat) (h : a + k ≤ 8 * l.length) : bitAt (turn l a t k) i = xor (bitAt l i) (decide (a ≤ i ∧ i < a + k) && t.getLsbD (i - a)) := by
  induction k with
  | zero => rw [turn, decide_eq_false (by omega)]; simp
  | succ k ih =>
    rw [turn]
    split
    · rename_i ht
      rw [bitAt_flip _ _ _ (by rw [turn_length]; omega), ih (by omega)]
      by_cases e : i = a + k
      · subst e
        rw [decide_eq_false (show ¬ (a ≤ a + k ∧ a + k < a + k) by omega), decide_eq_true (show a ≤ a + k ∧ a + k < a + (k + 1) by omega), show a + k - a = k by omega, ht]; simp
      · rw [decide_eq_false e]
        have : decide (a ≤ i ∧ i < a + k) = decide (a ≤ i ∧ i < a + (k + 1)) := by
          rw [decide_eq_decide]; omega
        rw [this]; simp
    · rename_i ht
      rw [ih (by omega)]
      by_cases e : i = a + k
      · subst e
        rw [show a + k - a = k by omega]
        simp only [Bool.not_eq_true] at ht
        rw [ht]; simp
      · have : decide (a ≤ i ∧ i < a + k) = decide (a ≤ i ∧ i < a + (k + 1)) := by
          rw [decide_eq_decide]; omega
        rw [this]
def errs (n a : Nat) (t : W) : List Bool := List.replicate a false ++ ((List.range 32).map fun i => t.getLsbD i) ++ List.replicate (n - a - 32) false
theorem bits_turn (l : List B) (a : Nat) (t : W) (h : a + 32 ≤ 8 * l.length) : (turn l a t 32).flatMap bitsOf = List.zipWith xor (l.flatMap bitsOf) (errs (8 * l.length) a t) := by
  rw [bits_eq, bits_eq, turn_length]
  apply List.ext_getElem?
  intro i
  by_cases hi : i < 8 * l.length
  · rw [List.getElem?_zipWith, List.getElem?_map, List.getElem?_map, List.getElem?_range hi]
    simp only [Option.map_some]
    have he : (errs (8 * l.length) a t)[i]? = some (decide (a ≤ i ∧ i < a + 32) && t.getLsbD (i - a)) := by
      unfold errs
      by_cases h1 : i < a
      · rw [List.append_assoc, List.getElem?_append_left (by simpa using h1), List.getElem?_replicate, if_pos h1, decide_eq_false (by omega)]; rfl
      · by_cases h2 : i < a + 32
        · rw [List.getElem?_append_left (by simp; omega), List.getElem?_append_right (by simp; omega), List.getElem?_map, List.length_replicate, List.getElem?_range (by omega), decide_eq_true (by omega)]
          simp
        · rw [List.getElem?_append_right (by simp; omega), List.getElem?_replicate, if_pos (by simp; omega), decide_eq_false (by omega)]; rfl
    rw [he, bitAt_turn _ _ _ _ _ h]
  · rw [List.getElem?_eq_none (by simp; omega), List.getElem?_eq_none]
    simp [List.length_zipWith]; omega
theorem crc_turn (w : W) (p l : List B) (a : Nat) (t : W) (h : a + 32 ≤ 8 * l.length) (ht : t ≠ 0#32) : crc w (p ++ turn l a t 32) ≠ crc w (p ++ l) := by
  rw [crc_append, crc_append, crc_feed _ (turn l a t 32), crc_feed _ l, bits_turn l a t h]
  obtain ⟨v, hv⟩ : ∃ v, v = crc w p := ⟨_, rfl⟩
  rw [← hv]
  have hl : (l.flatMap bitsOf).length = (errs (8 * l.length) a t).length := by
    rw [bits_eq]; simp [errs]; omega
  have := feed_xor (l.flatMap bitsOf) (errs (8 * l.length) a t) hl v 0#32
  rw [BitVec.xor_zero] at this
  rw [this]
  intro e
  have hb := feed_burst a (8 * l.length - a - 32) t ht
  apply hb
  have e2 : feed v (l.flatMap bitsOf) ^^^ (feed v (l.flatMap bitsOf) ^^^ feed 0#32 (errs (8 * l.length) a t)) = feed v (l.flatMap bitsOf) ^^^ feed v (l.flatMap bitsOf) := by rw [e]
  rw [← BitVec.xor_assoc, BitVec.xor_self, BitVec.zero_xor] at e2
  exact e2
theorem fsum_turn (p l : List B) (a : Nat) (t : W) (h : a + 32 ≤ 8 * l.length) (ht : t ≠ 0#32) : fsum (p ++ turn l a t 32) ≠ fsum (p ++ l) := by
  unfold fsum
  intro e
  exact crc_turn _ p l a t h ht (by simpa using congrArg (fun x => ~~~x) e)
end Go.Proofs.YtfpjmeknjhhakaaGreat.F

/- A store as plain Lean functions, and what is known of it. No program in sight. -/
namespace Go.Proofs.YtfpjmeknjhhakaaGreat.S
open Go.Proofs.YtfpjmeknjhhakaaGreat

abbrev B := BitVec 8
structure Cl where
  term : Int
  vote : Int
  applied : Int
  active : Int
deriving DecidableEq
def zeroCl : Cl := ⟨0, 0, 0, 0⟩
structure St where
  c : Cl
  l : List M.Ent
def zero : St := ⟨zeroCl, []⟩
def wi (n m : Int) : Bool := decide (0 ≤ n) && decide (n ≤ m)
def may (c : Cl) : Bool := wi c.term 1099511627776 && wi c.vote 7 && wi c.applied 1073741824 && wi c.active 1073741824
theorem may_in {c : Cl} (h : may c = true) : M.inI64 c.term ∧ M.inI64 c.vote ∧ M.inI64 c.applied ∧ M.inI64 c.active := by
  simp only [may, wi, Bool.and_eq_true, decide_eq_true_eq] at h
  unfold M.inI64
  omega
def cdata (c : Cl) : List B := M.num c.term ++ M.num c.vote ++ M.num c.applied ++ M.num c.active
theorem cdata_length (c : Cl) : (cdata c).length = 32 := by simp [cdata, M.num_length]
def kept (c : Cl) : F.Fr := ⟨1, cdata c⟩
def edata (i : Int) (e : M.Ent) : List B := M.num i ++ M.ent e
theorem edata_length (i : Int) (e : M.Ent) : (edata i e).length = 56 + e.data.length := by simp [edata, M.num_length, M.ent_length]; omega
def put (i : Int) (e : M.Ent) : F.Fr := ⟨2, edata i e⟩
/-- four numbers -/
def rd4 (s : M.Rdr) : Cl × M.Rdr :=
  let a := M.rdNumber s; let b := M.rdNumber a.2; let c := M.rdNumber b.2; let d := M.rdNumber c.2
  (⟨a.1, b.1, c.1, d.1⟩, d.2)
def sset (s : St) (d : List B) : Option St := if (rd4 (some d)).2 = some [] ∧ may (rd4 (some d)).1 = true then some ⟨(rd4 (some d)).1, s.l⟩ else none
/-- an index and an entry -/
def rdIE (s : M.Rdr) : Int × M.Ent × M.Rdr := ((M.rdNumber s).1, M.rdEntry (M.rdNumber s).2)
def sstand (s : St) (d : List B) : Option St :=
  if (rdIE (some d)).2.2 = some [] ∧ 1 ≤ (rdIE (some d)).1 ∧ (rdIE (some d)).1 ≤ s.l.length + 1 then some ⟨s.c, s.l.take ((rdIE (some d)).1 - 1).toNat ++ [(rdIE (some d)).2.1]⟩ else none
/-- a frame is done -/
def sdo (s : St) (f : F.Fr) : Option St := if f.kind = 1 then sset s f.data else if f.kind = 2 then sstand s f.data else none
def sdos (s : St) : List F.Fr → Option St
  | [] => some s
  | f :: l => (sdo s f).bind fun s' => sdos s' l
theorem sdos_append (s : St) (a b : List F.Fr) : sdos s (a ++ b) = (sdos s a).bind fun s' => sdos s' b := by
  induction a generalizing s with
  | nil => rfl
  | cons f a ih =>
    simp only [List.cons_append, sdos]
    cases sdo s f with
    | none => rfl
    | some s' => simp only [Option.bind_some]; exact ih s'
theorem rd4_cdata (c : Cl) (h : may c = true) : rd4 (some (cdata c)) = (c, some []) := by
  obtain ⟨h1, h2, h3, h4⟩ := may_in h
  have e1 : cdata c = M.num c.term ++ (M.num c.vote ++ (M.num c.applied ++ (M.num c.active ++ []))) := by simp [cdata]
  simp only [rd4, e1, M.rdNumber_num _ _ h1, M.rdNumber_num _ _ h2, M.rdNumber_num _ _ h3, M.rdNumber_num _ _ h4]
theorem sdo_kept (s : St) (c : Cl) (h : may c = true) : sdo s (kept c) = some ⟨c, s.l⟩ := by
  simp [sdo, kept, sset, rd4_cdata c h, h]
theorem rdIE_edata (i : Int) (e : M.Ent) (hi : M.inI64 i) (he : e.Ok) : rdIE (some (edata i e)) = (i, e, some []) := by
  have e1 : edata i e = M.num i ++ (M.ent e ++ []) := by simp [edata]
  simp only [rdIE, e1, M.rdNumber_num _ _ hi, M.rdEntry_ent _ _ he]
theorem sdo_put (s : St) (i : Int) (e : M.Ent) (he : e.Ok) (h1 : 1 ≤ i) (h2 : i ≤ s.l.length + 1) (hi : M.inI64 i) : sdo s (put i e) = some ⟨s.c, s.l.take (i - 1).toNat ++ [e]⟩ := by
  simp [sdo, put, sstand, rdIE_edata i e hi he, h1, h2]
/-- entries from an index on -/
def puts (i : Int) : List M.Ent → List F.Fr
  | [] => []
  | e :: l => put i e :: puts (i + 1) l
theorem puts_length (i : Int) (l : List M.Ent) : (puts i l).length = l.length := by
  induction l generalizing i with
  | nil => rfl
  | cons e l ih => simp [puts, ih]
theorem puts_append (i : Int) (a b : List M.Ent) : puts i (a ++ b) = puts i a ++ puts (i + a.length) b := by
  induction a generalizing i with
  | nil => simp [puts]
  | cons e a ih =>
    simp only [List.cons_append, puts, ih, List.length_cons]
    rw [show i + 1 + (a.length : Int) = i + ((a.length + 1 : Nat) : Int) by omega]
theorem sdos_puts (l : List M.Ent) (hl : ∀ e ∈ l, e.Ok) : ∀ (s : St) (i : Nat), 1 ≤ i → i ≤ s.l.length + 1 → i + l.length ≤ 1000000000000 → sdos s (puts i l) = some ⟨s.c, if l = [] then s.l else s.l.take (i - 1) ++ l⟩ := by
  induction l with
  | nil => intro s i _ _ _; simp [puts, sdos]
  | cons e l ih =>
    intro s i h1 h2 h3
    have h4 : i + 1 + l.length ≤ 1000000000000 := by rw [List.length_cons] at h3; omega
    have h5 := sdo_put s i e (hl e (List.mem_cons_self ..)) (by omega) (by omega) ⟨by omega, by omega⟩
    rw [show ((i : Int) - 1).toNat = i - 1 by omega] at h5
    simp only [puts, sdos, h5, Option.bind_some]
    have hlen : (s.l.take (i - 1) ++ [e]).length = i := by simp; omega
    have h6 := ih (fun e he => hl e (List.mem_cons_of_mem _ he)) ⟨s.c, s.l.take (i - 1) ++ [e]⟩ (i + 1) (by omega) (by show i + 1 ≤ _ + 1; rw [hlen]; exact Nat.le_refl _) h4
    rw [show ((i : Int) + 1) = ((i + 1 : Nat) : Int) by omega, h6]
    simp only [List.cons_ne_nil, if_false, Option.some.injEq, St.mk.injEq, true_and]
    split
    · rename_i h; rw [h]
    · rw [show i + 1 - 1 = i by omega, List.take_of_length_le (by omega), List.append_assoc]; rfl
theorem kept_err (c : Cl) : F.errOf (kept c) = 0 := (F.errOf_ok _).2 ⟨by simp [kept], by simp [kept], by simp [kept, cdata_length]⟩
theorem put_err (i : Int) (e : M.Ent) (h : e.data.length ≤ 200000) : F.errOf (put i e) = 0 := (F.errOf_ok _).2 ⟨by simp [put], by simp [put], by simp only [put, edata_length]; omega⟩
theorem puts_err (i : Int) (l : List M.Ent) (h : ∀ e ∈ l, e.data.length ≤ 200000) : F.perr (puts i l) = 0 := by
  rw [F.perr_zero]
  induction l generalizing i with
  | nil => intro f hf; cases hf
  | cons e l ih =>
    intro f hf
    rcases List.mem_cons.1 hf with rfl | hf
    · exact put_err i e (h e (List.mem_cons_self ..))
    · exact ih (i + 1) (fun e he => h e (List.mem_cons_of_mem _ he)) f hf
/-- what a file's bytes make: the store, how many are whole frames; or nothing: it is spoilt -/
def sread (b : List B) : Option (St × Nat) := if (F.scan b).2.2 = true then none else (sdos zero (F.scan b).1).map fun s => (s, (F.scan b).2.1)
theorem sread_put (fs : List F.Fr) (s : St) (h : F.perr fs = 0) (hs : sdos zero fs = some s) : sread (F.pbytes fs) = some (s, (F.pbytes fs).length) := by
  have h1 := F.scan_put fs h []
  rw [List.append_nil, F.scan_nil] at h1
  simp [sread, h1, hs]
theorem sdos_take {s s' : St} {fs : List F.Fr} (h : sdos s fs = some s') (k : Nat) : ∃ t, sdos s (fs.take k) = some t := by
  have h2 := sdos_append s (fs.take k) (fs.drop k)
  rw [List.take_append_drop, h] at h2
  cases hx : sdos s (fs.take k) with
  | none => rw [hx] at h2; cases h2
  | some t => exact ⟨t, rfl⟩
end Go.Proofs.YtfpjmeknjhhakaaGreat.S

/- A file's bytes cut by a crash, or with a byte turned. No program in sight. -/
namespace Go.Proofs.YtfpjmeknjhhakaaGreat.S
open Go.Proofs.YtfpjmeknjhhakaaGreat

theorem fsum_bits (p l l' : List B) (hl : l.length = l'.length) (h : ∀ i, i < 8 * l.length → F.bitAt l i = F.bitAt l' i) : F.fsum (p ++ l) = F.fsum (p ++ l') := by
  unfold F.fsum
  rw [F.crc_append, F.crc_append, F.crc_feed _ l, F.crc_feed _ l', F.bits_eq, F.bits_eq, ← hl]
  congr 2
  exact List.map_congr_left fun i hi => h i (List.mem_range.1 hi)
theorem bitAt_set (l : List B) (k : Nat) (hk : k < l.length) (y : B) (i : Nat) : F.bitAt (l.set k (l.getD k 0 ^^^ y)) i = xor (F.bitAt l i) (decide (i / 8 = k) && y.getLsbD (i % 8)) := by
  unfold F.bitAt
  by_cases h : i / 8 = k
  · subst h
    have e1 : (l.set (i / 8) (l.getD (i / 8) 0 ^^^ y)).getD (i / 8) 0 = l.getD (i / 8) 0 ^^^ y := by
      simp [List.getD_eq_getElem?_getD, hk]
    rw [e1]
    simp [BitVec.getLsbD_xor]
  · have e1 : (l.set k (l.getD k 0 ^^^ y)).getD (i / 8) 0 = l.getD (i / 8) 0 := by
      simp only [List.getD_eq_getElem?_getD]
      rw [List.getElem?_set_ne (fun e => h e.symm)]
    rw [e1]
    simp [h]
theorem fsum_byte (p l : List B) (k : Nat) (hk : k < l.length) (h4 : 4 ≤ l.length) (y : B) (hy : y ≠ 0#8) : F.fsum (p ++ l.set k (l.getD k 0 ^^^ y)) ≠ F.fsum (p ++ l) := by
  obtain ⟨a, ha⟩ : ∃ a, a = min (8 * k) (8 * l.length - 32) := ⟨_, rfl⟩
  obtain ⟨t, ht⟩ : ∃ t : BitVec 32, t = y.setWidth 32 <<< (8 * k - a) := ⟨_, rfl⟩
  have hb : ∀ j, j < 32 → t.getLsbD j = (decide (8 * k - a ≤ j) && y.getLsbD (j - (8 * k - a))) := fun j hj => by
    rw [ht, BitVec.getLsbD_shiftLeft, BitVec.getLsbD_setWidth]
    by_cases h1 : j < 8 * k - a
    · have h2 : ¬ 8 * k - a ≤ j := by omega
      simp [hj, h1, h2]
    · have h2 : 8 * k - a ≤ j := by omega
      have h3 : j - (8 * k - a) < 32 := by omega
      simp [hj, h1, h2, h3]
  have htn : t ≠ 0#32 := fun h0 => hy (by
    apply BitVec.eq_of_getLsbD_eq
    intro i hi
    have h1 := hb (8 * k - a + i) (by omega)
    rw [h0] at h1
    simp at h1
    simp [h1])
  have e := fsum_bits p (l.set k (l.getD k 0 ^^^ y)) (F.turn l a t 32) (by rw [List.length_set, F.turn_length]) (fun i hi => by
    rw [List.length_set] at hi
    rw [bitAt_set l k hk y i, F.bitAt_turn l a t 32 i (by omega)]
    congr 1
    by_cases h1 : a ≤ i ∧ i < a + 32
    · rw [hb (i - a) (by omega)]
      by_cases h2 : i / 8 = k
      · have h3 : 8 * k - a ≤ i - a := by omega
        simp [h1, h2, h3, show i - a - (8 * k - a) = i % 8 by omega]
      · by_cases h3 : 8 * k - a ≤ i - a
        · have h5 : y.getLsbD (i - a - (8 * k - a)) = false := BitVec.getLsbD_of_ge _ _ (by omega)
          simp [h1, h2, h5]
        · simp [h1, h2, h3]
    · have h2 : ¬ i / 8 = k := by omega
      simp [h1, h2])
  rw [e]
  exact F.fsum_turn p l a t (by omega) htn
/-- how many frames are whole in so many bytes -/
def whole (fs : List F.Fr) (cut : Nat) : Nat := match fs with
  | [] => 0
  | f :: l => if 9 + f.data.length ≤ cut then whole l (cut - (9 + f.data.length)) + 1 else 0
theorem whole_le (fs : List F.Fr) (cut : Nat) : whole fs cut ≤ fs.length := by
  induction fs generalizing cut with
  | nil => exact Nat.le_refl _
  | cons f l ih =>
    rw [whole]
    split
    · have := ih (cut - (9 + f.data.length)); rw [List.length_cons]; omega
    · exact Nat.zero_le _
theorem whole_spec (fs : List F.Fr) (cut : Nat) : (F.pbytes (fs.take (whole fs cut))).length ≤ cut ∧ ((hl : whole fs cut < fs.length) → cut < (F.pbytes (fs.take (whole fs cut))).length + 9 + (fs[whole fs cut]).data.length) := by
  induction fs generalizing cut with
  | nil => exact ⟨Nat.zero_le _, fun h => absurd h (Nat.not_lt_zero _)⟩
  | cons f l ih =>
    by_cases h : 9 + f.data.length ≤ cut
    · have e : whole (f :: l) cut = whole l (cut - (9 + f.data.length)) + 1 := by rw [whole, if_pos h]
      obtain ⟨h1, h2⟩ := ih (cut - (9 + f.data.length))
      have h3 := F.one_length f
      simp only [e, List.take_succ_cons, F.pbytes_cons, List.length_append]
      refine ⟨by omega, fun hl => ?_⟩
      have h4 := h2 (by rw [List.length_cons] at hl; omega)
      simp only [List.getElem_cons_succ]
      omega
    · have e : whole (f :: l) cut = 0 := by rw [whole, if_neg h]
      simp only [e, List.take_zero]
      refine ⟨Nat.zero_le _, fun hl => ?_⟩
      simp only [List.getElem_cons_zero]
      show cut < 0 + 9 + _
      omega
theorem scan_whole (fs : List F.Fr) (h : F.perr fs = 0) (cut : Nat) : F.scan ((F.pbytes fs).take cut) = (fs.take (whole fs cut), (F.pbytes (fs.take (whole fs cut))).length, false) :=
  F.scan_cut fs h cut _ (whole_le fs cut) (whole_spec fs cut).1 (whole_spec fs cut).2
theorem whole_ge (a b : List F.Fr) (cut : Nat) (h : (F.pbytes a).length ≤ cut) : a.length ≤ whole (a ++ b) cut := by
  induction a generalizing cut with
  | nil => exact Nat.zero_le _
  | cons f a ih =>
    rw [F.pbytes_cons, List.length_append, F.one_length] at h
    rw [List.cons_append, whole, if_pos (by omega), List.length_cons]
    have := ih (cut - (9 + f.data.length)) (by omega)
    omega
/-- a file cut by a crash: what it makes is what some of the frames make, all that were safe among them -/
theorem sread_crash (a b : List F.Fr) (s : St) (h : F.perr (a ++ b) = 0) (hs : sdos zero (a ++ b) = some s) (cut : Nat) (hc : (F.pbytes a).length ≤ cut) :
    ∃ j t, j ≤ b.length ∧ sdos zero (a ++ b.take j) = some t ∧ sread ((F.pbytes (a ++ b)).take cut) = some (t, (F.pbytes (a ++ b.take j)).length) ∧ (F.pbytes (a ++ b.take j)).length ≤ cut := by
  have h1 := whole_ge a b cut hc
  have h2 := whole_le (a ++ b) cut
  rw [List.length_append] at h2
  have e : (a ++ b).take (whole (a ++ b) cut) = a ++ b.take (whole (a ++ b) cut - a.length) := by
    rw [List.take_append, List.take_of_length_le h1]
  obtain ⟨t, ht⟩ := sdos_take hs (whole (a ++ b) cut)
  have h3 := (whole_spec (a ++ b) cut).1
  have h4 := scan_whole (a ++ b) h cut
  rw [e] at ht h3 h4
  exact ⟨_, t, by omega, ht, by simp [sread, h4, ht], h3⟩
/-- a byte within a frame's data turned -/
theorem sread_turned (a : List F.Fr) (f : F.Fr) (b : List F.Fr) (h : F.perr (a ++ f :: b) = 0) (k : Nat) (hk : k < f.data.length) (h4 : 4 ≤ f.data.length) (y : B) (hy : y ≠ 0#8) :
    (F.scan ((F.pbytes (a ++ f :: b)).set ((F.pbytes a).length + 9 + k) ((F.pbytes (a ++ f :: b)).getD ((F.pbytes a).length + 9 + k) 0 ^^^ y))).2.2 = true := by
  have hz := (F.perr_zero _).1 h
  have ha : F.perr a = 0 := (F.perr_zero _).2 fun g hg => hz g (List.mem_append_left _ hg)
  have hf := hz f (List.mem_append_right _ (List.mem_cons_self ..))
  have e0 : F.pbytes (a ++ f :: b) = F.pbytes a ++ (F.five f ++ (F.be4 (F.fsum (F.five f ++ f.data)) ++ f.data) ++ F.pbytes b) := by
    rw [F.pbytes_append, F.pbytes_cons, F.one]
  have l5 : (F.five f).length = 5 := rfl
  have l4 : ∀ n, (F.be4 n).length = 4 := fun _ => rfl
  have eg : (F.pbytes (a ++ f :: b)).getD ((F.pbytes a).length + 9 + k) 0 = f.data.getD k 0 := by
    rw [e0]
    simp only [List.getD_eq_getElem?_getD]
    rw [List.getElem?_append_right (by omega), List.getElem?_append_left (by simp only [List.length_append, l5, l4]; omega), List.getElem?_append_right (by rw [l5]; omega), List.getElem?_append_right (by rw [l5, l4]; omega)]
    rw [l5, l4, show (F.pbytes a).length + 9 + k - (F.pbytes a).length - 5 - 4 = k by omega]
  rw [eg, e0, List.set_append_right _ _ (by omega), List.set_append_left _ _ (by simp only [List.length_append, l5, l4]; omega), List.set_append_right _ _ (by rw [l5]; omega), List.set_append_right _ _ (by rw [l5, l4]; omega)]
  rw [l5, l4, show (F.pbytes a).length + 9 + k - (F.pbytes a).length - 5 - 4 = k by omega]
  rw [F.scan_spoilt a ha f hf _ (List.length_set ..) (fsum_byte _ _ k hk h4 y hy)]
end Go.Proofs.YtfpjmeknjhhakaaGreat.S

/- Loads that are taken first in a drawn region which later writes their cells: the condition on the world may hang on what has come up. Plain lemmas over any program (the base's wpAnyH with S by what is listed). -/
namespace Go.Proofs.YtfpjmeknjhhakaaGreat.K
open Go

section
variable {P : Program} {ops : Array Oper} {Q : Exit → Act → World → Prop} {md : Region.Mode} {S : Array Bool → World → Prop}
/-- what has come up has come up behind what it waits for -/
def ShutL (md : Region.Mode) (ops : Array Oper) (l : Array Bool) : Prop := ∀ j oj, ops[j]? = some oj → l.getD j false = true → ∀ e ∈ oj.after, Region.binds md e = true → l.getD e.on false = true
theorem ShutL.start (n : Nat) : ShutL md ops (Array.replicate n false) := fun j oj _ h => by
  exfalso
  rw [Array.getD_eq_getD_getElem?] at h
  rcases Nat.lt_or_ge j n with h1 | h1
  · rw [Array.getElem?_replicate, if_pos h1] at h; simp at h
  · rw [Array.getElem?_replicate, if_neg (by omega)] at h; simp at h
theorem getD_set_same {l : Array Bool} {i : Nat} (h : i < l.size) (d : Bool) : (l.setIfInBounds i true).getD i d = true := by
  simp [Array.getD_eq_getD_getElem?, h]
theorem getD_mono {l : Array Bool} {i j : Nat} (h : l.getD j false = true) : (l.setIfInBounds i true).getD j false = true := by
  by_cases hij : i = j
  · subst hij
    have : i < l.size := by
      rcases Nat.lt_or_ge i l.size with h1 | h1
      · exact h1
      · rw [Array.getD_eq_getD_getElem?, Array.getElem?_eq_none h1] at h; simp at h
    exact getD_set_same this _
  · rw [getD_set_ne false hij]; exact h
theorem ShutL.set {l : Array Bool} {i : Nat} (h : ShutL md ops l) (hi : i ∈ Region.ready md ops l) : ShutL md ops (l.setIfInBounds i true) := fun j oj hj hl e he hb => by
  by_cases hij : i = j
  · subst hij
    obtain ⟨_, o, ho, hall⟩ := mem_ready.1 hi
    rw [hj] at ho
    cases ho
    exact getD_mono (hall e he hb)
  · rw [getD_set_ne false hij] at hl
    exact getD_mono (h j oj hj hl e he hb)
/-- whatever order is picked, and S holds behind every operation, of what has come up then -/
def wpAnyL (P : Program) (md : Region.Mode) (ops : Array Oper) (Q : Exit → Act → World → Prop) (S : Array Bool → World → Prop) : Nat → Array Bool → Act → World → Prop
  | 0, listed, a, w => Region.ready md ops listed = [] ∧ Q .normal a w
  | fuel + 1, listed, a, w =>
    (Region.ready md ops listed = [] → Q .normal a w) ∧
    ∀ i ∈ Region.ready md ops listed, wpOp P ops Q i (fun a' w' => S (listed.setIfInBounds i true) w' ∧ wpAnyL P md ops Q S fuel (listed.setIfInBounds i true) a' w') a w
theorem wpAny_of_L : ∀ (fuel : Nat) (listed : Array Bool) (a : Act) (w : World), wpAnyL P md ops Q S fuel listed a w → wpAny P md ops Q fuel listed a w
  | 0, _, _, _, h => h
  | fuel + 1, _, _, _, h => ⟨h.1, fun i hi => wpOp_mono (fun a' w' h' => wpAny_of_L fuel _ a' w' h'.2) (h.2 i hi)⟩
theorem wpAnyL_first {i : Nat} {oi : Oper} {v : Value} {S0 : World → Prop} (hi : ops[i]? = some oi) (hsel : ∀ (j : Nat) (o : Oper) cs b, ops[j]? = some o → o.op ≠ .select cs b)
    (hQ : ∀ c a w, Q (.panic c) (a.put oi.dst v) w → Q (.panic c) a w) (hm : ∀ l w, S (l.setIfInBounds i true) w ↔ S l w) (h0 : ∀ l w, ShutL md ops l → l.getD i true = false → S l w → S0 w) :
    ∀ (fuel : Nat) (listed : Array Bool) (a : Act) (w : World), ShutL md ops listed →
      (∀ j oj, ops[j]? = some oj → j ≠ i → listed.getD j true = false → (∀ e ∈ oj.after, Region.binds md e = true → e.on ≠ i) → oi.apart ops oj = true) →
      i ∈ Region.ready md ops listed → YieldsIf P ops S0 oi v a → S listed w →
      wpAnyL P md ops Q S fuel (listed.setIfInBounds i true) (a.put oi.dst v) w → wpAnyL P md ops Q S (fuel + 1) listed a w := by
  intro fuel
  induction fuel with
  | zero =>
    intro listed a w hsh _ hr hy hS H
    refine ⟨fun h => (by rw [h] at hr; cases hr), fun j hj => ?_⟩
    by_cases hji : j = i
    · subst hji; exact hy.wpOp hi (h0 _ _ hsh (mem_ready.1 hr).1 hS) ⟨(hm _ _).2 hS, H⟩
    · have := ready_mono hj hji
      rw [H.1] at this
      cases this
  | succ fuel ih =>
    intro listed a w hsh hfree hr hy hS H
    refine ⟨fun h => (by rw [h] at hr; cases hr), fun j hj => ?_⟩
    by_cases hji : j = i
    · subst hji; exact hy.wpOp hi (h0 _ _ hsh (mem_ready.1 hr).1 hS) ⟨(hm _ _).2 hS, H⟩
    · have h1 := H.2 j (ready_mono hj hji)
      obtain ⟨hjun, oj, hoj, hall⟩ := mem_ready.1 hj
      have hnot : ∀ e ∈ oj.after, Region.binds md e = true → e.on ≠ i := fun e he hb heq => by
        have h1 := hall e he hb
        have h0 := (mem_ready.1 hr).1
        rw [heq] at h1
        rcases Nat.lt_or_ge i listed.size with h' | h'
        · simp [h'] at h0 h1; rw [h0] at h1; cases h1
        · simp [Array.getElem?_eq_none h'] at h1
      have h2 := wpOp_putIf hoj (hfree j oj hoj hji hjun hnot) (fun cs b => hsel i oi cs b hi) (fun cs b => hsel j oj cs b hoj) hQ hy h1
      have hfree' : ∀ k ok, ops[k]? = some ok → k ≠ i → (listed.setIfInBounds j true).getD k true = false →
          (∀ e ∈ ok.after, Region.binds md e = true → e.on ≠ i) → oi.apart ops ok = true := fun k ok hk hki hun hno => by
        refine hfree k ok hk hki ?_ hno
        by_cases hjk : j = k
        · subst hjk; exact hjun
        · rw [getD_set_ne true hjk] at hun; exact hun
      refine wpOp_mono (fun a' w' h3 => ?_) h2
      have h4 := h3.2
      rw [Array.setIfInBounds_comm _ _ (Ne.symm hji)] at h4
      have h5 := (hm _ _).1 h4.1
      exact ⟨h5, ih (listed.setIfInBounds j true) a' w' (hsh.set hj) hfree' (ready_mono hr (Ne.symm hji)) h3.1 h5 h4.2⟩
/-- take number i first -/
theorem wpAnyL_take {S0 : World → Prop} {i : Nat} {oi : Oper} {v : Value} {fuel : Nat} {listed : Array Bool} {a : Act} {w : World} (hi : ops[i]? = some oi)
    (hs : Region.noSelect ops = true) (hf : Region.free md ops listed i = true) (hr : (Region.ready md ops listed).contains i = true)
    (hQ : ∀ c a w, Q (.panic c) (a.put oi.dst v) w → Q (.panic c) a w) (hm : ∀ l w, S (l.setIfInBounds i true) w ↔ S l w) (h0 : ∀ l w, ShutL md ops l → l.getD i true = false → S l w → S0 w)
    (hsh : ShutL md ops listed) (hy : YieldsIf P ops S0 oi v a) (hS : S listed w)
    (h : ShutL md ops (listed.setIfInBounds i true) → S (listed.setIfInBounds i true) w → wpAnyL P md ops Q S fuel (listed.setIfInBounds i true) (a.put oi.dst v) w) : wpAnyL P md ops Q S (fuel + 1) listed a w :=
  wpAnyL_first hi (Region.noSelect_spec hs) hQ hm h0 fuel listed a w hsh (Region.free_spec hi hf) (by simpa using hr) hy hS (h (hsh.set (by simpa using hr)) ((hm _ _).2 hS))
/-- but one may come up -/
theorem wpAnyL_one {i : Nat} {o : Oper} {fuel : Nat} {listed : Array Bool} {a : Act} {w : World} (hsh : ShutL md ops listed) (hr : Region.ready md ops listed = [i]) (ho : ops[i]? = some o)
    (h : ∀ K' : Act → World → Prop, Shut (∀ a w, S (listed.setIfInBounds i true) w → (ShutL md ops (listed.setIfInBounds i true) → S (listed.setIfInBounds i true) w → wpAnyL P md ops Q S fuel (listed.setIfInBounds i true) a w) → K' a w) → if Region.wanted o (yielded ops a.tmps) = true then Oper.wp P o a w K' Q else K' (a.put o.dst undef) w) :
    wpAnyL P md ops Q S (fuel + 1) listed a w :=
  ⟨fun h0 => (by rw [hr] at h0; cases h0), fun j hj => by
    rw [hr] at hj
    obtain rfl := List.mem_singleton.1 hj
    exact wpOp_step ho (fun K' hK => h K' (fun a w hS hW => hK a w ⟨hS, hW (hsh.set (by rw [hr]; exact List.mem_singleton.2 rfl)) hS⟩))⟩
theorem wpAnyL_done {listed : Array Bool} {a : Act} {w : World} (hr : Region.ready md ops listed = []) (h : Q .normal a w) : ∀ fuel, wpAnyL P md ops Q S fuel listed a w
  | 0 => ⟨hr, h⟩
  | _ + 1 => ⟨fun _ => h, by rw [hr]; simp⟩
/-- the beginning -/
theorem wp_region_L {id : Nat} {a : Act} {w : World} (S : Array Bool → World → Prop) (hm : P.follows .mixedOrders = true)
    (h : ShutL .any ops (Array.replicate ops.size false) → wpAnyL P .any ops Q S ops.size (Array.replicate ops.size false) a w.drew) : (Code.region id ops true).wp P Q a w :=
  wp_region_any hm (wpAny_of_L _ _ _ _ (h (ShutL.start _)))
/-- the same, behind a structure: so that no elaborator reduces what is left -/
structure WL (P : Program) (md : Region.Mode) (ops : Array Oper) (Q : Exit → Act → World → Prop) (S : Array Bool → World → Prop) (fuel : Nat) (listed : Array Bool) (a : Act) (w : World) : Prop where
  out : wpAnyL P md ops Q S fuel listed a w
theorem WL.take {S0 : World → Prop} {i : Nat} {oi : Oper} {v : Value} {fuel : Nat} {listed : Array Bool} {a : Act} {w : World} (hi : ops[i]? = some oi)
    (hs : Region.noSelect ops = true) (hf : Region.free md ops listed i = true) (hr : (Region.ready md ops listed).contains i = true)
    (hQ : ∀ c a w, Q (.panic c) (a.put oi.dst v) w → Q (.panic c) a w) (hm : ∀ l w, S (l.setIfInBounds i true) w ↔ S l w) (h0 : ∀ l w, ShutL md ops l → l.getD i true = false → S l w → S0 w)
    (hsh : ShutL md ops listed) (hy : YieldsIf P ops S0 oi v a) (hS : S listed w)
    (h : ShutL md ops (listed.setIfInBounds i true) → S (listed.setIfInBounds i true) w → WL P md ops Q S fuel (listed.setIfInBounds i true) (a.put oi.dst v) w) : WL P md ops Q S (fuel + 1) listed a w :=
  ⟨wpAnyL_take hi hs hf hr hQ hm h0 hsh hy hS (fun h1 h2 => (h h1 h2).out)⟩
theorem WL.one {i : Nat} {o : Oper} {fuel : Nat} {listed : Array Bool} {a : Act} {w : World} (hsh : ShutL md ops listed) (hr : Region.ready md ops listed = [i]) (ho : ops[i]? = some o)
    (h : ∀ K' : Act → World → Prop, Shut (∀ a w, S (listed.setIfInBounds i true) w → (ShutL md ops (listed.setIfInBounds i true) → S (listed.setIfInBounds i true) w → WL P md ops Q S fuel (listed.setIfInBounds i true) a w) → K' a w) → if Region.wanted o (yielded ops a.tmps) = true then Oper.wp P o a w K' Q else K' (a.put o.dst undef) w) :
    WL P md ops Q S (fuel + 1) listed a w :=
  ⟨wpAnyL_one hsh hr ho (fun K' hK => h K' (fun a w hS hW => hK a w hS (fun h1 h2 => (hW h1 h2).out)))⟩
theorem WL.done {listed : Array Bool} {a : Act} {w : World} (hr : Region.ready md ops listed = []) (h : Q .normal a w) (fuel : Nat) : WL P md ops Q S fuel listed a w := ⟨wpAnyL_done hr h fuel⟩
theorem WL.region {id : Nat} {a : Act} {w : World} (S : Array Bool → World → Prop) (hm : P.follows .mixedOrders = true)
    (h : ShutL .any ops (Array.replicate ops.size false) → WL P .any ops Q S ops.size (Array.replicate ops.size false) a w.drew) : (Code.region id ops true).wp P Q a w :=
  wp_region_L S hm (fun h1 => (h h1).out)
/-- C until operation j has come up, D throughout -/
def SApp (j : Nat) (C D : World → Prop) (l : Array Bool) (w : World) : Prop := (l.getD j false = false → C w) ∧ D w
theorem SApp.intro {j : Nat} {C D : World → Prop} {l : Array Bool} {w : World} (h : l.getD j false = false → C w) (h2 : D w) : SApp j C D l w := ⟨h, h2⟩
theorem SApp.hm {i j : Nat} {C D : World → Prop} (hij : i ≠ j) : ∀ (l : Array Bool) w, SApp j C D (l.setIfInBounds i true) w ↔ SApp j C D l w := fun l w => by
  unfold SApp
  rw [getD_set_ne false hij]
theorem SApp.any {i j : Nat} {C D : World → Prop} : ∀ (l : Array Bool) w, ShutL md ops l → l.getD i true = false → SApp j C D l w → True := fun _ _ _ _ _ => trivial
theorem SApp.both {i j : Nat} {C D : World → Prop} (h : (ops[j]?.map fun o => o.after.any fun e => Region.binds md e && e.on == i) = some true) : ∀ (l : Array Bool) w, ShutL md ops l → l.getD i true = false → SApp j C D l w → C w ∧ D w := fun l w hl hi hS => by
  refine ⟨hS.1 ?_, hS.2⟩
  cases hj : l.getD j false with
  | false => rfl
  | true =>
    exfalso
    cases ho : ops[j]? with
    | none => rw [ho] at h; cases h
    | some o =>
      rw [ho] at h
      simp only [Option.map_some, Option.some.injEq] at h
      obtain ⟨e, he, h2⟩ := Array.any_eq_true'.1 h
      rw [Bool.and_eq_true] at h2
      have h3 := hl j o ho hj e he h2.1
      rw [show e.on = i by simpa using h2.2] at h3
      rw [Array.getD_eq_getD_getElem?] at hi h3
      cases hx : l[i]? with
      | none => rw [hx] at hi; simp at hi
      | some b => rw [hx] at hi h3; simp at hi h3; rw [hi] at h3; cases h3
/-- one waits for the next, all along -/
def pathB (md : Region.Mode) (ops : Array Oper) : Nat → List Nat → Bool
  | _, [] => true
  | j, k :: ks => ((ops[j]?.map fun o => o.after.any fun e => Region.binds md e && e.on == k) == some true) && pathB md ops k ks
theorem ShutL.path {l : Array Bool} (hl : ShutL md ops l) : ∀ (ks : List Nat) (j : Nat), pathB md ops j ks = true → l.getD j false = true → l.getD (ks.getLastD j) false = true
  | [], j, _, h => h
  | k :: ks, j, hp, h => by
    simp only [pathB, Bool.and_eq_true, beq_iff_eq] at hp
    obtain ⟨h1, h2⟩ := hp
    have h3 : l.getD k false = true := by
      cases ho : ops[j]? with
      | none => rw [ho] at h1; cases h1
      | some o =>
        rw [ho] at h1
        simp only [Option.map_some, Option.some.injEq] at h1
        obtain ⟨e, he, h4⟩ := Array.any_eq_true'.1 h1
        rw [Bool.and_eq_true] at h4
        have h5 := hl j o ho h e he h4.1
        rw [show e.on = k by simpa using h4.2] at h5
        exact h5
    have h6 := ShutL.path hl ks k h2 h3
    cases ks with
    | nil => exact h6
    | cons a b => exact h6
theorem SApp.far {i j : Nat} {C D : World → Prop} (ks : List Nat) (h : pathB md ops j ks = true) (hi' : ks.getLastD j = i) : ∀ (l : Array Bool) w, ShutL md ops l → l.getD i true = false → SApp j C D l w → C w ∧ D w := fun l w hl hi hS => by
  refine ⟨hS.1 ?_, hS.2⟩
  cases hj : l.getD j false with
  | false => rfl
  | true =>
    exfalso
    have h3 := hl.path ks j h hj
    rw [hi'] at h3
    rw [Array.getD_eq_getD_getElem?] at hi h3
    cases hx : l[i]? with
    | none => rw [hx] at hi; simp at hi
    | some b => rw [hx] at hi h3; simp at hi h3; rw [hi] at h3; cases h3
theorem SApp.right {i j : Nat} {C D : World → Prop} : ∀ (l : Array Bool) w, ShutL md ops l → l.getD i true = false → SApp j C D l w → D w := fun _ _ _ _ h => h.2
end
end Go.Proofs.YtfpjmeknjhhakaaGreat.K

/- A block of another kind (a map's, a reader's) beside a bank: none of the bank's, and made by the call. Plain lemmas over any program. -/
namespace Go.Proofs.YtfpjmeknjhhakaaGreat.K
open Go Go.RowKit

structure Side (w0 w : World) (R : Nat) (ob : Obj) (L : List Acc) : Prop where
  bank : Bank w0 w L
  at' : w.heap[R]? = some ob
  base : w0.heap.size ≤ R
  away : ∀ p ∈ L, p.v.ownBlock ≠ some R
section
variable {w0 w w' : World} {R : Nat} {ob ob' : Obj} {L L' : List Acc}
theorem Side.lt (h : Side w0 w R ob L) : R < w.heap.size := (Array.getElem?_eq_some_iff.1 h.at').1
theorem Side.since (h : Side w0 w R ob L) : Since w0 w := h.bank.since
/-- the bank did a step that wrote no more than one of its own rows -/
theorem Side.step (h : Side w0 w R ob L) (hB : Bank w0 w' L') {row : Option Nat} (hg : w.grownBy w' row) (hrow : row ≠ some R) (hL : ∀ p ∈ L', p.v.ownBlock = some R → False) : Side w0 w' R ob L' :=
  ⟨hB, (hg.block R h.lt (fun e => hrow e.symm)).trans h.at', h.base, fun p hp e => hL p hp e⟩
theorem Side.call (h : Side w0 w R ob L) (hb : Below w.heap.size w w') : Side w0 w' R ob L :=
  ⟨h.bank.call hb, (hb.block R h.lt).trans h.at', h.base, h.away⟩
theorem Side.drew (h : Side w0 w R ob L) : Side w0 w.drew R ob L := ⟨h.bank.drew, h.at', h.base, h.away⟩
theorem Side.sub (h : Side w0 w R ob L) (hs : L'.Sublist L) : Side w0 w R ob L' := ⟨h.bank.sub hs, h.at', h.base, fun p hp => h.away p (hs.subset hp)⟩
theorem Side.perm (h : Side w0 w R ob L) (hp : L.Perm L') : Side w0 w R ob L' :=
  ⟨⟨h.bank.since, fun p hm => h.bank.own p (hp.mem_iff.2 hm), (List.Perm.pairwise_iff (fun {_ _} h => Apartness.symm h) hp).1 h.bank.sep⟩, h.at', h.base, fun p hm => h.away p (hp.mem_iff.2 hm)⟩
/-- a callee made something -/
theorem Side.made (h : Side w0 w R ob L) (hb : Below w.heap.size w w') {e : TypeId} {size n : Nat} {v : Value} {xs : List Value} (ho : w'.ownsRow w.heap.size e size v n xs) : Side w0 w' R ob (⟨v, n, e, size, xs⟩ :: L) := by
  have h1 := h.call hb
  refine ⟨h.bank.made hb ho, h1.at', h.base, fun p hp e => ?_⟩
  rcases List.mem_cons.1 hp with rfl | hp
  · have h2 := (ho.lt R e).1
    have h3 := h.lt
    omega
  · exact h.away p hp e
theorem Side.none (h : Side w0 w R ob L) (e : TypeId) (size : Nat) : Side w0 w R ob (⟨.slice none 0 0, 0, e, size, []⟩ :: L) := by
  refine ⟨h.bank.none e size, h.at', h.base, fun p hp e => ?_⟩
  rcases List.mem_cons.1 hp with rfl | hp
  · cases e
  · exact h.away p hp e
theorem Side.box (h : Side w0 w R ob L) (cs : Array Value) (t : TypeId) (hs : cs.size ≤ 1000000) : Side w0 (w.alloc (.cells cs t)) R ob (boxAcc w.heap.size t cs.toList :: L) := by
  have h1 := h.call ((Below.refl _ _).alloc (Nat.le_refl _) (.cells cs t))
  refine ⟨h.bank.box cs t hs, h1.at', h.base, fun p hp e => ?_⟩
  rcases List.mem_cons.1 hp with rfl | hp
  · have e2 : R = w.heap.size := by simpa [boxAcc, Value.ownBlock] using e.symm
    have h3 := h.lt
    omega
  · exact h.away p hp e
/-- a cell of a box is written -/
theorem Side.boxSet (h : Side w0 w R ob L) (i : Nat) {g : Nat} {t : TypeId} {vs : List Value} (hi : L[i]? = some (boxAcc g t vs)) (j : Nat) (v : Value) : Side w0 (w.setCell ⟨g, j, Option.none⟩ v) R ob (L.set i (boxAcc g t (vs.set j v))) := by
  have ha := h.away _ (List.mem_of_getElem? hi)
  refine h.step (h.bank.boxSet i hi j v) (grownBy_setCell w g j v) ha fun p hp e => ?_
  rcases List.mem_or_eq_of_mem_set hp with hp | rfl
  · exact h.away p hp e
  · exact ha e
/-- an account was put anew -/
theorem Side.put (h : Side w0 w R ob L) (i : Nat) {p p' : Acc} (hi : L[i]? = some p) (hB : Bank w0 w' (L.set i p')) (hg : w.grownBy w' p.v.ownBlock) (hb : p'.v.ownBlock = p.v.ownBlock ∨ p'.v.ownBlock = some w.heap.size) : Side w0 w' R ob (L.set i p') := by
  have ha := h.away _ (List.mem_of_getElem? hi)
  refine h.step hB hg ha fun q hq e => ?_
  rcases List.mem_or_eq_of_mem_set hq with hq | rfl
  · exact h.away q hq e
  · rcases hb with hb | hb
    · exact ha (hb.symm.trans e)
    · rw [hb] at e
      have h3 := h.lt
      have h4 := Option.some.inj e
      omega
/-- another block, none of the bank's and not this one, was written -/
theorem Side.other (h : Side w0 w R ob L) {X : Nat} (hg : w.grownBy w' (some X)) (hX : w0.heap.size ≤ X) (hL : ∀ p ∈ L, p.v.ownBlock ≠ some X) (hR : X ≠ R) : Side w0 w' R ob L :=
  h.step (h.bank.other hg hX hL) hg (fun e => hR (Option.some.inj e)) h.away
/-- the block itself is written -/
theorem Side.over (h : Side w0 w R ob L) (hg : w.grownBy w' (some R)) (ho : w'.heap[R]? = some ob') : Side w0 w' R ob' L :=
  ⟨h.bank.other hg h.base h.away, ho, h.base, h.away⟩
theorem Side.start (h : Bank w0 w L) (hb : Below w.heap.size w w') (hR : w.heap.size ≤ R) (ho : w'.heap[R]? = some ob) : Side w0 w' R ob L :=
  ⟨h.call hb, ho, Nat.le_trans h.since.size hR, fun p hp e => by have := (h.lt hp e).2; omega⟩
end
end Go.Proofs.YtfpjmeknjhhakaaGreat.K
