/- Merged: RowMore, AppendAny, Basic, Lent, RowRead, Bank, Parts, Lit, Box, BunCheck, WireNum, WireJoin. -/
import Derived.Test.YtidcfjmibljkeaaDoorBs1
import Derived.Laws.OwnMore
import Derived.Test.YtidcfjmibljkeaaDoorRows
import Derived.Deep.RegionLaw
import Derived.WalkLawsBesides
/- More plain laws on rows that a world owns. -/
namespace Go.Proofs.YtidcfjmibljkeaaDoor.K
open Go Go.RowKit
theorem row_kept {w w' : World} {base : Nat} {e : TypeId} {v : Value} {n : Nat} {xs : List Value} (h : w.ownsRow base e 1 v n xs) (hb : Below w.heap.size w w') : w'.ownsRow base e 1 v n xs := by
  refine h.kept (row := none) ⟨hb.os, hb.tape, hb.output, hb.size, fun k hk _ => hb.block k hk⟩ ?_
  cases hv : v.ownBlock with
  | none => exact .inl rfl
  | some x => exact .inr (by simp)
theorem row_lt {w : World} {base : Nat} {e : TypeId} {g n c : Nat} {xs : List Value} (h : w.ownsRow base e 1 (.slice (some ⟨g, 0, none⟩) n c) n xs) : base ≤ g ∧ g < w.heap.size := h.lt g rfl
theorem row_weaken {w : World} {base base' : Nat} {e : TypeId} {v : Value} {n : Nat} {xs : List Value} (h : w.ownsRow base e 1 v n xs) (hb : base' ≤ base) : w.ownsRow base' e 1 v n xs :=
  ⟨h.1, h.2.elim .inl fun ⟨a, b, cur, hv, hbb, r⟩ => .inr ⟨a, b, cur, hv, Nat.le_trans hb hbb, r⟩⟩
theorem row_room {w : World} {base : Nat} {e : TypeId} {A : Option Addr} {n c : Nat} {xs : List Value} (h : w.ownsRow base e 1 (.slice A n c) n xs) : n ≤ c ∧ c ≤ 9223372036854775807 ∧ (A = none → n = 0 ∧ c = 0) ∧ ∀ a, A = some a → ∃ g, a = ⟨g, 0, none⟩ ∧ base ≤ g ∧ g < w.heap.size := by
  rcases h.2 with ⟨h1, h2⟩ | ⟨g', cap', cur, h', hb, hg, hnc, hcm, _⟩
  · simp only [Value.slice.injEq] at h1
    obtain ⟨rfl, rfl, rfl⟩ := h1
    exact ⟨by omega, by omega, fun _ => ⟨rfl, rfl⟩, (fun a h => by cases h)⟩
  · simp only [Value.slice.injEq, true_and] at h'
    obtain ⟨rfl, rfl⟩ := h'
    exact ⟨hnc, by unfold maxLen at hcm; omega, (fun h => by cases h), fun a h => by cases h; exact ⟨_, rfl, hb, (Array.getElem?_eq_some_iff.1 hg).1⟩⟩
theorem Rd.pre {w : World} {A : Option Addr} {bs ms : List (BitVec 8)} (h : Rd w A (bs ++ ms)) : Rd w A bs := fun k hk => by
  obtain ⟨b, o, e, hc⟩ := h k (by rw [List.length_append]; omega)
  exact ⟨b, o, e, by rw [hc, List.getElem_append_left hk]⟩
theorem below_of_drew {w w' : World} (h : Below w.drew.heap.size w.drew w') : Below w.heap.size w w' := ⟨h.os, h.tape, h.output, h.size, h.block⟩
theorem cells3 (w : World) (a b c : Value) (t : TypeId) : ∀ j u, [a, b, c][j]? = some u → (w.alloc (.cells #[a, b, c] t)).cell? ⟨w.heap.size, j, none⟩ = some u := by
  intro j u hu
  rw [World.cell?_alloc_new, ← hu]
  simp
/-- three rows -/
def three (x y z : Rw) : Nat → Rw
  | 0 => x
  | 1 => y
  | _ => z
def threeB (x y z : List (BitVec 8)) : Nat → List (BitVec 8)
  | 0 => x
  | 1 => y
  | _ => z
theorem three_le {P : Nat → Prop} (h0 : P 0) (h1 : P 1) (h2 : P 2) : ∀ j, j < 3 → P j := fun j hj => by
  match j, hj with
  | 0, _ => exact h0
  | 1, _ => exact h1
  | 2, _ => exact h2
theorem three_sep {P : Nat → Nat → Prop} (h01 : P 0 1) (h02 : P 0 2) (h10 : P 1 0) (h12 : P 1 2) (h20 : P 2 0) (h21 : P 2 1) : ∀ i j, i < 3 → j < 3 → i ≠ j → P i j := fun i j hi hj hij => by
  match i, j, hi, hj, hij with
  | 0, 0, _, _, h => exact absurd rfl h
  | 1, 1, _, _, h => exact absurd rfl h
  | 2, 2, _, _, h => exact absurd rfl h
  | 0, 1, _, _, _ => exact h01
  | 0, 2, _, _, _ => exact h02
  | 1, 0, _, _, _ => exact h10
  | 1, 2, _, _, _ => exact h12
  | 2, 0, _, _, _ => exact h20
  | 2, 1, _, _, _ => exact h21
end Go.Proofs.YtidcfjmibljkeaaDoor.K

/- An append of what may be nil, onto a row that the call owns. -/
namespace Go.Proofs.YtidcfjmibljkeaaDoor.K
open Go Go.RowKit
/-- append of what may be nil -/
theorem wpList_append_any {P : Program} (w : World) {ops : Array Oper} {rest : List Oper} {o : Oper} {a : Act} {Q : Exit → Act → World → Prop} (hgd : o.guard = Option.none) (s x : Operand) (t : TypeId)
    (ho : o.op = .call { callee := .builtin .append, args := #[s, x], argTypes := #[t, t] })
    (base : Nat) (e : TypeId) (i : TypeInfo) (z : Value) (size bytes : Nat) (ht : P.underlying t = some (.slice e)) (hi : P.info? e = some i) (hz : i.zero = some z)
    (hsize : i.size = size) (hby : i.bytes = bytes) (hzs : z.cells.size = size) (hsz : 0 < size)
    (v : Value) (n : Nat) (xs : List Value) (hs : a.eval s = v) (hown : w.ownsRow base e size v n xs)
    (ao : Option Addr) (m c : Nat) (news : List Value) (hx : a.eval x = .slice ao m c) (hnone : ao = Option.none → m = 0 ∧ c = 0) (hl : news.length = m * size) (hnews : ∀ ad, ao = some ad → ∀ j u, news[j]? = some u → w.cell? (ad.add j) = some u) (h1 : ∀ u ∈ news, u.oneCell' = true)
    (h63 : n + m ≤ maxLen) (hbytes : (n + m) * bytes ≤ 140737488355328) (hbase : base ≤ w.heap.size)
    (h : ∀ v' w', w'.ownsRow base e size v' (n + m) (xs ++ news) → w.grownBy w' v.ownBlock → wpList P ops Q rest (a.put o.dst v') w') :
    wpList P ops Q (o :: rest) a w := by
  cases ao with
  | some ad => exact wpList_append_own w hgd s x t ho base e i z size bytes ht hi hz hsize hby hzs hsz v n xs hs hown ad m c news hx hl (hnews ad rfl) h1 h63 hbytes hbase fun v' w' h2 h3 _ => h v' w' h2 h3
  | none =>
    obtain ⟨rfl, rfl⟩ := hnone rfl
    have hn : news = [] := List.eq_nil_of_length_eq_zero (by simpa using hl)
    subst hn
    refine wpList_plain hgd fun K hK' => ?_
    have hrun := run_append_owned_none (P := P) w base t o.type e i size ht hi _ n xs hown
    unfold Oper.wp
    simp [execOp, ho, resolve, invoke, builtin, hs, hx, hrun, Result.andThen]
    exact hK' _ _ (h v w (by simpa using hown) (World.grownBy.refl _ _))

theorem wp_append_any {P : Program} (w : World) {o : Oper} {a : Act} {K : Act → World → Prop} {Q : Exit → Act → World → Prop} (s x : Operand) (t : TypeId)
    (ho : o.op = .call { callee := .builtin .append, args := #[s, x], argTypes := #[t, t] })
    (base : Nat) (e : TypeId) (i : TypeInfo) (z : Value) (size bytes : Nat) (ht : P.underlying t = some (.slice e)) (hi : P.info? e = some i) (hz : i.zero = some z)
    (hsize : i.size = size) (hby : i.bytes = bytes) (hzs : z.cells.size = size) (hsz : 0 < size)
    (v : Value) (n : Nat) (xs : List Value) (hs : a.eval s = v) (hown : w.ownsRow base e size v n xs)
    (ao : Option Addr) (m c : Nat) (news : List Value) (hx : a.eval x = .slice ao m c) (hnone : ao = Option.none → m = 0 ∧ c = 0) (hl : news.length = m * size) (hnews : ∀ ad, ao = some ad → ∀ j u, news[j]? = some u → w.cell? (ad.add j) = some u) (h1 : ∀ u ∈ news, u.oneCell' = true)
    (h63 : n + m ≤ maxLen) (hbytes : (n + m) * bytes ≤ 140737488355328) (hbase : base ≤ w.heap.size)
    (h : ∀ v' w', w'.ownsRow base e size v' (n + m) (xs ++ news) → w.grownBy w' v.ownBlock → K (a.put o.dst v') w') : o.wp P a w K Q := by
  cases ao with
  | some ad => exact wp_append_own w s x t ho base e i z size bytes ht hi hz hsize hby hzs hsz v n xs hs hown ad m c news hx hl (hnews ad rfl) h1 h63 hbytes hbase fun v' w' h2 h3 _ => h v' w' h2 h3
  | none =>
    obtain ⟨rfl, rfl⟩ := hnone rfl
    have hn : news = [] := List.eq_nil_of_length_eq_zero (by simpa using hl)
    subst hn
    have hrun := run_append_owned_none (P := P) w base t o.type e i size ht hi _ n xs hown
    unfold Oper.wp
    simp [execOp, ho, resolve, invoke, builtin, hs, hx, hrun, Result.andThen]
    exact h v w (by simpa using hown) (World.grownBy.refl _ _)
theorem step_append_any {P : Program} (w : World) {ops : Array Oper} {o : Oper} {a : Act} {K : Act → World → Prop} {Q : Exit → Act → World → Prop} {E : Prop} (hgd : o.guard = Option.none) (s x : Operand) (t : TypeId)
    (ho : o.op = .call { callee := .builtin .append, args := #[s, x], argTypes := #[t, t] })
    (base : Nat) (e : TypeId) (i : TypeInfo) (z : Value) (size bytes : Nat) (ht : P.underlying t = some (.slice e)) (hi : P.info? e = some i) (hz : i.zero = some z)
    (hsize : i.size = size) (hby : i.bytes = bytes) (hzs : z.cells.size = size) (hsz : 0 < size)
    (v : Value) (n : Nat) (xs : List Value) (hs : a.eval s = v) (hown : w.ownsRow base e size v n xs)
    (ao : Option Addr) (m c : Nat) (news : List Value) (hx : a.eval x = .slice ao m c) (hnone : ao = Option.none → m = 0 ∧ c = 0) (hl : news.length = m * size) (hnews : ∀ ad, ao = some ad → ∀ j u, news[j]? = some u → w.cell? (ad.add j) = some u) (h1 : ∀ u ∈ news, u.oneCell' = true)
    (h63 : n + m ≤ maxLen) (hbytes : (n + m) * bytes ≤ 140737488355328) (hbase : base ≤ w.heap.size)
    (h : ∀ v' w', w'.ownsRow base e size v' (n + m) (xs ++ news) → w.grownBy w' v.ownBlock → K (a.put o.dst v') w') :
    if Region.wanted o (yielded ops a.tmps) = true then Oper.wp P o a w K Q else E := by
  have hw : Region.wanted o (yielded ops a.tmps) = true := by simp [Region.wanted, hgd]
  rw [if_pos hw]
  exact wp_append_any w s x t ho base e i z size bytes ht hi hz hsize hby hzs hsz v n xs hs hown ao m c news hx hnone hl hnews h1 h63 hbytes hbase h
theorem own_lit0 {w : World} {base : Nat} {e : TypeId} (hb : base ≤ w.heap.size) : (w.alloc (.cells #[] e)).ownsRow base e 1 (.slice (some ⟨w.heap.size, 0, none⟩) 0 0) 0 (bv []) :=
  World.ownsRow_lit w #[] 0 hb (by unfold maxLen; omega) rfl
theorem row_slice {w : World} {base size n : Nat} {e : TypeId} {v : Value} {xs : List Value} (h : w.ownsRow base e size v n xs) : ∃ A c, v = .slice A n c := by
  rcases h.2 with ⟨h0, rfl⟩ | ⟨g, cap, _, hv, _⟩
  · exact ⟨_, _, h0⟩
  · exact ⟨_, _, hv⟩
theorem cell_old {w : World} {a : Addr} {v : Value} (o : Obj) (h : w.cell? a = some v) : (w.alloc o).cell? a = some v :=
  (((Below.refl w.heap.size w).alloc (Nat.le_refl _) o).cell (block_lt_of_cell h)).trans h
end Go.Proofs.YtidcfjmibljkeaaDoor.K

/- Contracts of the small functions that only reckon. -/
namespace Go.Proofs.YtidcfjmibljkeaaDoor.K
open Go Go.RowKit

/-- barbicankit.mark, as the walk has it. -/
def markI (k i : Int) : Int := wrap64 (wrap64 (1000003 * wrap64 (k + 7)) + i)
def markB (k i : Int) : BitVec 8 := BitVec.ofInt 8 (IntKind.u64.wrap (IntKind.u64.wrap (wrap64 (wrap64 (1000003 * wrap64 (k + 7)) + i)) * 11400714819323198485) / 72057594037927936)
theorem markB_eq (k i : Int) : Value.int .u8 (IntKind.u64.wrap (IntKind.u64.wrap (wrap64 (wrap64 (1000003 * wrap64 (k + 7)) + i)) * 11400714819323198485) / 72057594037927936 % 256) = B8 (markB k i) := by
  simp only [B8, markB, BitVec.toNat_ofInt, Value.int.injEq, true_and]
  omega


/-- barbicankit.Pick: any number brought into 0 to n - 1 (n from 1 on). -/
def pick (x n : Int) : Int := x % n
theorem pick_lo (x n : Int) (h : 1 ≤ n) : 0 ≤ pick x n := Int.emod_nonneg _ (by omega)
theorem pick_hi (x n : Int) (h : 1 ≤ n) : pick x n < n := Int.emod_lt_of_pos _ (by omega)
theorem Pick_any (x n : Int) (w : World) (hn : 1 ≤ n) (hn2 : n ≤ 4611686018427387904) :
    Calls Tryd.prog 12 #[.int .i64 x, .int .i64 n] w fun e w' => e = .returned (.int .i64 (pick x n)) ∧ w = w' := by
  have h1 : -n < x.tmod n := by have := Int.lt_tmod_of_pos x (show (0:Int) < n by omega); omega
  have h2 : x.tmod n < n := Int.tmod_lt_of_pos x (by omega)
  go_enter Tryd.func12, Tryd.ntmps12
  go_wp2
  · go_ret
    rename_i h
    refine ⟨?_, rfl⟩
    have e : x.tmod n + n = pick x n := by
      unfold pick
      have := Int.emod_nonneg x (show n ≠ 0 by omega)
      have h5 := Int.tmod_eq_emod (a := x) (b := n)
      split at h5 <;> omega
    show Ending.returned (Value.int .i64 (x.tmod n + n)) = _
    rw [e]
  · go_ret
    rename_i h
    refine ⟨?_, rfl⟩
    have e : x.tmod n = pick x n := by
      unfold pick
      have h5 := Int.tmod_eq_emod (a := x) (b := n)
      have h6 := Int.emod_lt_of_pos x (show (0 : Int) < n by omega)
      split at h5 <;> omega
    show Ending.returned (Value.int .i64 (x.tmod n)) = _
    rw [e]

theorem rot_count (n : Int) (h0 : 0 < n) (h1 : n < 32) : bits .and .u64 (IntKind.u64.wrap (-n)) 31 = 32 - n := by
  have e : IntKind.u64.wrap (-n) = 18446744073709551616 - n := by rw [wrap_u64']; omega
  rw [e, u64_and _ _ (by omega) (by omega) (by omega) (by omega)]
  show (((18446744073709551616 - n).toNat &&& 31 : Nat) : Int) = _
  rw [nat_mask5]; omega
theorem turn_any (x : BitVec 32) (n : Int) (w : World) (h0 : 0 < n) (h1 : n < 32) :
    Calls Tryd.prog 68 #[W32 x, .int .i64 n] w fun e w' => e = .returned (W32 (M.rot x n.toNat)) ∧ w = w' := by
  have hs := rot_count n h0 h1
  have hc : n ≤ 32 := by omega
  have hc2 : (0 : Int) ≤ n := by omega
  have hc3 : 32 - (32 - n) = n := by omega
  go_enter Tryd.func68, Tryd.ntmps68
  go_wp2
  go_ret
  refine ⟨?_, rfl⟩
  rw [show M.rot x n.toNat = (x <<< (32 - n).toNat) ||| (x >>> n.toNat) by
    rw [M.rot, BitVec.or_comm, show (32 - n).toNat = 32 - n.toNat by omega]]
  rfl

set_option maxHeartbeats 400000 in
theorem SameBytes_any (A B : Option Addr) (n m c d : Nat) (xs ys : List (BitVec 8)) (w : World) (hx : Rd w A xs) (hy : Rd w B ys) (hn : xs.length = n) (hm : ys.length = m) (hn2 : n ≤ 4611686018427387904) (hm2 : m ≤ 4611686018427387904) :
    Calls Tryd.prog 7 #[.slice A n c, .slice B m d] w fun e w' => e = .returned (.bool (decide (xs = ys))) ∧ ∃ k, w' = w.drewN k := by
  subst hn hm
  by_cases hl : xs.length = ys.length
  · have hne : ((xs.length : Int) != (ys.length : Int)) = false := by simp; omega
    have HL := Lib.hid hl; clear hl
    go_enter Tryd.func7, Tryd.ntmps7
    go_wp2
    go_loopw [5] (fun i wr => ∃ k : Nat, k ≤ xs.length ∧ i = .int .i64 k ∧ (∀ j, j < k → xs[j]? = ys[j]?) ∧ ∃ q, wr = w.drewN q) (fun i _ => xs.length - (intOf i).toNat)
    case atStart => exact ⟨0, Nat.zero_le _, rfl, fun j hj => absurd hj (Nat.not_lt_zero _), 0, rfl⟩
    case round =>
      obtain ⟨k, hk, rfl, hpre, q, rfl⟩ := hrel
      by_cases hlt : k < xs.length
      · obtain ⟨b, o, rfl, hcx⟩ := hx k hlt
        obtain ⟨b', o', rfl, hcy⟩ := hy k (by have := HL.out; omega)
        have i1 : (0 : Int) ≤ (k : Int) := by omega
        have i2 : (k : Int) < (xs.length : Int) := by omega
        have i3 : (k : Int) < (ys.length : Int) := by have := HL.out; omega
        have HP := Lib.hid hpre
        clear hx hy hpre
        go_wp2
        go_quiet (fail)
        go_wp2
        · go_ret
          have hne : (xs[k] != ys[k]) = true := by assumption
          refine ⟨?_, _, World.drewN_drewN _ _ _⟩
          rw [decide_eq_false (fun e => by subst e; simp at hne)]; rfl
        · have heq : (xs[k] != ys[k]) = false := by assumption
          go_roundw
          case rel =>
            refine ⟨k + 1, by omega, by go_num, fun j hj => ?_, _, rfl⟩
            by_cases e : j = k
            · subst e
              rw [List.getElem?_eq_getElem hlt, List.getElem?_eq_getElem (by have := HL.out; omega)]
              simpa using heq
            · exact HP.out j (by omega)
          case measure => simp [intOf]; omega
      · have hge : ¬ ((k : Int) < (xs.length : Int)) := by omega
        obtain rfl : k = xs.length := by omega
        have HP := Lib.hid hpre; clear hpre
        go_wp2
        go_ret
        refine ⟨?_, _, rfl⟩
        rw [decide_eq_true]; · rfl
        apply List.ext_getElem? 
        intro j
        by_cases hj : j < xs.length
        · exact HP.out j hj
        · rw [List.getElem?_eq_none (by omega), List.getElem?_eq_none (by have := HL.out; omega)]
  · have hne : ((xs.length : Int) != (ys.length : Int)) = true := by simp; omega
    go_enter Tryd.func7, Tryd.ntmps7
    go_wp2
    go_ret
    exact ⟨by rw [decide_eq_false (fun e => hl (by rw [e]))]; rfl, 0, rfl⟩
end Go.Proofs.YtidcfjmibljkeaaDoor.K

/- Contracts of barbicankit.LentBytes and KeptBytes. -/
namespace Go.Proofs.YtidcfjmibljkeaaDoor.K
open Go Go.RowKit

theorem infoByte : (Tryd.prog.info? 5).map (fun i => (i.zero, i.size, i.bytes)) = some (some (.int .u8 0), 1, 1) := by kernel_rfl
/-- the marks of number k from place i on -/
def marks (k i n : Nat) : List (BitVec 8) := (List.range n).map fun j => markB k (i + j : Nat)
theorem marks_length (k i n : Nat) : (marks k i n).length = n := by simp [marks]
theorem marks_succ (k i n : Nat) : marks k i (n + 1) = marks k i n ++ [markB k (i + n : Nat)] := by simp [marks, List.range_succ]

theorem cell_last (w : World) (v : Value) (t : TypeId) : ∀ j u, [v][j]? = some u → (w.alloc (.cells #[v] t)).cell? ((⟨w.heap.size, 0, none⟩ : Addr).add j) = some u := by
  intro j u hu
  match j, hu with
  | 0, hu => simp at hu; subst hu; simp [Addr.add]


/-- what KeptBytes looks at, place by place -/
theorem kept_at {bs : List (BitVec 8)} {k i n j : Nat} (hj : j < n) : (bs ++ marks k i n)[bs.length + j]? = some (markB k (i + j : Nat)) := by
  rw [List.getElem?_append_right (by omega)]
  simp [marks, hj]

end Go.Proofs.YtidcfjmibljkeaaDoor.K

/- A row that reads a list of bytes. -/
namespace Go.Proofs.YtidcfjmibljkeaaDoor.K
open Go Go.RowKit

/-- a row that reads bs -/
structure RowRd (w : World) (x : Rw) (bs : List (BitVec 8)) : Prop where
  rd : Rd w x.A bs
  len : bs.length = x.n
  none : x.A = Option.none → x.c = 0
theorem RowRd.below {w w' : World} {x : Rw} {bs : List (BitVec 8)} (h : RowRd w x bs) (hb : Below w.heap.size w w') : RowRd w' x bs := ⟨h.rd.below hb, h.len, h.none⟩
theorem RowRd.of_row {w : World} {base : Nat} {e : TypeId} {A : Option Addr} {n c : Nat} {bs : List (BitVec 8)} (h : w.ownsRow base e 1 (.slice A n c) n (bv bs)) : RowRd w ⟨A, n, c⟩ bs :=
  ⟨Rd.of_own h, by have := h.1; rw [bv_length] at this; show _ = n; omega, fun e => ((row_room h).2.2.1 e).2⟩
end Go.Proofs.YtidcfjmibljkeaaDoor.K

/- A bank: slices that the call owns, no two in one block, over a world of the past of which nothing has changed. Appends and calls turn one bank into the next, in whatever order they come. Plain lemmas over any program. -/
namespace Go.Proofs.YtidcfjmibljkeaaDoor.K
open Go Go.RowKit

/-- this world, seen from an elder one -/
abbrev Since (w0 w : World) : Prop := Below w0.heap.size w0 w
theorem Since.add {w0 w w' : World} (h : Since w0 w) (hb : Below w.heap.size w w') : Since w0 w' := h.trans (hb.mono h.size)
theorem Since.alloc {w0 w : World} (h : Since w0 w) (o : Obj) : Since w0 (w.alloc o) := Below.alloc h h.size o
theorem Since.drew {w0 w : World} (h : Since w0 w) : Since w0 w.drew := ⟨h.os, h.tape, h.output, h.size, h.block⟩
theorem Since.drewN {w0 w : World} (h : Since w0 w) (q : Nat) : Since w0 (w.drewN q) := ⟨h.os, h.tape, h.output, h.size, h.block⟩
theorem Since.row {w0 w : World} (h : Since w0 w) {x : Rw} {bs : List (BitVec 8)} (hr : RowRd w0 x bs) : RowRd w x bs := hr.below h
theorem Since.at {w0 w : World} (h : Since w0 w) {g : Nat} {o : Obj} (hg : w0.heap[g]? = some o) : w.heap[g]? = some o := (h.block g (Array.getElem?_eq_some_iff.1 hg).1).trans hg
theorem Since.set {w0 w : World} (h : Since w0 w) {X : Nat} (hX : w0.heap.size ≤ X) (i : Nat) (v : Value) : Since w0 (w.setCell ⟨X, i, none⟩ v) := Below.setCell (p := ⟨X, i, none⟩) h hX v

structure Acc where
  v : Value
  n : Nat
  e : TypeId
  size : Nat
  xs : List Value
/-- no two in one block -/
def Apartness (p q : Acc) : Prop := ∀ b, p.v.ownBlock = some b → q.v.ownBlock ≠ some b
theorem Apartness.symm {p q : Acc} (h : Apartness p q) : Apartness q p := fun b hq hp => h b hp hq
structure Bank (w0 w : World) (L : List Acc) : Prop where
  since : Since w0 w
  own : ∀ p ∈ L, w.ownsRow w0.heap.size p.e p.size p.v p.n p.xs
  sep : L.Pairwise Apartness
theorem Bank.nil {w0 w : World} (h : Since w0 w) : Bank w0 w [] := ⟨h, (fun _ h => by cases h), .nil⟩
theorem Bank.lt {w0 w : World} {L : List Acc} (h : Bank w0 w L) {p : Acc} (hp : p ∈ L) {b : Nat} (hb : p.v.ownBlock = some b) : w0.heap.size ≤ b ∧ b < w.heap.size := (h.own p hp).lt b hb
theorem Bank.call {w0 w w' : World} {L : List Acc} (h : Bank w0 w L) (hb : Below w.heap.size w w') : Bank w0 w' L :=
  ⟨h.since.add hb, fun p hp => (h.own p hp).kept (row := none) ⟨hb.os, hb.tape, hb.output, hb.size, fun k hk _ => hb.block k hk⟩ (by cases h : p.v.ownBlock <;> simp), h.sep⟩
theorem Bank.drew {w0 w : World} {L : List Acc} (h : Bank w0 w L) : Bank w0 w.drew L := ⟨h.since.drew, h.own, h.sep⟩
theorem Bank.drewN {w0 w : World} {L : List Acc} (h : Bank w0 w L) (q : Nat) : Bank w0 (w.drewN q) L := ⟨h.since.drewN q, h.own, h.sep⟩
theorem Bank.alloc {w0 w : World} {L : List Acc} (h : Bank w0 w L) (o : Obj) : Bank w0 (w.alloc o) L := h.call ((Below.refl _ _).alloc (Nat.le_refl _) o)
theorem row_base {w : World} {B B' : Nat} {e : TypeId} {size n : Nat} {v : Value} {xs : List Value} (h : w.ownsRow B e size v n xs) (hb : B' ≤ B) : w.ownsRow B' e size v n xs :=
  ⟨h.1, h.2.elim .inl fun ⟨a, b, cur, hv, hbb, r⟩ => .inr ⟨a, b, cur, hv, Nat.le_trans hb hbb, r⟩⟩
/-- a row that was just made -/
theorem Bank.made {w0 w w' : World} {L : List Acc} (h : Bank w0 w L) (hb : Below w.heap.size w w') {e : TypeId} {size n : Nat} {v : Value} {xs : List Value} (ho : w'.ownsRow w.heap.size e size v n xs) : Bank w0 w' (⟨v, n, e, size, xs⟩ :: L) := by
  have h' := h.call hb
  refine ⟨h'.since, fun p hp => ?_, .cons (fun q hq b hb1 hb2 => ?_) h'.sep⟩
  · rcases List.mem_cons.1 hp with rfl | hp
    · exact row_base ho h.since.size
    · exact h'.own p hp
  · have h1 := (ho.lt b hb1).1
    have h2 := (h.lt hq hb2).2
    omega
theorem Bank.madeB {w0 w w' : World} {L : List Acc} (h : Bank w0 w L) (hb : Below w.heap.size w w') {e : TypeId} {A : Option Addr} {n c : Nat} {bs : List (BitVec 8)} (ho : w'.ownsRow w.heap.size e 1 (.slice A n c) n (bv bs)) : Bank w0 w' (⟨.slice A n c, n, e, 1, bv bs⟩ :: L) := h.made hb ho
/-- a literal row -/
theorem Bank.lit0 {w0 w : World} {L : List Acc} (h : Bank w0 w L) (e : TypeId) : Bank w0 (w.alloc (.cells #[] e)) (⟨.slice (some ⟨w.heap.size, 0, none⟩) 0 0, 0, e, 1, bv []⟩ :: L) :=
  h.made ((Below.refl _ _).alloc (Nat.le_refl _) _) (own_lit0 (Nat.le_refl _))
/-- a literal row of whatever -/
theorem Bank.litV {w0 w : World} {L : List Acc} (h : Bank w0 w L) (cs : Array Value) (e : TypeId) (hs : cs.size ≤ 1000000) : Bank w0 (w.alloc (.cells cs e)) (⟨.slice (some ⟨w.heap.size, 0, Option.none⟩) cs.size cs.size, cs.size, e, 1, cs.toList⟩ :: L) :=
  h.made ((Below.refl _ _).alloc (Nat.le_refl _) _) (World.ownsRow_lit w cs cs.size (Nat.le_refl _) (by unfold maxLen; omega) (by omega))
/-- the nil slice -/
theorem Bank.none {w0 w : World} {L : List Acc} (h : Bank w0 w L) (e : TypeId) (size : Nat) : Bank w0 w (⟨.slice none 0 0, 0, e, size, []⟩ :: L) :=
  h.made (Below.refl _ _) (World.ownsRow_nil _ _ _ _)
theorem Bank.drop {w0 w : World} {L : List Acc} {p : Acc} (h : Bank w0 w (p :: L)) : Bank w0 w L := ⟨h.since, fun q hq => h.own q (List.mem_cons_of_mem _ hq), (List.pairwise_cons.1 h.sep).2⟩
theorem Bank.at {w0 w : World} {L : List Acc} (h : Bank w0 w L) (i : Nat) {p : Acc} (hi : L[i]? = some p) : w.ownsRow w0.heap.size p.e p.size p.v p.n p.xs := h.own p (List.mem_of_getElem? hi)
theorem Bank.row {w0 w : World} {L : List Acc} (h : Bank w0 w L) (i : Nat) {A : Option Addr} {n c : Nat} {e : TypeId} {bs : List (BitVec 8)} (hi : L[i]? = some ⟨.slice A n c, n, e, 1, bv bs⟩) : RowRd w ⟨A, n, c⟩ bs := RowRd.of_row (h.at i hi)
theorem Bank.sepAt {w0 w : World} {L : List Acc} (h : Bank w0 w L) {i j : Nat} {p q : Acc} (hi : L[i]? = some p) (hj : L[j]? = some q) (hij : i ≠ j) : Apartness p q := by
  obtain ⟨hi1, rfl⟩ := List.getElem?_eq_some_iff.1 hi
  obtain ⟨hj1, rfl⟩ := List.getElem?_eq_some_iff.1 hj
  rcases Nat.lt_or_gt_of_ne hij with h1 | h1
  · exact List.pairwise_iff_getElem.1 h.sep i j hi1 hj1 h1
  · exact (List.pairwise_iff_getElem.1 h.sep j i hj1 hi1 h1).symm
/-- one of them was written: its block alone has changed, or it lies in a new one -/
theorem Bank.putG {w0 w w' : World} {L : List Acc} (h : Bank w0 w L) (i : Nat) {p p' : Acc} (hi : L[i]? = some p) (ho : w'.ownsRow w0.heap.size p'.e p'.size p'.v p'.n p'.xs) (hg : w.grownBy w' p.v.ownBlock) (hb : p'.v.ownBlock = p.v.ownBlock ∨ ∃ b, p'.v.ownBlock = some b ∧ w.heap.size ≤ b) : Bank w0 w' (L.set i p') := by
  have hp : p ∈ L := List.mem_of_getElem? hi
  have hlen : i < L.length := (List.getElem?_eq_some_iff.1 hi).1
  have hother : ∀ j q, L[j]? = some q → i ≠ j → p.v.ownBlock = Option.none ∨ ∀ b, p.v.ownBlock = some b → q.v.ownBlock ≠ some b := fun j q hj hij => .inr (h.sepAt hi hj hij)
  have hsep' : ∀ j q, L[j]? = some q → i ≠ j → Apartness p' q := by
    intro j q hj hij b hb1 hb2
    have hlt := (h.lt (List.mem_of_getElem? hj) hb2).2
    rcases hb with e | ⟨b', e, hle⟩
    · exact h.sepAt hi hj hij b (e ▸ hb1) hb2
    · rw [e] at hb1; cases hb1; omega
  refine ⟨(h.since).grown hg h.since.size (fun k hk => (h.lt hp hk).1), fun q hq => ?_, List.pairwise_iff_getElem.2 fun j k hj hk hjk => ?_⟩
  · obtain ⟨j, hj, rfl⟩ := List.mem_iff_getElem.1 hq
    rw [List.length_set] at hj
    by_cases e : i = j
    · subst e; rw [List.getElem_set_self]; exact ho
    · rw [List.getElem_set_ne e]
      refine (h.own L[j] (List.getElem_mem hj)).kept hg ?_
      cases hq2 : (L[j]).v.ownBlock with
      | none => exact .inl rfl
      | some b => exact .inr fun e2 => h.sepAt hi (List.getElem?_eq_getElem hj) e b e2.symm hq2
  · rw [List.length_set] at hj hk
    by_cases e1 : i = j
    · subst e1
      rw [List.getElem_set_self, List.getElem_set_ne (by omega)]
      exact hsep' k _ (List.getElem?_eq_getElem hk) (by omega)
    · rw [List.getElem_set_ne e1]
      by_cases e2 : i = k
      · subst e2
        rw [List.getElem_set_self]
        exact (hsep' j _ (List.getElem?_eq_getElem hj) (by omega)).symm
      · rw [List.getElem_set_ne e2]
        exact List.pairwise_iff_getElem.1 h.sep j k hj hk hjk

theorem Bank.put {w0 w w' : World} {L : List Acc} (h : Bank w0 w L) (i : Nat) {p p' : Acc} (hi : L[i]? = some p) (ho : w'.ownsRow w0.heap.size p'.e p'.size p'.v p'.n p'.xs) (hg : w.grownBy w' p.v.ownBlock) (hb : p'.v.ownBlock = p.v.ownBlock ∨ p'.v.ownBlock = some w.heap.size) : Bank w0 w' (L.set i p') :=
  h.putG i hi ho hg (hb.imp (fun h => h) fun e => ⟨_, e, Nat.le_refl _⟩)

section
variable {P : Program} {w0 w : World} {L : List Acc}
theorem run_append_bank (h : Bank w0 w L) (t ty e : TypeId) (i : TypeInfo) (z : Value) (size bytes : Nat) (ht : P.underlying t = some (.slice e)) (hi : P.info? e = some i) (hz : i.zero = some z)
    (hsize : i.size = size) (hby : i.bytes = bytes) (hzs : z.cells.size = size) (hsz : 0 < size) (k : Nat) (A : Option Addr) (n cap : Nat) (xs : List Value) (hk : L[k]? = some ⟨.slice A n cap, n, e, size, xs⟩)
    (ao : Option Addr) (m c : Nat) (news : List Value) (hnone : ao = Option.none → m = 0 ∧ c = 0) (hl : news.length = m * size) (hnews : ∀ ad, ao = some ad → ∀ j u, news[j]? = some u → w.cell? (ad.add j) = some u) (h1 : ∀ u ∈ news, u.oneCell' = true)
    (h63 : n + m ≤ maxLen) (hbytes : (n + m) * bytes ≤ 140737488355328) :
    ∃ A' c' w', (Builtin.append_ #[t, t] ty #[.slice A n cap, .slice ao m c]).run P w = .ok (.slice A' (n + m) c') w' ∧ Bank w0 w' (L.set k ⟨.slice A' (n + m) c', n + m, e, size, xs ++ news⟩) := by
  have hown := h.at k hk
  cases ao with
  | none =>
    obtain ⟨rfl, rfl⟩ := hnone rfl
    have hn : news = [] := List.eq_nil_of_length_eq_zero (by simpa using hl)
    subst hn
    refine ⟨A, cap, w, run_append_owned_none (P := P) w w0.heap.size t ty e i size ht hi _ n xs hown, ?_⟩
    rw [List.append_nil]
    exact h.put k hk hown (World.grownBy.refl _ _) (.inl rfl)
  | some ad =>
    obtain ⟨v', w', hr, o2, o3, _, o5⟩ := run_append_own_at (P := P) w w0.heap.size t ty e i z size bytes ht hi hz hsize hby hzs hsz _ n xs hown ad m c news hl (hnews ad rfl) h1 h63 hbytes h.since.size
    have hv : ∃ A' c', v' = .slice A' (n + m) c' := by
      rcases o2.2 with ⟨h0, h2⟩ | ⟨g, cp, cur, h2, _⟩
      · have : n + m = 0 := by
          have := o2.1; rw [h2] at this; simp at this; rcases this with h3 | h3 <;> omega
        exact ⟨_, _, by rw [this]; exact h0⟩
      · exact ⟨_, _, h2⟩
    obtain ⟨A', c', rfl⟩ := hv
    exact ⟨A', c', w', hr, h.put k hk o2 o3 o5⟩

theorem wp_append_bank {o : Oper} {a : Act} {K : Act → World → Prop} {Q : Exit → Act → World → Prop} (h : Bank w0 w L) (s y : Operand) (t : TypeId)
    (ho : o.op = .call { callee := .builtin .append, args := #[s, y], argTypes := #[t, t] })
    (e : TypeId) (i : TypeInfo) (z : Value) (size bytes : Nat) (ht : P.underlying t = some (.slice e)) (hi : P.info? e = some i) (hz : i.zero = some z)
    (hsize : i.size = size) (hby : i.bytes = bytes) (hzs : z.cells.size = size) (hsz : 0 < size) (k : Nat) (A : Option Addr) (n cap : Nat) (xs : List Value) (hs : a.eval s = .slice A n cap) (hk : L[k]? = some ⟨.slice A n cap, n, e, size, xs⟩)
    (ao : Option Addr) (m c : Nat) (news : List Value) (hx : a.eval y = .slice ao m c) (hnone : ao = Option.none → m = 0 ∧ c = 0) (hl : news.length = m * size) (hnews : ∀ ad, ao = some ad → ∀ j u, news[j]? = some u → w.cell? (ad.add j) = some u) (h1 : ∀ u ∈ news, u.oneCell' = true)
    (h63 : n + m ≤ maxLen) (hbytes : (n + m) * bytes ≤ 140737488355328)
    (hK : ∀ A' c' w', Bank w0 w' (L.set k ⟨.slice A' (n + m) c', n + m, e, size, xs ++ news⟩) → K (a.put o.dst (.slice A' (n + m) c')) w') : o.wp P a w K Q := by
  obtain ⟨A', c', w', hr, h2⟩ := run_append_bank (P := P) h t o.type e i z size bytes ht hi hz hsize hby hzs hsz k A n cap xs hk ao m c news hnone hl hnews h1 h63 hbytes
  unfold Oper.wp execOp
  simp only [ho, resolve, invoke, builtin, Sem.run_bind, Sem.run_pure, Result.andThen_ok, List.map_toArray, List.map_cons, List.map_nil, hs, hx, hr]
  exact hK A' c' w' h2
/-- the same, with what the append changed -/
theorem run_append_bankG (h : Bank w0 w L) (t ty e : TypeId) (i : TypeInfo) (z : Value) (size bytes : Nat) (ht : P.underlying t = some (.slice e)) (hi : P.info? e = some i) (hz : i.zero = some z)
    (hsize : i.size = size) (hby : i.bytes = bytes) (hzs : z.cells.size = size) (hsz : 0 < size) (k : Nat) (A : Option Addr) (n cap : Nat) (xs : List Value) (hk : L[k]? = some ⟨.slice A n cap, n, e, size, xs⟩)
    (ad : Addr) (m c : Nat) (news : List Value) (hl : news.length = m * size) (hnews : ∀ j u, news[j]? = some u → w.cell? (ad.add j) = some u) (h1 : ∀ u ∈ news, u.oneCell' = true)
    (h63 : n + m ≤ maxLen) (hbytes : (n + m) * bytes ≤ 140737488355328) :
    ∃ A' c' w', (Builtin.append_ #[t, t] ty #[.slice A n cap, .slice (some ad) m c]).run P w = .ok (.slice A' (n + m) c') w' ∧ Bank w0 w' (L.set k ⟨.slice A' (n + m) c', n + m, e, size, xs ++ news⟩) ∧
      w.grownBy w' (Value.slice A n cap).ownBlock ∧ ((Value.slice A' (n + m) c').ownBlock = (Value.slice A n cap).ownBlock ∨ (Value.slice A' (n + m) c').ownBlock = some w.heap.size) := by
  have hown := h.at k hk
  obtain ⟨v', w', hr, o2, o3, _, o5⟩ := run_append_own_at (P := P) w w0.heap.size t ty e i z size bytes ht hi hz hsize hby hzs hsz _ n xs hown ad m c news hl hnews h1 h63 hbytes h.since.size
  have hv : ∃ A' c', v' = .slice A' (n + m) c' := by
    rcases o2.2 with ⟨h0, h2⟩ | ⟨g, cp, cur, h2, _⟩
    · have : n + m = 0 := by
        have := o2.1; rw [h2] at this; simp at this; rcases this with h3 | h3 <;> omega
      exact ⟨_, _, by rw [this]; exact h0⟩
    · exact ⟨_, _, h2⟩
  obtain ⟨A', c', rfl⟩ := hv
  exact ⟨A', c', w', hr, h.put k hk o2 o3 o5, o3, o5⟩
theorem wpList_append_bankG {ops : Array Oper} {rest : List Oper} {o : Oper} {a : Act} {Q : Exit → Act → World → Prop} (h : Bank w0 w L) (hgd : o.guard = Option.none) (s y : Operand) (t : TypeId)
    (ho : o.op = .call { callee := .builtin .append, args := #[s, y], argTypes := #[t, t] })
    (e : TypeId) (z : Value) (size bytes : Nat) (hz : (P.info? e).map (fun i => (i.zero, i.size, i.bytes)) = some (some z, size, bytes)) (ht : P.underlying t = some (.slice e)) (hzs : z.cells.size = size) (hsz : 0 < size)
    (k : Nat) (A : Option Addr) (n cap : Nat) (xs : List Value) (hs : a.eval s = .slice A n cap) (hk : L[k]? = some ⟨.slice A n cap, n, e, size, xs⟩)
    (ad : Addr) (m c : Nat) (news : List Value) (hx : a.eval y = .slice (some ad) m c) (hl : news.length = m * size) (hnews : ∀ j u, news[j]? = some u → w.cell? (ad.add j) = some u) (h1 : ∀ u ∈ news, u.oneCell' = true)
    (h63 : n + m ≤ maxLen) (hbytes : (n + m) * bytes ≤ 140737488355328)
    (hK : ∀ A' n' c' w', n' = n + m → Bank w0 w' (L.set k ⟨.slice A' n' c', n', e, size, xs ++ news⟩) → w.grownBy w' (Value.slice A n cap).ownBlock → ((Value.slice A' n' c').ownBlock = (Value.slice A n cap).ownBlock ∨ (Value.slice A' n' c').ownBlock = some w.heap.size) → wpList P ops Q rest (a.put o.dst (.slice A' n' c')) w') : wpList P ops Q (o :: rest) a w := by
  obtain ⟨i0, hi, hz0, hz1, hz2⟩ := info_parts hz
  refine wpList_plain hgd fun K hK' => ?_
  obtain ⟨A', c', w', hr, h2, h3, h4⟩ := run_append_bankG (P := P) h t o.type e i0 z size bytes ht hi hz0 hz1 hz2 hzs hsz k A n cap xs hk ad m c news hl hnews h1 h63 hbytes
  unfold Oper.wp execOp
  simp only [ho, resolve, invoke, builtin, Sem.run_bind, Sem.run_pure, Result.andThen_ok, List.map_toArray, List.map_cons, List.map_nil, hs, hx, hr]
  exact hK' _ _ (hK A' _ c' w' rfl h2 h3 h4)
theorem RowRd.src {x : Rw} {bs : List (BitVec 8)} (h : RowRd w x bs) : (x.A = Option.none → x.n = 0 ∧ x.c = 0) ∧ (bv bs).length = x.n * 1 ∧ ∀ ad, x.A = some ad → ∀ j u, (bv bs)[j]? = some u → w.cell? (ad.add j) = some u :=
  ⟨fun e => ⟨by
    have hrd := h.rd
    rw [e] at hrd
    have := h.len
    rw [hrd.empty] at this; exact this.symm, h.none e⟩, by rw [bv_length, h.len, Nat.mul_one], h.rd.cells⟩
/-- bytes put behind bytes, on the walk -/
theorem wpList_append_bytes {ops : Array Oper} {rest : List Oper} {o : Oper} {a : Act} {Q : Exit → Act → World → Prop} (h : Bank w0 w L) (hgd : o.guard = Option.none) (s y : Operand) (t : TypeId)
    (ho : o.op = .call { callee := .builtin .append, args := #[s, y], argTypes := #[t, t] })
    (e : TypeId) (hz : (P.info? e).map (fun i => (i.zero, i.size, i.bytes)) = some (some (.int .u8 0), 1, 1)) (ht : P.underlying t = some (.slice e)) (k : Nat) (A : Option Addr) (n cap : Nat) (bs : List (BitVec 8)) (hs : a.eval s = .slice A n cap) (hk : L[k]? = some ⟨.slice A n cap, n, e, 1, bv bs⟩)
    (ao : Option Addr) (m c : Nat) (news : List (BitVec 8)) (hx : a.eval y = .slice ao m c) (hr : RowRd w ⟨ao, m, c⟩ news) (hb : n + m ≤ 140737488355328)
    (hK : ∀ A' n' c' w', n' = n + m → Bank w0 w' (L.set k ⟨.slice A' n' c', n', e, 1, bv (bs ++ news)⟩) → wpList P ops Q rest (a.put o.dst (.slice A' n' c')) w') : wpList P ops Q (o :: rest) a w := by
  obtain ⟨i0, hi, hz0, hz1, hz2⟩ := info_parts hz
  obtain ⟨r1, r2, r3⟩ := hr.src
  refine wpList_plain hgd fun K hK' => ?_
  refine wp_append_bank h s y t ho e i0 _ 1 1 ht hi hz0 hz1 hz2 rfl (by decide) k A n cap (bv bs) hs hk ao m c (bv news) hx r1 r2 r3 (bv_one _) (by unfold maxLen; omega) (by omega) fun A' c' w' h2 => hK' _ _ ?_
  rw [← bv_append] at h2
  exact hK A' _ c' w' rfl h2
/-- the same, the append being guarded -/
theorem wpList_append_bytesW {ops : Array Oper} {rest : List Oper} {o : Oper} {a : Act} {Q : Exit → Act → World → Prop} (h : Bank w0 w L) (hgd : Region.wanted o (yielded ops a.tmps) = true) (s y : Operand) (t : TypeId)
    (ho : o.op = .call { callee := .builtin .append, args := #[s, y], argTypes := #[t, t] })
    (e : TypeId) (hz : (P.info? e).map (fun i => (i.zero, i.size, i.bytes)) = some (some (.int .u8 0), 1, 1)) (ht : P.underlying t = some (.slice e)) (k : Nat) (A : Option Addr) (n cap : Nat) (bs : List (BitVec 8)) (hs : a.eval s = .slice A n cap) (hk : L[k]? = some ⟨.slice A n cap, n, e, 1, bv bs⟩)
    (ao : Option Addr) (m c : Nat) (news : List (BitVec 8)) (hx : a.eval y = .slice ao m c) (hr : RowRd w ⟨ao, m, c⟩ news) (hb : n + m ≤ 140737488355328)
    (hK : ∀ A' n' c' w', n' = n + m → Bank w0 w' (L.set k ⟨.slice A' n' c', n', e, 1, bv (bs ++ news)⟩) → wpList P ops Q rest (a.put o.dst (.slice A' n' c')) w') : wpList P ops Q (o :: rest) a w := by
  obtain ⟨i0, hi, hz0, hz1, hz2⟩ := info_parts hz
  obtain ⟨r1, r2, r3⟩ := hr.src
  refine wpList_step fun K hK' => ?_
  rw [if_pos hgd]
  refine wp_append_bank h s y t ho e i0 _ 1 1 ht hi hz0 hz1 hz2 rfl (by decide) k A n cap (bv bs) hs hk ao m c (bv news) hx r1 r2 r3 (bv_one _) (by unfold maxLen; omega) (by omega) fun A' c' w' h2 => hK' _ _ ?_
  rw [← bv_append] at h2
  exact hK A' _ c' w' rfl h2
/-- bytes put behind bytes, in a region that draws its order -/
theorem step_append_bytes {ops : Array Oper} {o : Oper} {a : Act} {K : Act → World → Prop} {Q : Exit → Act → World → Prop} {E : Prop} (h : Bank w0 w L) (hgd : o.guard = Option.none) (s y : Operand) (t : TypeId)
    (ho : o.op = .call { callee := .builtin .append, args := #[s, y], argTypes := #[t, t] })
    (e : TypeId) (hz : (P.info? e).map (fun i => (i.zero, i.size, i.bytes)) = some (some (.int .u8 0), 1, 1)) (ht : P.underlying t = some (.slice e)) (k : Nat) (A : Option Addr) (n cap : Nat) (bs : List (BitVec 8)) (hs : a.eval s = .slice A n cap) (hk : L[k]? = some ⟨.slice A n cap, n, e, 1, bv bs⟩)
    (ao : Option Addr) (m c : Nat) (news : List (BitVec 8)) (hx : a.eval y = .slice ao m c) (hr : RowRd w ⟨ao, m, c⟩ news) (hb : n + m ≤ 140737488355328)
    (hK : ∀ A' n' c' w', n' = n + m → Bank w0 w' (L.set k ⟨.slice A' n' c', n', e, 1, bv (bs ++ news)⟩) → K (a.put o.dst (.slice A' n' c')) w') :
    if Region.wanted o (yielded ops a.tmps) = true then Oper.wp P o a w K Q else E := by
  have hw : Region.wanted o (yielded ops a.tmps) = true := by simp [Region.wanted, hgd]
  rw [if_pos hw]
  obtain ⟨i0, hi, hz0, hz1, hz2⟩ := info_parts hz
  obtain ⟨r1, r2, r3⟩ := hr.src
  refine wp_append_bank h s y t ho e i0 _ 1 1 ht hi hz0 hz1 hz2 rfl (by decide) k A n cap (bv bs) hs hk ao m c (bv news) hx r1 r2 r3 (bv_one _) (by unfold maxLen; omega) (by omega) fun A' c' w' h2 => ?_
  rw [← bv_append] at h2
  exact hK A' _ c' w' rfl h2
/-- the same in a region that draws its order, and what was put behind of reads as it did -/
theorem step_append_bytesK {ops : Array Oper} {o : Oper} {a : Act} {K : Act → World → Prop} {Q : Exit → Act → World → Prop} {E : Prop} (h : Bank w0 w L) (hgd : Region.wanted o (yielded ops a.tmps) = true) (s y : Operand) (t : TypeId)
    (ho : o.op = .call { callee := .builtin .append, args := #[s, y], argTypes := #[t, t] })
    (e : TypeId) (hz : (P.info? e).map (fun i => (i.zero, i.size, i.bytes)) = some (some (.int .u8 0), 1, 1)) (ht : P.underlying t = some (.slice e)) (k : Nat) (g n cap : Nat) (bs : List (BitVec 8)) (hs : a.eval s = .slice (some ⟨g, 0, Option.none⟩) n cap) (hk : L[k]? = some ⟨.slice (some ⟨g, 0, Option.none⟩) n cap, n, e, 1, bv bs⟩)
    (ao : Option Addr) (m c : Nat) (news : List (BitVec 8)) (hx : a.eval y = .slice ao m c) (hr : RowRd w ⟨ao, m, c⟩ news) (hm : 0 < m) (hb : n + m ≤ 140737488355328)
    (hK : ∀ A' n' c' w', n' = n + m → Bank w0 w' (L.set k ⟨.slice A' n' c', n', e, 1, bv (bs ++ news)⟩) → RowRd w' ⟨some ⟨g, 0, Option.none⟩, n, cap⟩ bs → K (a.put o.dst (.slice A' n' c')) w') :
    if Region.wanted o (yielded ops a.tmps) = true then Oper.wp P o a w K Q else E := by
  rw [if_pos hgd]
  obtain ⟨i0, hi, hz0, hz1, hz2⟩ := info_parts hz
  obtain ⟨r1, r2, r3⟩ := hr.src
  have hown := h.at k hk
  obtain ⟨ad, rfl⟩ : ∃ ad, ao = some ad := by
    cases ao with
    | none => have := (r1 rfl).1; have h' : m = 0 := this; omega
    | some ad => exact ⟨ad, rfl⟩
  obtain ⟨g', cap', w', hrun, o2, o3, o4, _, o6⟩ := run_append_keep (P := P) w t o.type w0.heap.size e i0 _ 1 1 ht hi hz0 hz1 hz2 rfl (by decide) g n cap (bv bs) hown ad m c (bv news) r2 (r3 ad rfl) (bv_one _) hm (by unfold maxLen; omega) (by omega) h.since.size _ rfl
  have hB := h.putG k hk (p' := ⟨.slice (some ⟨g', 0, Option.none⟩) (n + m) cap', n + m, e, 1, bv (bs ++ news)⟩) (by rw [bv_append]; exact o2) o3 (by
    rcases o4 with ⟨e1, _⟩ | ⟨e1, _⟩
    · exact .inl (by rw [e1]; rfl)
    · exact .inr ⟨g', rfl, e1⟩)
  have hR : RowRd w' ⟨some ⟨g, 0, Option.none⟩, n, cap⟩ bs := ⟨fun j hj => by
    have hrd := RowRd.of_row hown
    obtain ⟨b, o, e, hc⟩ := hrd.rd j hj
    have hjn : j < n := by have h' : bs.length = n := hrd.len; omega
    cases e
    exact ⟨g, 0, rfl, by rw [Nat.zero_add]; rw [Nat.zero_add] at hc; rw [o6 j (by omega), hc]⟩, (RowRd.of_row hown).len, fun h => by cases h⟩
  unfold Oper.wp execOp
  simp only [ho, resolve, invoke, builtin, Sem.run_bind, Sem.run_pure, Result.andThen_ok, List.map_toArray, List.map_cons, List.map_nil, hs, hx, hrun]
  exact hK _ _ _ w' rfl hB hR
/-- the bank of the world at hand, ahead of a call or an append -/
theorem calls_bank {f : FuncId} {args : Array Value} {Q : Ending → World → Prop} (h : Bank w0 w L) (hq : Bank w0 w L → Calls P f args w Q) : Calls P f args w Q := hq h
theorem step_bank {ops : Array Oper} {o : Oper} {a : Act} {K : Act → World → Prop} {Q : Exit → Act → World → Prop} {E : Prop} (h : Bank w0 w L) (hq : Bank w0 w L → if Region.wanted o (yielded ops a.tmps) = true then Oper.wp P o a w K Q else E) : if Region.wanted o (yielded ops a.tmps) = true then Oper.wp P o a w K Q else E := hq h
end
/-- something else was written, or made -/
theorem Bank.other {w0 w w' : World} {L : List Acc} (h : Bank w0 w L) {X : Nat} (hg : w.grownBy w' (some X)) (hX : w0.heap.size ≤ X) (hL : ∀ p ∈ L, p.v.ownBlock ≠ some X) : Bank w0 w' L := by
  refine ⟨h.since.grown hg h.since.size (by rintro k ⟨⟩; exact hX), fun p hp => (h.own p hp).kept hg ?_, h.sep⟩
  cases hq : p.v.ownBlock with
  | none => exact .inl rfl
  | some b => exact .inr fun e => hL p hp (hq.trans e)
theorem Bank.add {w0 w : World} {L : List Acc} (h : Bank w0 w L) {B : Nat} {e : TypeId} {size n : Nat} {v : Value} {xs : List Value} (ho : w.ownsRow B e size v n xs) (hB : w0.heap.size ≤ B) (hL : ∀ p ∈ L, ∀ b, p.v.ownBlock = some b → b < B) : Bank w0 w (⟨v, n, e, size, xs⟩ :: L) := by
  refine ⟨h.since, fun p hp => ?_, .cons (fun q hq b hb1 hb2 => ?_) h.sep⟩
  · rcases List.mem_cons.1 hp with rfl | hp
    · exact row_base ho hB
    · exact h.own p hp
  · have h1 := (ho.lt b hb1).1
    have h2 := hL q hq b hb2
    omega
theorem Bank.swap {w0 w : World} {L : List Acc} {p q : Acc} (h : Bank w0 w (p :: q :: L)) : Bank w0 w (q :: p :: L) := by
  obtain ⟨h1, h2⟩ := List.pairwise_cons.1 h.sep
  obtain ⟨h3, h4⟩ := List.pairwise_cons.1 h2
  refine ⟨h.since, fun x hx => h.own x ?_, .cons (fun x hx => ?_) (.cons (fun x hx => h1 x (List.mem_cons_of_mem _ hx)) h4)⟩
  · simp only [List.mem_cons] at hx ⊢
    rcases hx with rfl | rfl | hx
    · exact .inr (.inl rfl)
    · exact .inl rfl
    · exact .inr (.inr hx)
  · rcases List.mem_cons.1 hx with rfl | hx
    · exact (h1 _ (List.mem_cons_self ..)).symm
    · exact h3 x hx
/-- bytes made in memory of their own -/
def Made (w : World) (bs : List (BitVec 8)) (e : Ending) (w' : World) : Prop := ∃ g N c, e = .returned (.slice (some ⟨g, 0, none⟩) N c) ∧ N = bs.length ∧ w'.ownsRow w.heap.size 5 1 (.slice (some ⟨g, 0, none⟩) N c) N (bv bs) ∧ Below w.heap.size w w'
/-- likewise, or nil -/
def MadeO (w : World) (bs : List (BitVec 8)) (e : Ending) (w' : World) : Prop := ∃ A N c, e = .returned (.slice A N c) ∧ N = bs.length ∧ w'.ownsRow w.heap.size 5 1 (.slice A N c) N (bv bs) ∧ Below w.heap.size w w'
end Go.Proofs.YtidcfjmibljkeaaDoor.K

/- Slices of bytes that lie in a row, as they are handed to a variadic call. -/
namespace Go.Proofs.YtidcfjmibljkeaaDoor.K
open Go Go.RowKit

/-- m slices of bytes lie at S and read f -/
def Parts (w : World) (S : Option Addr) (m : Nat) (r : Nat → Rw) (f : Nat → List (BitVec 8)) : Prop :=
  ∀ j, j < m → (∃ b o, S = some ⟨b, o, none⟩ ∧ w.cell? ⟨b, o + j, none⟩ = some (.slice (r j).A (r j).n (r j).c)) ∧ Rd w (r j).A (f j) ∧ (f j).length = (r j).n ∧ ((r j).A = none → (r j).c = 0)
theorem Parts.below {w w' : World} {S : Option Addr} {m : Nat} {r : Nat → Rw} {f : Nat → List (BitVec 8)} (h : Parts w S m r f) (hb : Below w.heap.size w w') : Parts w' S m r f := fun j hj => by
  obtain ⟨⟨b, o, h1, h2⟩, h3, h4, h5⟩ := h j hj
  exact ⟨⟨b, o, h1, (hb.cell (block_lt_of_cell h2)).trans h2⟩, h3.below hb, h4, h5⟩
/-- what k of them are, one behind the other -/
def joined (f : Nat → List (BitVec 8)) : Nat → List (BitVec 8)
  | 0 => []
  | k + 1 => joined f k ++ f k
theorem joined_le (f : Nat → List (BitVec 8)) {k m : Nat} (h : k ≤ m) : (joined f k).length ≤ (joined f m).length := by
  induction m with
  | zero => obtain rfl : k = 0 := by omega
            exact Nat.le_refl _
  | succ m ih =>
    by_cases e : k = m + 1
    · subst e; exact Nat.le_refl _
    · have := ih (by omega)
      rw [joined, List.length_append]; omega

def rowsOf (l : List (Rw × List (BitVec 8))) (j : Nat) : Rw := (l.getD j (⟨none, 0, 0⟩, [])).1
def bytesAt (l : List (Rw × List (BitVec 8))) (j : Nat) : List (BitVec 8) := (l.getD j (⟨none, 0, 0⟩, [])).2
theorem parts_of {w w1 : World} {t : TypeId} (l : List (Rw × List (BitVec 8))) (hw : w1 = w.alloc (.cells (l.map fun p => p.1.v).toArray t)) (h : ∀ p ∈ l, RowRd w p.1 p.2) :
    Parts w1 (some ⟨w.heap.size, 0, none⟩) l.length (rowsOf l) (bytesAt l) := by
  subst hw
  intro j hj
  have hm : l.getD j (⟨none, 0, 0⟩, []) = l[j] := by simp [hj]
  have h1 := (h l[j] (List.getElem_mem _)).below ((Below.refl w.heap.size w).alloc (Nat.le_refl _) (.cells (l.map fun p => p.1.v).toArray t))
  refine ⟨⟨w.heap.size, 0, rfl, ?_⟩, ?_, ?_, ?_⟩
  · rw [World.cell?_alloc_new, rowsOf, hm]
    simp [hj, Rw.v]
  · rw [rowsOf, bytesAt, hm]; exact h1.rd
  · rw [rowsOf, bytesAt, hm]; exact h1.len
  · rw [rowsOf, hm]; exact h1.none
theorem joined_flat (l : List (Rw × List (BitVec 8))) (k : Nat) (hk : k ≤ l.length) : joined (bytesAt l) k = ((l.take k).map (·.2)).flatten := by
  induction k with
  | zero => rfl
  | succ k ih =>
    rw [joined, ih (by omega), List.take_succ_eq_append_getElem (by omega), List.map_append, List.flatten_append]
    simp [bytesAt, show k < l.length by omega]
theorem joined_all (l : List (Rw × List (BitVec 8))) : joined (bytesAt l) l.length = (l.map (·.2)).flatten := by
  rw [joined_flat l _ (Nat.le_refl _), List.take_length]

end Go.Proofs.YtidcfjmibljkeaaDoor.K

/- Literal slices, lent ones, and the kit's questions about them. -/
namespace Go.Proofs.YtidcfjmibljkeaaDoor.K
open Go Go.RowKit

theorem row_lit (w : World) (cs : Array Value) (t : TypeId) (bs : List (BitVec 8)) (n c : Nat) (h : cs.toList = bv bs) (hn : bs.length = n) : RowRd (w.alloc (.cells cs t)) ⟨some ⟨w.heap.size, 0, none⟩, n, c⟩ bs :=
  ⟨Rd.of_block (heap_alloc_new w _) (by rw [h, ← bv_length, List.take_length]), hn, fun h => by cases h⟩
/-- two rows that read the same -/
theorem SameBytes_eq (A B : Option Addr) (n m c d : Nat) (bs : List (BitVec 8)) (w : World) (hx : RowRd w ⟨A, n, c⟩ bs) (hy : RowRd w ⟨B, m, d⟩ bs) (hn2 : n ≤ 4611686018427387904) :
    Calls Tryd.prog 7 #[.slice A n c, .slice B m d] w fun e w' => e = .returned (.bool true) ∧ Below w.heap.size w w' := by
  have hnm : m ≤ 4611686018427387904 := by have := hx.len; have := hy.len; simp at *; omega
  refine (SameBytes_any A B n m c d bs bs w hx.rd hy.rd hx.len hy.len hn2 hnm).mono ?_
  rintro e w1 ⟨rfl, q, rfl⟩
  exact ⟨by rw [decide_eq_true rfl], below_drewN (Below.refl _ _) q⟩
theorem grown_none_of_below {w w1 : World} (h : Below w.heap.size w w1) : w.grownBy w1 none := ⟨h.os, h.tape, h.output, h.size, fun k hk _ => h.block k hk⟩
abbrev RB := Rw × List (BitVec 8)
def flat (l : List RB) : List (BitVec 8) := (l.map (·.2)).flatten
def accOf (p : RB) : Acc := ⟨p.1.v, p.1.n, 5, 1, bv p.2⟩
/-- lent bytes -/
def Lent1 (w0 : World) (n : Nat) (bs : List (BitVec 8)) (e : Ending) (w' : World) : Prop := ∃ g, e = .returned (.slice (some ⟨g, 0, none⟩) n (n + 12)) ∧ w0.heap.size ≤ g ∧ w'.heap[g]? = some (.cells (bv (bs ++ marks 1 0 12)).toArray 5 (0, 0)) ∧ Since w0 w'
theorem same_made {w0 : World} {A B : Option Addr} {n m c d : Nat} {bs : List (BitVec 8)} (hx : RowRd w0 ⟨A, n, c⟩ bs) (hy : RowRd w0 ⟨B, m, d⟩ bs) (hn2 : n ≤ 4611686018427387904) {w : World} (h : Since w0 w) :
    Calls Tryd.prog 7 #[.slice A n c, .slice B m d] w fun e w' => e = .returned (.bool true) ∧ Below w.heap.size w w' :=
  SameBytes_eq A B n m c d bs w (h.row hx) (h.row hy) hn2
/-- lent bytes read as the bytes -/
theorem lent_row {w : World} {g n : Nat} {bs : List (BitVec 8)} (hg : w.heap[g]? = some (.cells (bv (bs ++ marks 1 0 12)).toArray 5 (0, 0))) (hn : bs.length = n) : RowRd w ⟨some ⟨g, 0, none⟩, n, n + 12⟩ bs :=
  ⟨Rd.of_block hg (by rw [List.toList_toArray, bv_append, List.take_left' (bv_length bs)]), hn, fun h => by cases h⟩
end Go.Proofs.YtidcfjmibljkeaaDoor.K

/- Boxes as accounts of a bank: blocks of cells that the call made, written cell by cell or whole. -/
namespace Go.Proofs.YtidcfjmibljkeaaDoor.K
open Go Go.RowKit

def rowAcc (A : Option Addr) (N c : Nat) (bs : List (BitVec 8)) : Acc := ⟨.slice A N c, N, 5, 1, bv bs⟩
/-- a block of cells as a row -/
def boxAcc (g : Nat) (t : TypeId) (vs : List Value) : Acc := ⟨.slice (some ⟨g, 0, none⟩) vs.length vs.length, vs.length, t, 1, vs⟩
theorem Bank.box {w0 w : World} {L : List Acc} (h : Bank w0 w L) (cs : Array Value) (t : TypeId) (hs : cs.size ≤ 1000000) : Bank w0 (w.alloc (.cells cs t)) (boxAcc w.heap.size t cs.toList :: L) := by
  have := h.litV cs t hs
  exact this
/-- a box's block -/
theorem Bank.boxAt {w0 w : World} {L : List Acc} (h : Bank w0 w L) (i : Nat) {g : Nat} {t : TypeId} {vs : List Value} (hi : L[i]? = some (boxAcc g t vs)) : w0.heap.size ≤ g ∧ w.heap[g]? = some (.cells vs.toArray t (0, 0)) := own_full (h.at i hi)
/-- a cell of a box is written -/
theorem Bank.boxSet {w0 w : World} {L : List Acc} (h : Bank w0 w L) (i : Nat) {g : Nat} {t : TypeId} {vs : List Value} (hi : L[i]? = some (boxAcc g t vs)) (j : Nat) (v : Value) : Bank w0 (w.setCell ⟨g, j, Option.none⟩ v) (L.set i (boxAcc g t (vs.set j v))) := by
  obtain ⟨ho, hg⟩ := (h.at i hi).stored j v
  refine h.put i hi ?_ hg (.inl ?_)
  · show (w.setCell ⟨g, j, Option.none⟩ v).ownsRow _ _ _ (.slice _ (vs.set j v).length (vs.set j v).length) (vs.set j v).length _
    rw [List.length_set]
    exact ho
  · show Value.ownBlock (.slice _ (vs.set j v).length (vs.set j v).length) = _
    rw [List.length_set]
    rfl
theorem Bank.ne {w0 w : World} {L : List Acc} (h : Bank w0 w L) {i j : Nat} {g g' : Nat} {t t' : TypeId} {vs vs' : List Value} (hi : L[i]? = some (boxAcc g t vs)) (hj : L[j]? = some (boxAcc g' t' vs')) (hij : i ≠ j) : g ≠ g' := by
  intro e
  subst e
  exact h.sepAt hi hj hij g rfl rfl
theorem Bank.cell {w0 w : World} {L : List Acc} (h : Bank w0 w L) (i : Nat) {g : Nat} {t : TypeId} {vs : List Value} (hi : L[i]? = some (boxAcc g t vs)) (j : Nat) {v : Value} (hv : vs[j]? = some v) : w.cell? ⟨g, j, Option.none⟩ = some v := block_cell (h.boxAt i hi).2 hv
theorem Bank.free {w0 w : World} {L : List Acc} (h : Bank w0 w L) (i : Nat) {g : Nat} {t : TypeId} {vs : List Value} (hi : L[i]? = some (boxAcc g t vs)) (j : Nat) : w.frozen? ⟨g, j, Option.none⟩ = false := frozen_of_row w g j _ _ (h.boxAt i hi).2
theorem own_someB {w : World} {base : Nat} {e : TypeId} {A : Option Addr} {n c : Nat} {xs : List Value} (h : w.ownsRow base e 1 (.slice A n c) n xs) (hp : 0 < n) : ∃ g, A = some ⟨g, 0, none⟩ := by
  rcases h.2 with ⟨h0, h1⟩ | ⟨g, cap, cur, hv, _⟩
  · cases h0; omega
  · simp only [Value.slice.injEq, true_and] at hv
    exact ⟨g, hv.1⟩
/-- a box is written whole -/
theorem Bank.boxRow {w0 w : World} {L : List Acc} (h : Bank w0 w L) (i : Nat) {g : Nat} {t : TypeId} {vs : List Value} (hi : L[i]? = some (boxAcc g t vs)) (vs' : List Value) (hl : vs'.length = vs.length) (hs : vs.length ≤ 1000000) : Bank w0 (w.setRow g vs'.toArray) (L.set i (boxAcc g t vs')) := by
  obtain ⟨hb, hg⟩ := h.boxAt i hi
  refine h.put i hi ?_ (show w.grownBy (w.setRow g vs'.toArray) (some g) from ⟨rfl, rfl, rfl, by simp [World.setRow], fun k hk hne => setRow_other w g k _ (fun e => hne (by rw [e]))⟩) (.inl ?_)
  · refine ⟨?_, .inr ⟨g, _, _, rfl, hb, setRow_heap _ _ _ _ _ _ hg, Nat.le_refl _, ?_, ?_, ?_⟩⟩
    · show vs'.length = vs'.length * 1; omega
    · show vs'.length ≤ maxLen; unfold maxLen; omega
    · show _ = vs'.length * 1; simp
    · show vs'.toArray.toList.take (vs'.length * 1) = vs'; simp
  · show Value.ownBlock (.slice _ vs'.length vs'.length) = _
    rw [hl]; rfl
end Go.Proofs.YtidcfjmibljkeaaDoor.K

/- The contracts of bundle's throw and check. -/
namespace Go.Proofs.YtidcfjmibljkeaaDoor.K
open Go Go.RowKit

def errP (n : Int) : List PanicEntry := [{ v := .iface 26 (.int .i64 n), recovered := false }]
theorem throw_no (n : Int) (w : World) : Calls Tryd.prog 19 #[.bool false, .int .i64 n] w fun e w' => e = .returned (.tuple #[]) ∧ w = w' := by
  go_enter Tryd.func19, Tryd.ntmps19
  go_wp2
  go_end0
  exact ⟨rfl, rfl⟩
theorem throw_yes (n : Int) (w : World) : Calls Tryd.prog 19 #[.bool true, .int .i64 n] w fun e w' => e = .panicked (errP n) ∧ w = w' := by
  go_enter Tryd.func19, Tryd.ntmps19
  go_wp2
  exact ⟨rfl, rfl, rfl⟩
/-- what check does -/
def CheckPost (w : World) (n : Nat) (e : Ending) (w' : World) : Prop := e = (if n = 0 then .returned (.tuple #[]) else .panicked (errP n)) ∧ Since w w'
set_option maxHeartbeats 2000000 in
set_option maxRecDepth 100000 in
theorem check_any (b : M.Bun) (A B C : Option Addr) (n c m d k l : Nat) (w : World) (hn : b.code.length = n) (hm : b.dig.length = m) (hk : b.tag.length = k) :
    Calls Tryd.prog 21 #[.agg #[.int .i64 b.ver, .slice A n c, .slice B m d, .slice C k l]] w (CheckPost w (M.bwrong b)) := by
  obtain ⟨v, code, dig, tag⟩ := b
  dsimp only at hn hm hk ⊢
  have S := Lib.hid (Since.alloc (Below.refl w.heap.size w) (.cells #[.int .i64 v, .slice A n c, .slice B m d, .slice C k l] 43))
  by_cases h1 : v < 1
  · have hw : M.bwrong ⟨v, code, dig, tag⟩ = 2 := by unfold M.bwrong; rw [if_pos (.inl h1)]
    rw [hw]
    clear hw hn hm hk
    go_enter Tryd.func21, Tryd.ntmps21
    go_wp2_with fail
    refine (throw_yes 2 _).mono ?_
    rintro e w1 ⟨rfl, rfl⟩
    go_wp2
    exact ⟨rfl, show CheckPost _ _ _ _ from ⟨rfl, S.out⟩⟩
  · by_cases h2 : 1073741824 < v
    · have hw : M.bwrong ⟨v, code, dig, tag⟩ = 2 := by unfold M.bwrong; rw [if_pos (.inr h2)]
      rw [hw]
      clear hw hn hm hk
      go_enter Tryd.func21, Tryd.ntmps21
      go_wp2_with fail
      refine (throw_yes 2 _).mono ?_
      rintro e w1 ⟨rfl, rfl⟩
      go_wp2
      exact ⟨rfl, show CheckPost _ _ _ _ from ⟨rfl, S.out⟩⟩
    · by_cases h3 : 32768 < n
      · have hw : M.bwrong ⟨v, code, dig, tag⟩ = 3 := by unfold M.bwrong; rw [if_neg (by show ¬ (v < 1 ∨ 1073741824 < v); omega), if_pos (by show 32768 < code.length; omega)]
        rw [hw]
        have i3 : (32768 : Int) < (n : Int) := by omega
        clear hw hn hm hk
        go_enter Tryd.func21, Tryd.ntmps21
        go_wp2_with fail
        refine (throw_no 2 _).mono ?_
        rintro e w1 ⟨rfl, rfl⟩
        go_wp2_with fail
        refine (throw_yes 3 _).mono ?_
        rintro e w1 ⟨rfl, rfl⟩
        go_wp2
        exact ⟨rfl, show CheckPost _ _ _ _ from ⟨rfl, S.out⟩⟩
      · have i3 : ¬ (32768 : Int) < (n : Int) := by omega
        have i3' : decide ((32768 : Int) < (n : Int)) = false := by simpa using i3
        by_cases h4 : m = 32 ∧ k = 32
        · obtain ⟨rfl, rfl⟩ := h4
          have hw : M.bwrong ⟨v, code, dig, tag⟩ = 0 := (M.bwrong_zero _).2 ⟨by show 1 ≤ v; omega, by show v ≤ _; omega, by show code.length ≤ _; omega, hm, hk⟩
          rw [hw]
          clear hw hn hm hk
          go_enter Tryd.func21, Tryd.ntmps21
          go_wp2_with fail
          refine (throw_no 2 _).mono ?_
          rintro e w1 ⟨rfl, rfl⟩
          go_wp2_with fail
          refine (throw_no 3 _).mono ?_
          rintro e w1 ⟨rfl, rfl⟩
          go_wp2_with fail
          refine (throw_no 4 _).mono ?_
          rintro e w1 ⟨rfl, rfl⟩
          go_wp2
          go_end0
          exact ⟨rfl, S.out⟩
        · have hw : M.bwrong ⟨v, code, dig, tag⟩ = 4 := by unfold M.bwrong; rw [if_neg (by show ¬ (v < 1 ∨ 1073741824 < v); omega), if_neg (by show ¬ 32768 < code.length; omega), if_pos (by show dig.length ≠ 32 ∨ tag.length ≠ 32; omega)]
          rw [hw]
          have HH := Lib.hid h4
          clear hw hn hm hk h4
          by_cases h5 : m = 32
          · subst h5
            have h6 : ((k : Int) != 32) = true := by have := HH.out; simp at this ⊢; omega
            go_enter Tryd.func21, Tryd.ntmps21
            go_wp2_with fail
            refine (throw_no 2 _).mono ?_
            rintro e w1 ⟨rfl, rfl⟩
            go_wp2_with fail
            refine (throw_no 3 _).mono ?_
            rintro e w1 ⟨rfl, rfl⟩
            go_wp2_with fail
            refine (throw_yes 4 _).mono ?_
            rintro e w1 ⟨rfl, rfl⟩
            go_wp2
            exact ⟨rfl, show CheckPost _ _ _ _ from ⟨rfl, S.out⟩⟩
          · have h6 : ((m : Int) != 32) = true := by simp; omega
            clear h5
            go_enter Tryd.func21, Tryd.ntmps21
            go_wp2_with fail
            refine (throw_no 2 _).mono ?_
            rintro e w1 ⟨rfl, rfl⟩
            go_wp2_with fail
            refine (throw_no 3 _).mono ?_
            rintro e w1 ⟨rfl, rfl⟩
            go_wp2_with fail
            refine (throw_yes 4 _).mono ?_
            rintro e w1 ⟨rfl, rfl⟩
            go_wp2
            exact ⟨rfl, show CheckPost _ _ _ _ from ⟨rfl, S.out⟩⟩
end Go.Proofs.YtidcfjmibljkeaaDoor.K

/- The contracts of wire.Number and of the reference's. -/
namespace Go.Proofs.YtidcfjmibljkeaaDoor.K
open Go Go.RowKit

theorem made8 {w : World} {base : Nat} {e : TypeId} {v : Value} {n : Nat} (h : w.ownsRow base e 1 v n (madeCells (Value.int .u8 0).cells (n * 1)).toList) : w.ownsRow base e 1 v n (bv (List.replicate n 0#8)) := by
  have e1 : (madeCells (Value.int .u8 0).cells (n * 1)).toList = bv (List.replicate n 0#8) := by
    rw [show (Value.int IntKind.u8 0).cells = #[Value.int .u8 0] from rfl, Nat.mul_one, toList_madeCells_one]
    simp [bv, B8]
  rw [e1] at h; exact h
theorem num_at (n : Int) (j : Nat) (h : j < 8) : (M.num n)[j]? = some (M.byteOf n (7 - j)) := by simp [M.num, h]
theorem byte_val (n : Int) (k : Nat) (h : k < 8) : Value.int .u8 (n / 2 ^ (8 * k) % 256) = B8 (M.byteOf n k) := by rw [B8, M.byteOf_int n k h]

set_option maxHeartbeats 1000000 in
set_option maxRecDepth 100000 in
theorem wnum_any (n : Int) (w : World) :
    Calls Tryd.prog 47 #[.int .i64 n] w fun e w' => ∃ g, e = .returned (.slice (some ⟨g, 0, none⟩) 8 8) ∧ w'.ownsRow w.heap.size 5 1 (.slice (some ⟨g, 0, none⟩) 8 8) 8 (bv (M.num n)) ∧ Below w.heap.size w w' := by
  obtain ⟨i0, hi, hz0, hz1, hz2⟩ := info_parts infoByte
  go_enter Tryd.func47, Tryd.ntmps47
  go_wp2_with (at_make; refine wpList_make_full _ rfl _ _ 22 rfl w.heap.size 5 i0 (.int .u8 0) 1 Tryd.underlying22 hi hz0 hz1 _ _ _ _ 8 rfl rfl rfl rfl (by rw [hz2]; omega) (by unfold maxLen; omega) (Nat.le_refl _) ?_; intro w1 hown1 hgrow1)
  have hb1 := (Below.refl w.heap.size w).grown hgrow1 (Nat.le_refl _) (by simp)
  have hlt := (hown1.lt _ rfl).2
  go_loopw [4, 8] (fun _ i wr => ∃ (k : Nat) (bs : List (BitVec 8)), k ≤ 8 ∧ i = .int .i64 (k : Int) ∧ wr.ownsRow w.heap.size 5 1 (.slice (some ⟨w.heap.size, 0, none⟩) 8 8) 8 (bv bs) ∧ (∀ j, j < 8 → 7 - j < k → bs[j]? = (M.num n)[j]?) ∧ Below w.heap.size w wr) (fun _ i _ => 8 - (intOf i).toNat)
  case atStart => exact ⟨0, List.replicate 8 0#8, by omega, rfl, made8 hown1, fun j _ h => by omega, hb1⟩
  case round =>
    clear hown1 hb1 hgrow1
    obtain ⟨k, bs, hk, rfl, hown, hbs, hb⟩ := hrel
    have k0 : (0 : Int) ≤ (k : Int) := by omega
    rcases Nat.lt_or_ge k 8 with h1 | h1
    · have i1 : (k : Int) < 8 := by omega
      have hl : bs.length = 8 := by have := hown.1; rw [bv_length] at this; omega
      have hc : wr.cell? ⟨w.heap.size, 7 - k, none⟩ = some (B8 (bs.getD (7 - k) 0)) := by
        rw [hown.cellAt (7 - k) (by omega)]; simp [bv, hl, show 7 - k < 8 by omega]
      have hf := hown.frozenAt (7 - k)
      have hst := (hown.stored (7 - k) (B8 (M.byteOf n k))).1
      have hb2 := hb.setCell (p := ⟨w.heap.size, 7 - k, none⟩) (Nat.le_refl _) (B8 (M.byteOf n k))
      have HST := Lib.hid hst; have HB2 := Lib.hid hb2; have HBS := Lib.hid hbs; have HL := Lib.hid hl
      clear hst hb2 hbs hown hb hl
      go_wp2_with (with_reducible refine wpList_store_one rfl 5 (.tmp 19) (.tmp 18) rfl ⟨w.heap.size, 7 - k, none⟩ (.int .u8 (n / 2 ^ (8 * k) % 256)) _ rfl rfl rfl (by kernel_rfl) hc hf ?_)
      rw [byte_val n k h1]
      go_roundw
      case rel =>
        refine ⟨k + 1, bs.set (7 - k) (M.byteOf n k), by omega, by go_num, ?_, fun j hj hjk => ?_, HB2.out⟩
        · have e2 : bv (bs.set (7 - k) (M.byteOf n k)) = (bv bs).set (7 - k) (B8 (M.byteOf n k)) := by simp [bv]
          rw [e2]; exact HST.out
        · by_cases e : j = 7 - k
          · subst e
            rw [List.getElem?_set_self (by have := HL.out; omega), num_at _ _ hj]
            congr 2; omega
          · rw [List.getElem?_set_ne (Ne.symm e)]; exact HBS.out j hj (by omega)
      case measure => simp [intOf]; omega
    · have i1 : ¬ (k : Int) < 8 := by omega
      have he : bs = M.num n := by
        have hl : bs.length = 8 := by have := hown.1; rw [bv_length] at this; omega
        apply List.ext_getElem?
        intro j
        by_cases hj : j < 8
        · exact hbs j hj (by omega)
        · rw [List.getElem?_eq_none (by omega), List.getElem?_eq_none (by rw [M.num_length]; omega)]
      rw [he] at hown
      have HO := Lib.hid hown
      clear hown hbs he
      go_wp2
      go_ret
      exact ⟨w.heap.size, rfl, HO.out, hb⟩

theorem num_grow (n : Int) (k : Nat) (h : k < 8) : bv ((M.num n).take k) ++ [B8 (M.byteOf n (7 - k))] = bv ((M.num n).take (k + 1)) := by
  rw [List.take_add_one, num_at n k h, bv_append]; rfl
theorem conv_int_W64 {P : Program} (w : World) (src dst : TypeId) (n : Int) (hs : P.underlying src = some (.int .i64)) (hd : P.underlying dst = some (.int .u64)) : (convert src dst (.int .i64 n)).run P w = .ok (W64 (BitVec.ofInt 64 n)) w := by
  have h : IntKind.u64.wrap n = ((BitVec.ofInt 64 n).toNat : Int) := by
    rw [wrap_u64', BitVec.toNat_ofInt]; omega
  simp [convert, run_underlying hs, run_underlying hd, Conv.intToInt, W64, h]

set_option maxHeartbeats 1000000 in
set_option maxRecDepth 100000 in
theorem rnum_any (n : Int) (w : World) :
    Calls Tryd.prog 35 #[.int .i64 n] w fun e w' => ∃ g c, e = .returned (.slice (some ⟨g, 0, none⟩) 8 c) ∧ w'.ownsRow w.heap.size 5 1 (.slice (some ⟨g, 0, none⟩) 8 c) 8 (bv (M.num n)) ∧ Below w.heap.size w w' := by
  obtain ⟨i0, hi, hz0, hz1, hz2⟩ := info_parts infoByte
  have hcv := fun w => conv_int_W64 (P := Tryd.prog) w 3 66 n Tryd.underlying3 Tryd.underlying66
  go_enter Tryd.func35, Tryd.ntmps35
  go_wp2
  go_loopw [3, 4] (fun v i wr => ∃ (k m c : Nat) (A : Option Addr), k ≤ 8 ∧ i = .int .i64 (7 - (k : Int)) ∧ v = .slice A m c ∧ m = k ∧ wr.ownsRow w.heap.size 5 1 v m (bv ((M.num n).take k)) ∧ Below w.heap.size w wr) (fun _ i _ => (intOf i + 1).toNat)
  case atStart => exact ⟨0, 0, 0, none, by omega, rfl, rfl, rfl, World.ownsRow_nil _ _ _ _, Below.refl _ _⟩
  case round =>
    obtain ⟨k, m, c, A, hk, rfl, rfl, hm, hown, hb⟩ := hrel
    have HM := Lib.hid hm; have HO := Lib.hid hown
    have hm8 : m ≤ 8 := by omega
    clear hm hown
    rcases Nat.lt_or_ge k 8 with h1 | h1
    · obtain ⟨q, hq⟩ : ∃ q, q = 7 - k := ⟨_, rfl⟩
      have ek : (7 - (k : Int)) = (q : Int) := by omega
      have q7 : q ≤ 7 := by omega
      have q0 : (0 : Int) ≤ (q : Int) := by omega
      have q8 : (0 : Int) ≤ 8 * (q : Int) := by omega
      have t8 : (8 * (q : Int)).toNat = 8 * q := by omega
      rw [ek]
      have HQ := Lib.hid hq; have EK := Lib.hid ek
      clear hq ek
      have hsz := hb.size
      go_wp2_with (at_builtin; refine wpList_append_own _ rfl _ _ 22 rfl w.heap.size 5 i0 (.int .u8 0) 1 1 Tryd.underlying22 hi hz0 hz1 hz2 rfl (by decide) _ _ _ rfl (HO.out.alloc _) ⟨wr.heap.size, 0, none⟩ 1 1 [B8 ((BitVec.ofInt 64 n >>> (8 * q)).setWidth 8)] rfl rfl (cell_last _ _ _) (by intro x hx; simp at hx; subst hx; rfl) (by unfold maxLen; omega) (by omega) (by simp; omega) ?_; intro v3 w3 hown3 hgrow3 _)
      have hb3 : Below w.heap.size w w3 := (hb.alloc hb.size _).grown hgrow3 (by simp; omega) (fun k' hk' => (HO.out.lt k' hk').1)
      obtain ⟨g3, c3, rfl, _, _⟩ := hown3.form (Nat.succ_pos _)
      have HO3 := Lib.hid hown3
      clear hgrow3 hown3
      go_roundw
      case rel =>
        refine ⟨k + 1, m + 1, c3, some ⟨g3, 0, none⟩, by omega, by have := EK.out; go_num, rfl, by have := HM.out; omega, ?_, hb3⟩
        have o := HO3.out
        rw [show (BitVec.ofInt 64 n >>> (8 * q)).setWidth 8 = M.byteOf n (7 - k) by rw [← HQ.out]; rfl, num_grow n k h1] at o
        exact o
      case measure => simp [intOf]
    · have i1 : ¬ (0 : Int) ≤ 7 - (k : Int) := by omega
      have i2 : ¬ (k : Int) ≤ 7 := by omega
      have hk8 : k = 8 := by omega
      have hm8' : m = 8 := by have := HM.out; omega
      have o := HO.out
      rw [hk8, hm8'] at o
      obtain ⟨g, c', e, hg1, hg2⟩ := o.form (by omega)
      simp only [Value.slice.injEq, true_and] at e
      obtain ⟨rfl, rfl⟩ := e
      have O2 := Lib.hid o; have HM8 := Lib.hid hm8'
      clear o hk8 hm8' HO
      go_wp2
      go_ret
      exact ⟨g, c, by rw [← HM8.out]; rfl, O2.out, hb⟩
end Go.Proofs.YtidcfjmibljkeaaDoor.K

/- The contracts of wire.Join and wire.Bytes, and of the reference's Bytes. -/
namespace Go.Proofs.YtidcfjmibljkeaaDoor.K
open Go Go.RowKit

set_option maxHeartbeats 1000000 in
set_option maxRecDepth 100000 in
theorem join_any (S : Option Addr) (m cS : Nat) (r : Nat → Rw) (f : Nat → List (BitVec 8)) (w : World) (hp : Parts w S m r f) (hm : m ≤ 1000000) (hN : (joined f m).length ≤ 100000000000000) :
    Calls Tryd.prog 24 #[.slice S m cS] w fun e w' => ∃ A N c, e = .returned (.slice A N c) ∧ N = (joined f m).length ∧ w'.ownsRow w.heap.size 5 1 (.slice A N c) N (bv (joined f m)) ∧ Below w.heap.size w w' := by
  obtain ⟨i0, hi, hz0, hz1, hz2⟩ := info_parts infoByte
  have HP := Lib.hid hp; have HN := Lib.hid hN
  clear hp hN
  go_enter Tryd.func24, Tryd.ntmps24
  go_wp2
  go_loopw [3, 5, 8] (fun v _ i wr => ∃ (k N c : Nat) (A : Option Addr), k ≤ m ∧ i = .int .i64 (k : Int) ∧ v = .slice A N c ∧ N = (joined f k).length ∧ wr.ownsRow w.heap.size 5 1 v N (bv (joined f k)) ∧ Below w.heap.size w wr) (fun _ _ i _ => m - (intOf i).toNat)
  case atStart => exact ⟨0, 0, 0, none, by omega, rfl, rfl, rfl, World.ownsRow_nil _ _ _ _, Below.refl _ _⟩
  case round =>
    obtain ⟨k, N, c, A, hk, rfl, rfl, hNk, hown, hb⟩ := hrel
    have k0 : (0 : Int) ≤ (k : Int) := by omega
    have HO := Lib.hid hown; have HNK := Lib.hid hNk
    have hNb : N ≤ 100000000000000 := by have := joined_le f hk; have := HN.out; omega
    clear hown hNk
    rcases Nat.lt_or_ge k m with h1 | h1
    · have i1 : (k : Int) < (m : Int) := by omega
      obtain ⟨⟨b, o, rfl, hc⟩, hrd, hln, hnn⟩ := (HP.out.below hb) k h1
      obtain ⟨A2, n2, c2, hr⟩ : ∃ A n c, r k = ⟨A, n, c⟩ := ⟨_, _, _, rfl⟩
      rw [hr] at hc hrd hln hnn
      have hc' : wr.cell? ⟨b, o + k, none⟩ = some (.slice A2 n2 c2) := hc
      have hl2 : (bv (f k)).length = n2 * 1 := by rw [bv_length, hln]; show n2 = _; omega
      have hcs := hrd.cells
      have hnn2 : A2 = none → n2 = 0 ∧ c2 = 0 := fun h => ⟨by
        have h' : (⟨A2, n2, c2⟩ : Rw).A = none := h
        rw [h'] at hrd
        rw [hrd.empty] at hln; exact hln.symm, hnn h⟩
      have hNt : N + n2 ≤ 100000000000000 := by
        have := joined_le f (show k + 1 ≤ m by omega)
        rw [joined, List.length_append, hln] at this
        have h' : (⟨A2, n2, c2⟩ : Rw).n = n2 := rfl
        have := HNK.out; have := HN.out; omega
      have HL2 := Lib.hid hl2; have HCS := Lib.hid hcs; have HNN := Lib.hid hnn2; have HLN := Lib.hid hln
      clear hc hrd hln hnn hr hl2 hcs hnn2
      go_wp2_with (at_builtin; refine wpList_append_any _ rfl _ _ 22 rfl w.heap.size 5 i0 (.int .u8 0) 1 1 Tryd.underlying22 hi hz0 hz1 hz2 rfl (by decide) _ N (bv (joined f k)) rfl HO.out A2 n2 c2 (bv (f k)) rfl HNN.out HL2.out HCS.out (bv_one _) (by unfold maxLen; omega) (by omega) hb.size ?_; intro v3 w3 hown3 hgrow3; rw [← bv_append] at hown3; obtain ⟨B3, d3, rfl⟩ := row_slice hown3; have hb3 : Below w.heap.size w w3 := hb.grown hgrow3 hb.size (fun k hk => (HO.out.lt k hk).1); have HB3 := Lib.hid hb3; have HO3 := Lib.hid hown3; clear hb3 hown3 hgrow3)
      go_roundw
      case rel =>
        refine ⟨k + 1, N + n2, d3, B3, by omega, by go_num, rfl, ?_, HO3.out, HB3.out⟩
        rw [joined, List.length_append, ← HNK.out, HLN.out]
      case measure => simp [intOf]; omega
    · have i1 : ¬ (k : Int) < (m : Int) := by omega
      have hkm : k = m := by omega
      have o := HO.out
      have hn := HNK.out
      rw [hkm] at o hn
      have HO2 := Lib.hid o; have HN2 := Lib.hid hn
      clear hkm o hn
      go_wp2
      go_ret
      exact ⟨A, N, c, rfl, HN2.out, HO2.out, hb⟩
end Go.Proofs.YtidcfjmibljkeaaDoor.K
