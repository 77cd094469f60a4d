/- Merged: WireNum, AppendAny, RowRead, Parts, WireJoin, WireBytes, KitEntry, Bank, EntRows, WireRdMath, WireBackMath, NumInv. -/
import Derived.Test.YtfpjmeknjhhakaaGreatSz1
import Derived.Laws.OwnMore
set_option linter.unusedVariables false
/- The contracts of wire.Number and of the reference's. -/
namespace Go.Proofs.YtfpjmeknjhhakaaGreat.K
open Go Go.RowKit

theorem made8 {w : World} {base : Nat} {e : TypeId} {v : Value} {n : Nat} (h : w.ownsRow base e 1 v n (madeCells (Value.int .u8 0).cells (n * 1)).toList) : w.ownsRow base e 1 v n (bv (List.replicate n 0#8)) := by
  have e1 : (madeCells (Value.int .u8 0).cells (n * 1)).toList = bv (List.replicate n 0#8) := by
    rw [show (Value.int IntKind.u8 0).cells = #[Value.int .u8 0] from rfl, Nat.mul_one, toList_madeCells_one]
    simp [bv, B8]
  rw [e1] at h; exact h
theorem num_at (n : Int) (j : Nat) (h : j < 8) : (M.num n)[j]? = some (M.byteOf n (7 - j)) := by simp [M.num, h]
theorem byte_val (n : Int) (k : Nat) (h : k < 8) : Value.int .u8 (n / 2 ^ (8 * k) % 256) = B8 (M.byteOf n k) := by rw [B8, M.byteOf_int n k h]

set_option maxHeartbeats 1000000 in
set_option maxRecDepth 100000 in
theorem wnum_any (n : Int) (w : World) :
    Calls Tryz.prog 52 #[.int .i64 n] w fun e w' => ∃ g, e = .returned (.slice (some ⟨g, 0, none⟩) 8 8) ∧ w'.ownsRow w.heap.size 5 1 (.slice (some ⟨g, 0, none⟩) 8 8) 8 (bv (M.num n)) ∧ Below w.heap.size w w' := by
  obtain ⟨i0, hi, hz0, hz1, hz2⟩ := info_parts infoByte
  go_enter Tryz.func52, Tryz.ntmps52
  go_wp2_with (at_make; refine wpList_make_full _ rfl _ _ 37 rfl w.heap.size 5 i0 (.int .u8 0) 1 Tryz.underlying37 hi hz0 hz1 _ _ _ _ 8 rfl rfl rfl rfl (by rw [hz2]; omega) (by unfold maxLen; omega) (Nat.le_refl _) ?_; intro w1 hown1 hgrow1)
  have hb1 := (Below.refl w.heap.size w).grown hgrow1 (Nat.le_refl _) (by simp)
  have hlt := (hown1.lt _ rfl).2
  go_loopw [4, 8] (fun _ i wr => ∃ (k : Nat) (bs : List (BitVec 8)), k ≤ 8 ∧ i = .int .i64 (k : Int) ∧ wr.ownsRow w.heap.size 5 1 (.slice (some ⟨w.heap.size, 0, none⟩) 8 8) 8 (bv bs) ∧ (∀ j, j < 8 → 7 - j < k → bs[j]? = (M.num n)[j]?) ∧ Below w.heap.size w wr) (fun _ i _ => 8 - (intOf i).toNat)
  case atStart => exact ⟨0, List.replicate 8 0#8, by omega, rfl, made8 hown1, fun j _ h => by omega, hb1⟩
  case round =>
    clear hown1 hb1 hgrow1
    obtain ⟨k, bs, hk, rfl, hown, hbs, hb⟩ := hrel
    have k0 : (0 : Int) ≤ (k : Int) := by omega
    rcases Nat.lt_or_ge k 8 with h1 | h1
    · have i1 : (k : Int) < 8 := by omega
      have hl : bs.length = 8 := by have := hown.1; rw [bv_length] at this; omega
      have hc : wr.cell? ⟨w.heap.size, 7 - k, none⟩ = some (B8 (bs.getD (7 - k) 0)) := by
        rw [hown.cellAt (7 - k) (by omega)]; simp [bv, hl, show 7 - k < 8 by omega]
      have hf := hown.frozenAt (7 - k)
      have hst := (hown.stored (7 - k) (B8 (M.byteOf n k))).1
      have hb2 := hb.setCell (p := ⟨w.heap.size, 7 - k, none⟩) (Nat.le_refl _) (B8 (M.byteOf n k))
      have HST := Lib.hid hst; have HB2 := Lib.hid hb2; have HBS := Lib.hid hbs; have HL := Lib.hid hl
      clear hst hb2 hbs hown hb hl
      go_wp2_with (with_reducible refine wpList_store_one rfl 5 (.tmp 19) (.tmp 18) rfl ⟨w.heap.size, 7 - k, none⟩ (.int .u8 (n / 2 ^ (8 * k) % 256)) _ rfl rfl rfl (by kernel_rfl) hc hf ?_)
      rw [byte_val n k h1]
      go_roundw
      case rel =>
        refine ⟨k + 1, bs.set (7 - k) (M.byteOf n k), by omega, by go_num, ?_, fun j hj hjk => ?_, HB2.out⟩
        · have e2 : bv (bs.set (7 - k) (M.byteOf n k)) = (bv bs).set (7 - k) (B8 (M.byteOf n k)) := by simp [bv]
          rw [e2]; exact HST.out
        · by_cases e : j = 7 - k
          · subst e
            rw [List.getElem?_set_self (by have := HL.out; omega), num_at _ _ hj]
            congr 2; omega
          · rw [List.getElem?_set_ne (Ne.symm e)]; exact HBS.out j hj (by omega)
      case measure => simp [intOf]; omega
    · have i1 : ¬ (k : Int) < 8 := by omega
      have he : bs = M.num n := by
        have hl : bs.length = 8 := by have := hown.1; rw [bv_length] at this; omega
        apply List.ext_getElem?
        intro j
        by_cases hj : j < 8
        · exact hbs j hj (by omega)
        · rw [List.getElem?_eq_none (by omega), List.getElem?_eq_none (by rw [M.num_length]; omega)]
      rw [he] at hown
      have HO := Lib.hid hown
      clear hown hbs he
      go_wp2
      go_ret
      exact ⟨w.heap.size, rfl, HO.out, hb⟩

theorem num_grow (n : Int) (k : Nat) (h : k < 8) : bv ((M.num n).take k) ++ [B8 (M.byteOf n (7 - k))] = bv ((M.num n).take (k + 1)) := by
  rw [List.take_add_one, num_at n k h, bv_append]; rfl
theorem conv_int_W64 {P : Program} (w : World) (src dst : TypeId) (n : Int) (hs : P.underlying src = some (.int .i64)) (hd : P.underlying dst = some (.int .u64)) : (convert src dst (.int .i64 n)).run P w = .ok (W64 (BitVec.ofInt 64 n)) w := by
  have h : IntKind.u64.wrap n = ((BitVec.ofInt 64 n).toNat : Int) := by
    rw [wrap_u64', BitVec.toNat_ofInt]; omega
  simp [convert, run_underlying hs, run_underlying hd, Conv.intToInt, W64, h]

set_option maxHeartbeats 1000000 in
set_option maxRecDepth 100000 in
theorem rnum_any (n : Int) (w : World) :
    Calls Tryz.prog 66 #[.int .i64 n] w fun e w' => ∃ g c, e = .returned (.slice (some ⟨g, 0, none⟩) 8 c) ∧ w'.ownsRow w.heap.size 5 1 (.slice (some ⟨g, 0, none⟩) 8 c) 8 (bv (M.num n)) ∧ Below w.heap.size w w' := by
  obtain ⟨i0, hi, hz0, hz1, hz2⟩ := info_parts infoByte
  have hcv := fun w => conv_int_W64 (P := Tryz.prog) w 3 132 n Tryz.underlying3 Tryz.underlying132
  go_enter Tryz.func66, Tryz.ntmps66
  go_wp2
  go_loopw [3, 4] (fun v i wr => ∃ (k m c : Nat) (A : Option Addr), k ≤ 8 ∧ i = .int .i64 (7 - (k : Int)) ∧ v = .slice A m c ∧ m = k ∧ wr.ownsRow w.heap.size 5 1 v m (bv ((M.num n).take k)) ∧ Below w.heap.size w wr) (fun _ i _ => (intOf i + 1).toNat)
  case atStart => exact ⟨0, 0, 0, none, by omega, rfl, rfl, rfl, World.ownsRow_nil _ _ _ _, Below.refl _ _⟩
  case round =>
    obtain ⟨k, m, c, A, hk, rfl, rfl, hm, hown, hb⟩ := hrel
    have HM := Lib.hid hm; have HO := Lib.hid hown
    have hm8 : m ≤ 8 := by omega
    clear hm hown
    rcases Nat.lt_or_ge k 8 with h1 | h1
    · obtain ⟨q, hq⟩ : ∃ q, q = 7 - k := ⟨_, rfl⟩
      have ek : (7 - (k : Int)) = (q : Int) := by omega
      have q7 : q ≤ 7 := by omega
      have q0 : (0 : Int) ≤ (q : Int) := by omega
      have q8 : (0 : Int) ≤ 8 * (q : Int) := by omega
      have t8 : (8 * (q : Int)).toNat = 8 * q := by omega
      rw [ek]
      have HQ := Lib.hid hq; have EK := Lib.hid ek
      clear hq ek
      have hsz := hb.size
      go_wp2_with (at_builtin; refine wpList_append_own _ rfl _ _ 37 rfl w.heap.size 5 i0 (.int .u8 0) 1 1 Tryz.underlying37 hi hz0 hz1 hz2 rfl (by decide) _ _ _ rfl (HO.out.alloc _) ⟨wr.heap.size, 0, none⟩ 1 1 [B8 ((BitVec.ofInt 64 n >>> (8 * q)).setWidth 8)] rfl rfl (cell_last _ _ _) (by intro x hx; simp at hx; subst hx; rfl) (by unfold maxLen; omega) (by omega) (by simp; omega) ?_; intro v3 w3 hown3 hgrow3 _)
      have hb3 : Below w.heap.size w w3 := (hb.alloc hb.size _).grown hgrow3 (by simp; omega) (fun k' hk' => (HO.out.lt k' hk').1)
      obtain ⟨g3, c3, rfl, _, _⟩ := hown3.form (Nat.succ_pos _)
      have HO3 := Lib.hid hown3
      clear hgrow3 hown3
      go_roundw
      case rel =>
        refine ⟨k + 1, m + 1, c3, some ⟨g3, 0, none⟩, by omega, by have := EK.out; go_num, rfl, by have := HM.out; omega, ?_, hb3⟩
        have o := HO3.out
        rw [show (BitVec.ofInt 64 n >>> (8 * q)).setWidth 8 = M.byteOf n (7 - k) by rw [← HQ.out]; rfl, num_grow n k h1] at o
        exact o
      case measure => simp [intOf]
    · have i1 : ¬ (0 : Int) ≤ 7 - (k : Int) := by omega
      have i2 : ¬ (k : Int) ≤ 7 := by omega
      have hk8 : k = 8 := by omega
      have hm8' : m = 8 := by have := HM.out; omega
      have o := HO.out
      rw [hk8, hm8'] at o
      obtain ⟨g, c', e, hg1, hg2⟩ := o.form (by omega)
      simp only [Value.slice.injEq, true_and] at e
      obtain ⟨rfl, rfl⟩ := e
      have O2 := Lib.hid o; have HM8 := Lib.hid hm8'
      clear o hk8 hm8' HO
      go_wp2
      go_ret
      exact ⟨g, c, by rw [← HM8.out]; rfl, O2.out, hb⟩
end Go.Proofs.YtfpjmeknjhhakaaGreat.K

/- An append of what may be nil, onto a row that the call owns. -/
namespace Go.Proofs.YtfpjmeknjhhakaaGreat.K
open Go Go.RowKit
/-- append of what may be nil -/
theorem wpList_append_any {P : Program} (w : World) {ops : Array Oper} {rest : List Oper} {o : Oper} {a : Act} {Q : Exit → Act → World → Prop} (hgd : o.guard = Option.none) (s x : Operand) (t : TypeId)
    (ho : o.op = .call { callee := .builtin .append, args := #[s, x], argTypes := #[t, t] })
    (base : Nat) (e : TypeId) (i : TypeInfo) (z : Value) (size bytes : Nat) (ht : P.underlying t = some (.slice e)) (hi : P.info? e = some i) (hz : i.zero = some z)
    (hsize : i.size = size) (hby : i.bytes = bytes) (hzs : z.cells.size = size) (hsz : 0 < size)
    (v : Value) (n : Nat) (xs : List Value) (hs : a.eval s = v) (hown : w.ownsRow base e size v n xs)
    (ao : Option Addr) (m c : Nat) (news : List Value) (hx : a.eval x = .slice ao m c) (hnone : ao = Option.none → m = 0 ∧ c = 0) (hl : news.length = m * size) (hnews : ∀ ad, ao = some ad → ∀ j u, news[j]? = some u → w.cell? (ad.add j) = some u) (h1 : ∀ u ∈ news, u.oneCell' = true)
    (h63 : n + m ≤ maxLen) (hbytes : (n + m) * bytes ≤ 140737488355328) (hbase : base ≤ w.heap.size)
    (h : ∀ v' w', w'.ownsRow base e size v' (n + m) (xs ++ news) → w.grownBy w' v.ownBlock → wpList P ops Q rest (a.put o.dst v') w') :
    wpList P ops Q (o :: rest) a w := by
  cases ao with
  | some ad => exact wpList_append_own w hgd s x t ho base e i z size bytes ht hi hz hsize hby hzs hsz v n xs hs hown ad m c news hx hl (hnews ad rfl) h1 h63 hbytes hbase fun v' w' h2 h3 _ => h v' w' h2 h3
  | none =>
    obtain ⟨rfl, rfl⟩ := hnone rfl
    have hn : news = [] := List.eq_nil_of_length_eq_zero (by simpa using hl)
    subst hn
    refine wpList_plain hgd fun K hK' => ?_
    have hrun := run_append_owned_none (P := P) w base t o.type e i size ht hi _ n xs hown
    unfold Oper.wp
    simp [execOp, ho, resolve, invoke, builtin, hs, hx, hrun, Result.andThen]
    exact hK' _ _ (h v w (by simpa using hown) (World.grownBy.refl _ _))

theorem wp_append_any {P : Program} (w : World) {o : Oper} {a : Act} {K : Act → World → Prop} {Q : Exit → Act → World → Prop} (s x : Operand) (t : TypeId)
    (ho : o.op = .call { callee := .builtin .append, args := #[s, x], argTypes := #[t, t] })
    (base : Nat) (e : TypeId) (i : TypeInfo) (z : Value) (size bytes : Nat) (ht : P.underlying t = some (.slice e)) (hi : P.info? e = some i) (hz : i.zero = some z)
    (hsize : i.size = size) (hby : i.bytes = bytes) (hzs : z.cells.size = size) (hsz : 0 < size)
    (v : Value) (n : Nat) (xs : List Value) (hs : a.eval s = v) (hown : w.ownsRow base e size v n xs)
    (ao : Option Addr) (m c : Nat) (news : List Value) (hx : a.eval x = .slice ao m c) (hnone : ao = Option.none → m = 0 ∧ c = 0) (hl : news.length = m * size) (hnews : ∀ ad, ao = some ad → ∀ j u, news[j]? = some u → w.cell? (ad.add j) = some u) (h1 : ∀ u ∈ news, u.oneCell' = true)
    (h63 : n + m ≤ maxLen) (hbytes : (n + m) * bytes ≤ 140737488355328) (hbase : base ≤ w.heap.size)
    (h : ∀ v' w', w'.ownsRow base e size v' (n + m) (xs ++ news) → w.grownBy w' v.ownBlock → K (a.put o.dst v') w') : o.wp P a w K Q := by
  cases ao with
  | some ad => exact wp_append_own w s x t ho base e i z size bytes ht hi hz hsize hby hzs hsz v n xs hs hown ad m c news hx hl (hnews ad rfl) h1 h63 hbytes hbase fun v' w' h2 h3 _ => h v' w' h2 h3
  | none =>
    obtain ⟨rfl, rfl⟩ := hnone rfl
    have hn : news = [] := List.eq_nil_of_length_eq_zero (by simpa using hl)
    subst hn
    have hrun := run_append_owned_none (P := P) w base t o.type e i size ht hi _ n xs hown
    unfold Oper.wp
    simp [execOp, ho, resolve, invoke, builtin, hs, hx, hrun, Result.andThen]
    exact h v w (by simpa using hown) (World.grownBy.refl _ _)
theorem step_append_any {P : Program} (w : World) {ops : Array Oper} {o : Oper} {a : Act} {K : Act → World → Prop} {Q : Exit → Act → World → Prop} {E : Prop} (hgd : o.guard = Option.none) (s x : Operand) (t : TypeId)
    (ho : o.op = .call { callee := .builtin .append, args := #[s, x], argTypes := #[t, t] })
    (base : Nat) (e : TypeId) (i : TypeInfo) (z : Value) (size bytes : Nat) (ht : P.underlying t = some (.slice e)) (hi : P.info? e = some i) (hz : i.zero = some z)
    (hsize : i.size = size) (hby : i.bytes = bytes) (hzs : z.cells.size = size) (hsz : 0 < size)
    (v : Value) (n : Nat) (xs : List Value) (hs : a.eval s = v) (hown : w.ownsRow base e size v n xs)
    (ao : Option Addr) (m c : Nat) (news : List Value) (hx : a.eval x = .slice ao m c) (hnone : ao = Option.none → m = 0 ∧ c = 0) (hl : news.length = m * size) (hnews : ∀ ad, ao = some ad → ∀ j u, news[j]? = some u → w.cell? (ad.add j) = some u) (h1 : ∀ u ∈ news, u.oneCell' = true)
    (h63 : n + m ≤ maxLen) (hbytes : (n + m) * bytes ≤ 140737488355328) (hbase : base ≤ w.heap.size)
    (h : ∀ v' w', w'.ownsRow base e size v' (n + m) (xs ++ news) → w.grownBy w' v.ownBlock → K (a.put o.dst v') w') :
    if Region.wanted o (yielded ops a.tmps) = true then Oper.wp P o a w K Q else E := by
  have hw : Region.wanted o (yielded ops a.tmps) = true := by simp [Region.wanted, hgd]
  rw [if_pos hw]
  exact wp_append_any w s x t ho base e i z size bytes ht hi hz hsize hby hzs hsz v n xs hs hown ao m c news hx hnone hl hnews h1 h63 hbytes hbase h
theorem own_lit0 {w : World} {base : Nat} {e : TypeId} (hb : base ≤ w.heap.size) : (w.alloc (.cells #[] e)).ownsRow base e 1 (.slice (some ⟨w.heap.size, 0, none⟩) 0 0) 0 (bv []) :=
  World.ownsRow_lit w #[] 0 hb (by unfold maxLen; omega) rfl
theorem row_slice {w : World} {base size n : Nat} {e : TypeId} {v : Value} {xs : List Value} (h : w.ownsRow base e size v n xs) : ∃ A c, v = .slice A n c := by
  rcases h.2 with ⟨h0, rfl⟩ | ⟨g, cap, _, hv, _⟩
  · exact ⟨_, _, h0⟩
  · exact ⟨_, _, hv⟩
theorem cell_old {w : World} {a : Addr} {v : Value} (o : Obj) (h : w.cell? a = some v) : (w.alloc o).cell? a = some v :=
  (((Below.refl w.heap.size w).alloc (Nat.le_refl _) o).cell (block_lt_of_cell h)).trans h
end Go.Proofs.YtfpjmeknjhhakaaGreat.K

/- A row that reads a list of bytes. -/
namespace Go.Proofs.YtfpjmeknjhhakaaGreat.K
open Go Go.RowKit

/-- a row that reads bs -/
structure RowRd (w : World) (x : Rw) (bs : List (BitVec 8)) : Prop where
  rd : Rd w x.A bs
  len : bs.length = x.n
  none : x.A = Option.none → x.c = 0
theorem RowRd.below {w w' : World} {x : Rw} {bs : List (BitVec 8)} (h : RowRd w x bs) (hb : Below w.heap.size w w') : RowRd w' x bs := ⟨h.rd.below hb, h.len, h.none⟩
theorem RowRd.of_row {w : World} {base : Nat} {e : TypeId} {A : Option Addr} {n c : Nat} {bs : List (BitVec 8)} (h : w.ownsRow base e 1 (.slice A n c) n (bv bs)) : RowRd w ⟨A, n, c⟩ bs :=
  ⟨Rd.of_own h, by have := h.1; rw [bv_length] at this; show _ = n; omega, fun e => ((row_room h).2.2.1 e).2⟩
end Go.Proofs.YtfpjmeknjhhakaaGreat.K

/- Slices of bytes that lie in a row, as they are handed to a variadic call. -/
namespace Go.Proofs.YtfpjmeknjhhakaaGreat.K
open Go Go.RowKit

/-- m slices of bytes lie at S and read f -/
def Parts (w : World) (S : Option Addr) (m : Nat) (r : Nat → Rw) (f : Nat → List (BitVec 8)) : Prop :=
  ∀ j, j < m → (∃ b o, S = some ⟨b, o, none⟩ ∧ w.cell? ⟨b, o + j, none⟩ = some (.slice (r j).A (r j).n (r j).c)) ∧ Rd w (r j).A (f j) ∧ (f j).length = (r j).n ∧ ((r j).A = none → (r j).c = 0)
theorem Parts.below {w w' : World} {S : Option Addr} {m : Nat} {r : Nat → Rw} {f : Nat → List (BitVec 8)} (h : Parts w S m r f) (hb : Below w.heap.size w w') : Parts w' S m r f := fun j hj => by
  obtain ⟨⟨b, o, h1, h2⟩, h3, h4, h5⟩ := h j hj
  exact ⟨⟨b, o, h1, (hb.cell (block_lt_of_cell h2)).trans h2⟩, h3.below hb, h4, h5⟩
/-- what k of them are, one behind the other -/
def joined (f : Nat → List (BitVec 8)) : Nat → List (BitVec 8)
  | 0 => []
  | k + 1 => joined f k ++ f k
theorem joined_le (f : Nat → List (BitVec 8)) {k m : Nat} (h : k ≤ m) : (joined f k).length ≤ (joined f m).length := by
  induction m with
  | zero => obtain rfl : k = 0 := by omega
            exact Nat.le_refl _
  | succ m ih =>
    by_cases e : k = m + 1
    · subst e; exact Nat.le_refl _
    · have := ih (by omega)
      rw [joined, List.length_append]; omega

def rowsOf (l : List (Rw × List (BitVec 8))) (j : Nat) : Rw := (l.getD j (⟨none, 0, 0⟩, [])).1
def bytesAt (l : List (Rw × List (BitVec 8))) (j : Nat) : List (BitVec 8) := (l.getD j (⟨none, 0, 0⟩, [])).2
theorem parts_of {w w1 : World} {t : TypeId} (l : List (Rw × List (BitVec 8))) (hw : w1 = w.alloc (.cells (l.map fun p => p.1.v).toArray t)) (h : ∀ p ∈ l, RowRd w p.1 p.2) :
    Parts w1 (some ⟨w.heap.size, 0, none⟩) l.length (rowsOf l) (bytesAt l) := by
  subst hw
  intro j hj
  have hm : l.getD j (⟨none, 0, 0⟩, []) = l[j] := by simp [hj]
  have h1 := (h l[j] (List.getElem_mem _)).below ((Below.refl w.heap.size w).alloc (Nat.le_refl _) (.cells (l.map fun p => p.1.v).toArray t))
  refine ⟨⟨w.heap.size, 0, rfl, ?_⟩, ?_, ?_, ?_⟩
  · rw [World.cell?_alloc_new, rowsOf, hm]
    simp [hj, Rw.v]
  · rw [rowsOf, bytesAt, hm]; exact h1.rd
  · rw [rowsOf, bytesAt, hm]; exact h1.len
  · rw [rowsOf, hm]; exact h1.none
theorem joined_flat (l : List (Rw × List (BitVec 8))) (k : Nat) (hk : k ≤ l.length) : joined (bytesAt l) k = ((l.take k).map (·.2)).flatten := by
  induction k with
  | zero => rfl
  | succ k ih =>
    rw [joined, ih (by omega), List.take_succ_eq_append_getElem (by omega), List.map_append, List.flatten_append]
    simp [bytesAt, show k < l.length by omega]
theorem joined_all (l : List (Rw × List (BitVec 8))) : joined (bytesAt l) l.length = (l.map (·.2)).flatten := by
  rw [joined_flat l _ (Nat.le_refl _), List.take_length]

end Go.Proofs.YtfpjmeknjhhakaaGreat.K

/- The contracts of wire.Join and wire.Bytes, and of the reference's Bytes. -/
namespace Go.Proofs.YtfpjmeknjhhakaaGreat.K
open Go Go.RowKit

set_option maxHeartbeats 1000000 in
set_option maxRecDepth 100000 in
theorem join_any (S : Option Addr) (m cS : Nat) (r : Nat → Rw) (f : Nat → List (BitVec 8)) (w : World) (hp : Parts w S m r f) (hm : m ≤ 1000000) (hN : (joined f m).length ≤ 100000000000000) :
    Calls Tryz.prog 51 #[.slice S m cS] w fun e w' => ∃ A N c, e = .returned (.slice A N c) ∧ N = (joined f m).length ∧ w'.ownsRow w.heap.size 5 1 (.slice A N c) N (bv (joined f m)) ∧ Below w.heap.size w w' := by
  obtain ⟨i0, hi, hz0, hz1, hz2⟩ := info_parts infoByte
  have HP := Lib.hid hp; have HN := Lib.hid hN
  clear hp hN
  go_enter Tryz.func51, Tryz.ntmps51
  go_wp2
  go_loopw [3, 5, 8] (fun v _ i wr => ∃ (k N c : Nat) (A : Option Addr), k ≤ m ∧ i = .int .i64 (k : Int) ∧ v = .slice A N c ∧ N = (joined f k).length ∧ wr.ownsRow w.heap.size 5 1 v N (bv (joined f k)) ∧ Below w.heap.size w wr) (fun _ _ i _ => m - (intOf i).toNat)
  case atStart => exact ⟨0, 0, 0, none, by omega, rfl, rfl, rfl, World.ownsRow_nil _ _ _ _, Below.refl _ _⟩
  case round =>
    obtain ⟨k, N, c, A, hk, rfl, rfl, hNk, hown, hb⟩ := hrel
    have k0 : (0 : Int) ≤ (k : Int) := by omega
    have HO := Lib.hid hown; have HNK := Lib.hid hNk
    have hNb : N ≤ 100000000000000 := by have := joined_le f hk; have := HN.out; omega
    clear hown hNk
    rcases Nat.lt_or_ge k m with h1 | h1
    · have i1 : (k : Int) < (m : Int) := by omega
      obtain ⟨⟨b, o, rfl, hc⟩, hrd, hln, hnn⟩ := (HP.out.below hb) k h1
      obtain ⟨A2, n2, c2, hr⟩ : ∃ A n c, r k = ⟨A, n, c⟩ := ⟨_, _, _, rfl⟩
      rw [hr] at hc hrd hln hnn
      have hc' : wr.cell? ⟨b, o + k, none⟩ = some (.slice A2 n2 c2) := hc
      have hl2 : (bv (f k)).length = n2 * 1 := by rw [bv_length, hln]; show n2 = _; omega
      have hcs := hrd.cells
      have hnn2 : A2 = none → n2 = 0 ∧ c2 = 0 := fun h => ⟨by
        have h' : (⟨A2, n2, c2⟩ : Rw).A = none := h
        rw [h'] at hrd
        rw [hrd.empty] at hln; exact hln.symm, hnn h⟩
      have hNt : N + n2 ≤ 100000000000000 := by
        have := joined_le f (show k + 1 ≤ m by omega)
        rw [joined, List.length_append, hln] at this
        have h' : (⟨A2, n2, c2⟩ : Rw).n = n2 := rfl
        have := HNK.out; have := HN.out; omega
      have HL2 := Lib.hid hl2; have HCS := Lib.hid hcs; have HNN := Lib.hid hnn2; have HLN := Lib.hid hln
      clear hc hrd hln hnn hr hl2 hcs hnn2
      go_wp2_with (at_builtin; refine wpList_append_any _ rfl _ _ 37 rfl w.heap.size 5 i0 (.int .u8 0) 1 1 Tryz.underlying37 hi hz0 hz1 hz2 rfl (by decide) _ N (bv (joined f k)) rfl HO.out A2 n2 c2 (bv (f k)) rfl HNN.out HL2.out HCS.out (bv_one _) (by unfold maxLen; omega) (by omega) hb.size ?_; intro v3 w3 hown3 hgrow3; rw [← bv_append] at hown3; obtain ⟨B3, d3, rfl⟩ := row_slice hown3; have hb3 : Below w.heap.size w w3 := hb.grown hgrow3 hb.size (fun k hk => (HO.out.lt k hk).1); have HB3 := Lib.hid hb3; have HO3 := Lib.hid hown3; clear hb3 hown3 hgrow3)
      go_roundw
      case rel =>
        refine ⟨k + 1, N + n2, d3, B3, by omega, by go_num, rfl, ?_, HO3.out, HB3.out⟩
        rw [joined, List.length_append, ← HNK.out, HLN.out]
      case measure => simp [intOf]; omega
    · have i1 : ¬ (k : Int) < (m : Int) := by omega
      have hkm : k = m := by omega
      have o := HO.out
      have hn := HNK.out
      rw [hkm] at o hn
      have HO2 := Lib.hid o; have HN2 := Lib.hid hn
      clear hkm o hn
      go_wp2
      go_ret
      exact ⟨A, N, c, rfl, HN2.out, HO2.out, hb⟩
end Go.Proofs.YtfpjmeknjhhakaaGreat.K

/- The contracts of wire.Bytes and of the reference's Bytes. -/
namespace Go.Proofs.YtfpjmeknjhhakaaGreat.K
open Go Go.RowKit

abbrev twoRows (x y : Rw) (bx by' : List (BitVec 8)) : List (Rw × List (BitVec 8)) := [(x, bx), (y, by')]
set_option maxHeartbeats 1000000 in
set_option maxRecDepth 100000 in
theorem wbytes_any (A : Option Addr) (n c : Nat) (bs : List (BitVec 8)) (w : World) (hr : RowRd w ⟨A, n, c⟩ bs) (hn2 : n ≤ 10000000000000) :
    Calls Tryz.prog 80 #[.slice A n c] w fun e w' => ∃ g N c', e = .returned (.slice (some ⟨g, 0, none⟩) N c') ∧ N = 8 + n ∧ w'.ownsRow w.heap.size 5 1 (.slice (some ⟨g, 0, none⟩) N c') N (bv (M.blob bs)) ∧ Below w.heap.size w w' := by
  have HR := Lib.hid hr
  have hlen : bs.length = n := hr.len
  have HLEN := Lib.hid hlen
  clear hr hlen
  go_enter Tryz.func80, Tryz.ntmps80
  go_wp2_with fail
  refine (wnum_any (n : Int) w).mono ?_
  rintro e w1 ⟨g, rfl, ho1, hb1⟩
  have HO1 := Lib.hid ho1; have HB1 := Lib.hid hb1
  clear ho1 hb1
  go_wp2_with fail
  have hl : M.blob bs = (List.map (·.2) (twoRows ⟨some ⟨g, 0, none⟩, 8, 8⟩ ⟨A, n, c⟩ (M.num (n : Int)) bs)).flatten := by
    simp [M.blob, HLEN.out]
  refine (join_any (some ⟨w1.heap.size, 0, none⟩) 2 2 (rowsOf (twoRows ⟨some ⟨g, 0, none⟩, 8, 8⟩ ⟨A, n, c⟩ (M.num (n : Int)) bs)) (bytesAt (twoRows ⟨some ⟨g, 0, none⟩, 8, 8⟩ ⟨A, n, c⟩ (M.num (n : Int)) bs)) _ (parts_of (twoRows ⟨some ⟨g, 0, none⟩, 8, 8⟩ ⟨A, n, c⟩ (M.num (n : Int)) bs) rfl ?_) (by omega) ?_).mono ?_
  · intro p hp
    simp only [List.mem_cons, List.mem_nil_iff, or_false] at hp
    rcases hp with rfl | rfl
    · exact RowRd.of_row HO1.out
    · exact HR.out.below HB1.out
  · rw [show (2 : Nat) = (twoRows ⟨some ⟨g, 0, none⟩, 8, 8⟩ ⟨A, n, c⟩ (M.num (n : Int)) bs).length from rfl, joined_all, ← hl, M.blob_length, HLEN.out]; omega
  · rintro e w2 ⟨A2, N, c2, rfl, hN, ho2, hb2⟩
    rw [show (2 : Nat) = (twoRows ⟨some ⟨g, 0, none⟩, 8, 8⟩ ⟨A, n, c⟩ (M.num (n : Int)) bs).length from rfl, joined_all, ← hl] at hN ho2
    rw [M.blob_length, HLEN.out] at hN
    obtain ⟨g2, c3, e, _, _⟩ := ho2.form (by omega)
    simp only [Value.slice.injEq, true_and] at e
    obtain ⟨rfl, rfl⟩ := e
    have ho3 := row_weaken ho2 (base' := w.heap.size) (by have := HB1.out.size; simp; omega)
    have hb3 := (HB1.out.alloc HB1.out.size (.cells #[.slice (some ⟨g, 0, none⟩) 8 8, .slice A n c] 37)).trans (hb2.mono (by have := HB1.out.size; simp; omega))
    have HN := Lib.hid hN; have HO3 := Lib.hid ho3; have HB3 := Lib.hid hb3
    clear hl hN ho2 ho3 hb2 hb3
    go_wp2
    go_ret
    exact ⟨g2, N, c2, rfl, HN.out, HO3.out, HB3.out⟩

set_option maxHeartbeats 1000000 in
set_option maxRecDepth 100000 in
theorem rbytes_any (A : Option Addr) (n c : Nat) (bs : List (BitVec 8)) (w : World) (hr : RowRd w ⟨A, n, c⟩ bs) (hn2 : n ≤ 10000000000000) :
    Calls Tryz.prog 95 #[.slice A n c] w fun e w' => ∃ g N c', e = .returned (.slice (some ⟨g, 0, none⟩) N c') ∧ N = 8 + n ∧ w'.ownsRow w.heap.size 5 1 (.slice (some ⟨g, 0, none⟩) N c') N (bv (M.blob bs)) ∧ Below w.heap.size w w' := by
  obtain ⟨i0, hi, hz0, hz1, hz2⟩ := info_parts infoByte
  have hlen : bs.length = n := hr.len
  have hl2 : (bv bs).length = n * 1 := by rw [bv_length]; omega
  have hnn : A = none → n = 0 ∧ c = 0 := fun h => ⟨by
    have hrd : Rd w A bs := hr.rd
    rw [h] at hrd
    rw [hrd.empty] at hlen; exact hlen.symm, hr.none h⟩
  have HR := Lib.hid hr; have HLEN := Lib.hid hlen; have HL2 := Lib.hid hl2; have HNN := Lib.hid hnn
  clear hr hlen hl2 hnn
  go_enter Tryz.func95, Tryz.ntmps95
  go_wp2_with fail
  refine (rnum_any (n : Int) w).mono ?_
  rintro e w1 ⟨g, c1, rfl, ho1, hb1⟩
  have hcs := (HR.out.below hb1).rd.cells
  have hs1 := hb1.size
  have HO1 := Lib.hid ho1; have HB1 := Lib.hid hb1; have HCS := Lib.hid hcs
  clear ho1 hb1 hcs
  go_wp2_with (at_builtin; refine wpList_append_any _ rfl _ _ 37 rfl w.heap.size 5 i0 (.int .u8 0) 1 1 Tryz.underlying37 hi hz0 hz1 hz2 rfl (by decide) _ 8 (bv (M.num (n : Int))) rfl HO1.out A n c (bv bs) rfl HNN.out HL2.out HCS.out (bv_one _) (by unfold maxLen; omega) (by omega) hs1 ?_; intro v3 w3 hown3 hgrow3; rw [← bv_append] at hown3; obtain ⟨g3, d3, rfl, _, _⟩ := hown3.form (by omega); have hb3 : Below w.heap.size w w3 := HB1.out.grown hgrow3 hs1 (fun k hk => (HO1.out.lt k hk).1); have HB3 := Lib.hid hb3; have HO3 := Lib.hid hown3; clear hb3 hown3 hgrow3)
  go_ret
  exact ⟨g3, 8 + n, d3, rfl, rfl, by rw [M.blob, HLEN.out]; exact HO3.out, HB3.out⟩
end Go.Proofs.YtfpjmeknjhhakaaGreat.K

/- The contracts of barbicankit's functions on entries: SameEntry, LentEntry, KeptEntry; and OverBytes, CopyBytes. -/
namespace Go.Proofs.YtfpjmeknjhhakaaGreat.K
open Go Go.RowKit

set_option maxHeartbeats 1000000 in
set_option maxRecDepth 100000 in
theorem SameEntry_eq (t v s : Int) (K : BitVec 8) (G : Bool) (A B : Option Addr) (n c m d : Nat) (bs : List (BitVec 8)) (w : World) (hx : RowRd w ⟨A, n, c⟩ bs) (hy : RowRd w ⟨B, m, d⟩ bs) (hn2 : n ≤ 4611686018427387904) :
    Calls Tryz.prog 71 #[.agg #[.int .i64 t, B8 K, .int .i64 v, .int .i64 s, .bool G, .slice A n c], .agg #[.int .i64 t, B8 K, .int .i64 v, .int .i64 s, .bool G, .slice B m d]] w fun e w' => e = .returned (.bool true) ∧ Below w.heap.size w w' := by
  have hb : Below w.heap.size w ((w.alloc (.cells #[.int .i64 t, B8 K, .int .i64 v, .int .i64 s, .bool G, .slice A n c] 62)).alloc (.cells #[.int .i64 t, B8 K, .int .i64 v, .int .i64 s, .bool G, .slice B m d] 62)) := ((Below.refl _ _).alloc (Nat.le_refl _) _).alloc (by simp) _
  have hx2 := hx.below hb
  have hy2 := hy.below hb
  have hnm : m ≤ 4611686018427387904 := by have := hx.len; have := hy.len; simp at *; omega
  have HX := Lib.hid hx2; have HY := Lib.hid hy2; have HB := Lib.hid hb
  clear hx hy hx2 hy2 hb
  go_enter Tryz.func71, Tryz.ntmps71
  go_wp2_with fail
  refine (SameBytes_any A B n m c d bs bs _ HX.out.rd HY.out.rd HX.out.len HY.out.len hn2 hnm).mono ?_
  rintro e w1 ⟨rfl, q, rfl⟩
  rw [decide_eq_true rfl]
  have HB2 := Lib.hid (below_drewN HB.out q)
  generalize World.drewN _ q = w2 at *
  go_wp2
  go_ret
  exact ⟨rfl, HB2.out⟩

def entL (t v s : Int) (K : BitVec 8) (G : Bool) (A : Option Addr) (n c : Nat) : List Value := [.int .i64 t, B8 K, .int .i64 v, .int .i64 s, .bool G, .slice A n c]
theorem infoEntL (t v s : Int) (K : BitVec 8) (G : Bool) (A : Option Addr) (n c : Nat) : (Tryz.prog.info? 62).map (·.size) = some (entL t v s K G A n c).toArray.size := by
  rw [show (entL t v s K G A n c).toArray.size = 6 from rfl]; kernel_rfl
theorem entL_one (t v s : Int) (K : BitVec 8) (G : Bool) (A : Option Addr) (n c : Nat) : (entL t v s K G A n c).toArray.all (·.oneCell') = true := by
  rw [Array.all_eq_true_iff_forall_mem]
  intro x hx
  simp only [entL, List.mem_toArray, List.mem_cons, List.mem_nil_iff, or_false] at hx
  rcases hx with rfl | rfl | rfl | rfl | rfl | rfl <;> rfl
theorem entL_size (t v s : Int) (K : BitVec 8) (G : Bool) (A : Option Addr) (n c : Nat) (t' v' s' : Int) (K' : BitVec 8) (G' : Bool) (A' : Option Addr) (n' c' : Nat) : (entL t v s K G A n c).toArray.size = (entL t' v' s' K' G' A' n' c').toArray.size := rfl
theorem infoEnt : (Tryz.prog.info? 62).map (·.size) = some 6 := by kernel_rfl
set_option maxHeartbeats 1000000 in
set_option maxRecDepth 100000 in
theorem LentEntry_any (t v s : Int) (K : BitVec 8) (G : Bool) (A : Option Addr) (n c : Nat) (bs : List (BitVec 8)) (w : World) (hx : RowRd w ⟨A, n, c⟩ bs) (hn2 : n ≤ 140737488000000) :
    Calls Tryz.prog 68 #[.agg #[.int .i64 t, B8 K, .int .i64 v, .int .i64 s, .bool G, .slice A n c]] w fun e w' => ∃ g, e = .returned (.agg #[.int .i64 t, B8 K, .int .i64 v, .int .i64 s, .bool G, .slice (some ⟨g, 0, none⟩) n (n + 12)]) ∧ w.heap.size ≤ g ∧
      w'.heap[g]? = some (.cells (bv (bs ++ marks 1 0 12)).toArray 5 (0, 0)) ∧ Below w.heap.size w w' := by
  have HX := Lib.hid hx
  clear hx
  go_enter Tryz.func68, Tryz.ntmps68
  go_wp2_with fail
  have hb0 : Below w.heap.size w ((w.alloc (.cells (entL t v s K G A n c).toArray 62)).alloc (.cells (entL 0 0 0 0#8 false none 0 0).toArray 62)) := ((Below.refl _ _).alloc (Nat.le_refl _) _).alloc (by simp) _
  have he0 := heap_alloc2_old w (.cells (entL t v s K G A n c).toArray 62) (.cells (entL 0 0 0 0#8 false none 0 0).toArray 62)
  have he1 := heap_alloc2_new w (.cells (entL t v s K G A n c).toArray 62) (.cells (entL 0 0 0 0#8 false none 0 0).toArray 62)
  have hs0 : ((w.alloc (.cells (entL t v s K G A n c).toArray 62)).alloc (.cells (entL 0 0 0 0#8 false none 0 0).toArray 62)).heap.size = w.heap.size + 2 := by simp
  have hr0 := HX.out.below hb0
  refine (LentBytes_any A n c bs _ hr0.rd hr0.len hn2 hr0.none).mono ?_
  rintro e w1 ⟨g, rfl, hg, hblk, hb1⟩
  have hg2 : w.heap.size + 2 ≤ g := by rw [← hs0]; exact hg
  have ha : w1.heap[w.heap.size]? = some (.cells (entL t v s K G A n c).toArray 62 (0, 0)) := (hb1.block _ (by rw [hs0]; omega)).trans he0
  have hc : w1.heap[w.heap.size + 1]? = some (.cells (entL 0 0 0 0#8 false none 0 0).toArray 62 (0, 0)) := (hb1.block _ (by rw [hs0]; omega)).trans he1
  have hb := hb0.trans (hb1.mono (by rw [hs0]; omega))
  have c5 : w1.cell? ⟨w.heap.size, 5, none⟩ = some (.slice A n c) := block_cell ha rfl
  have f5 : w1.frozen? ⟨w.heap.size, 5, none⟩ = false := frozen_of_row w1 _ 5 _ _ ha
  have ha2 : (w1.setCell ⟨w.heap.size, 5, none⟩ (.slice (some ⟨g, 0, none⟩) n (n + 12))).heap[w.heap.size]? = some (.cells (entL t v s K G (some ⟨g, 0, none⟩) n (n + 12)).toArray 62 (0, 0)) := block_set ha 5 _
  have hc2 := (heap_setCell_other w1 ⟨w.heap.size, 5, none⟩ (w.heap.size + 1) (.slice (some ⟨g, 0, none⟩) n (n + 12)) (by simp)).trans hc
  have hbk2 := (heap_setCell_other w1 ⟨w.heap.size, 5, none⟩ g (.slice (some ⟨g, 0, none⟩) n (n + 12)) (by simp; omega)).trans hblk
  have hb2 := hb.setCell (p := ⟨w.heap.size, 5, none⟩) (Nat.le_refl _) (.slice (some ⟨g, 0, none⟩) n (n + 12))
  have HA2 := Lib.hid ha2; have HC2 := Lib.hid hc2; have HBK2 := Lib.hid hbk2; have HB2 := Lib.hid hb2
  clear hb0 he0 he1 hs0 hr0 hg hblk hb1 ha hc hb ha2 hc2 hbk2 hb2
  go_wp2_with (first
    | (with_reducible refine wpList_store_one rfl 37 (.tmp 6) (.tmp 5) rfl ⟨w.heap.size, 5, none⟩ (.slice (some ⟨g, 0, none⟩) n (n + 12)) _ rfl rfl rfl (by kernel_rfl) c5 f5 ?_)
    | (with_reducible refine wpList_load_row rfl 62 (.tmp 1) rfl w.heap.size rfl 62 _ (0, 0) _ HA2.out Tryz.underlying62 rfl (infoEntL _ _ _ _ _ _ _ _) ?_)
    | (with_reducible refine wpList_store_row rfl 62 (.tmp 2) (.tmp 7) rfl (w.heap.size + 1) (entL t v s K G (some ⟨g, 0, none⟩) n (n + 12)).toArray rfl rfl 62 _ HC2.out (infoEntL t v s K G (some ⟨g, 0, none⟩) n (n + 12)) (entL_size _ _ _ _ _ _ _ _ _ _ _ _ _ _ _ _) (entL_one _ _ _ _ _ _ _ _) ?_))
  refine bodyPost_ret (v := .agg #[.int .i64 t, B8 K, .int .i64 v, .int .i64 s, .bool G, .slice (some ⟨g, 0, none⟩) n (n + 12)]) ?_ ?_ ?_
  · exact results_cell_row rfl _ _ (w.heap.size + 1) 62 _ (0, 0) _ rfl (setRow_heap _ _ _ _ _ _ HC2.out) Tryz.underlying62 rfl (infoEntL t v s K G (some ⟨g, 0, none⟩) n (n + 12))
  · rfl
  · exact ⟨g, rfl, by omega, (setRow_other _ _ _ _ (by omega)).trans HBK2.out, below_setRow HB2.out (by omega) _⟩

set_option maxHeartbeats 1000000 in
set_option maxRecDepth 100000 in
theorem KeptEntry_any (t v s : Int) (K : BitVec 8) (G : Bool) (g : Nat) (A : Option Addr) (n c : Nat) (bs : List (BitVec 8)) (w : World) (hg : w.heap[g]? = some (.cells (bv (bs ++ marks 1 0 12)).toArray 5 (0, 0))) (hx : RowRd w ⟨A, n, c⟩ bs) (hn2 : n ≤ 140737488000000) :
    Calls Tryz.prog 70 #[.agg #[.int .i64 t, B8 K, .int .i64 v, .int .i64 s, .bool G, .slice (some ⟨g, 0, none⟩) n (n + 12)], .agg #[.int .i64 t, B8 K, .int .i64 v, .int .i64 s, .bool G, .slice A n c]] w fun e w' => e = .returned (.bool true) ∧ Below w.heap.size w w' := by
  have hlt : g < w.heap.size := (Array.getElem?_eq_some_iff.1 hg).1
  have hb : Below w.heap.size w ((w.alloc (.cells #[.int .i64 t, B8 K, .int .i64 v, .int .i64 s, .bool G, .slice (some ⟨g, 0, none⟩) n (n + 12)] 62)).alloc (.cells #[.int .i64 t, B8 K, .int .i64 v, .int .i64 s, .bool G, .slice A n c] 62)) := ((Below.refl _ _).alloc (Nat.le_refl _) _).alloc (by simp) _
  have hx2 := hx.below hb
  have hg2 := (hb.block g hlt).trans hg
  have hlen : bs.length = n := hx.len
  have hx3 : RowRd ((w.alloc (.cells #[.int .i64 t, B8 K, .int .i64 v, .int .i64 s, .bool G, .slice (some ⟨g, 0, none⟩) n (n + 12)] 62)).alloc (.cells #[.int .i64 t, B8 K, .int .i64 v, .int .i64 s, .bool G, .slice A n c] 62)) ⟨some ⟨g, 0, none⟩, n, n + 12⟩ bs :=
    ⟨Rd.of_block hg2 (by rw [List.toList_toArray, bv_append, List.take_left' (bv_length bs)]), hlen, fun h => by cases h⟩
  have HX2 := Lib.hid hx2; have HX3 := Lib.hid hx3; have HG2 := Lib.hid hg2; have HB := Lib.hid hb
  clear hx hg hb hx2 hx3 hg2 hlen
  go_enter Tryz.func70, Tryz.ntmps70
  go_wp2_with fail
  refine (SameEntry_eq t v s K G (some ⟨g, 0, none⟩) A n (n + 12) n c bs _ HX3.out HX2.out (by omega)).mono ?_
  rintro e w1 ⟨rfl, hb1⟩
  have d5 : w1.cell? ⟨w.heap.size, 5, none⟩ = some (.slice (some ⟨g, 0, none⟩) n (n + 12)) := (hb1.cell (p := ⟨w.heap.size, 5, none⟩) (by simp; omega)).trans (block_cell (xs := entL t v s K G (some ⟨g, 0, none⟩) n (n + 12)) (heap_alloc2_old w _ _) rfl)
  have e5 : w1.cell? ⟨w.heap.size + 1, 5, none⟩ = some (.slice A n c) := (hb1.cell (p := ⟨w.heap.size + 1, 5, none⟩) (by simp)).trans (block_cell (xs := entL t v s K G A n c) (heap_alloc2_new w _ _) rfl)
  have HB1 := Lib.hid (HB.out.trans (hb1.mono (by simp; omega)))
  have HX4 := Lib.hid (HX2.out.below hb1)
  have HG4 := Lib.hid ((hb1.block g (by simp; omega)).trans HG2.out)
  clear hb1
  go_wp2_with fail
  refine (KeptBytes_any g A n c bs _ HG4.out HX4.out.rd HX4.out.len hn2).mono ?_
  rintro e w2 ⟨rfl, q, rfl⟩
  have HB2 := Lib.hid (below_drewN HB1.out q)
  clear d5 e5
  generalize World.drewN _ q = w2 at *
  go_wp2
  go_ret
  exact ⟨rfl, HB2.out⟩

end Go.Proofs.YtfpjmeknjhhakaaGreat.K

/- A bank: slices that the call owns, no two in one block, over a world of the past of which nothing has changed. Appends and calls turn one bank into the next, in whatever order they come. Plain lemmas over any program. -/
namespace Go.Proofs.YtfpjmeknjhhakaaGreat.K
open Go Go.RowKit

/-- this world, seen from an elder one -/
abbrev Since (w0 w : World) : Prop := Below w0.heap.size w0 w
theorem Since.add {w0 w w' : World} (h : Since w0 w) (hb : Below w.heap.size w w') : Since w0 w' := h.trans (hb.mono h.size)
theorem Since.alloc {w0 w : World} (h : Since w0 w) (o : Obj) : Since w0 (w.alloc o) := Below.alloc h h.size o
theorem Since.drew {w0 w : World} (h : Since w0 w) : Since w0 w.drew := ⟨h.os, h.tape, h.output, h.size, h.block⟩
theorem Since.drewN {w0 w : World} (h : Since w0 w) (q : Nat) : Since w0 (w.drewN q) := ⟨h.os, h.tape, h.output, h.size, h.block⟩
theorem Since.row {w0 w : World} (h : Since w0 w) {x : Rw} {bs : List (BitVec 8)} (hr : RowRd w0 x bs) : RowRd w x bs := hr.below h
theorem Since.at {w0 w : World} (h : Since w0 w) {g : Nat} {o : Obj} (hg : w0.heap[g]? = some o) : w.heap[g]? = some o := (h.block g (Array.getElem?_eq_some_iff.1 hg).1).trans hg
theorem Since.set {w0 w : World} (h : Since w0 w) {X : Nat} (hX : w0.heap.size ≤ X) (i : Nat) (v : Value) : Since w0 (w.setCell ⟨X, i, none⟩ v) := Below.setCell (p := ⟨X, i, none⟩) h hX v

structure Acc where
  v : Value
  n : Nat
  e : TypeId
  size : Nat
  xs : List Value
/-- no two in one block -/
def Apartness (p q : Acc) : Prop := ∀ b, p.v.ownBlock = some b → q.v.ownBlock ≠ some b
theorem Apartness.symm {p q : Acc} (h : Apartness p q) : Apartness q p := fun b hq hp => h b hp hq
structure Bank (w0 w : World) (L : List Acc) : Prop where
  since : Since w0 w
  own : ∀ p ∈ L, w.ownsRow w0.heap.size p.e p.size p.v p.n p.xs
  sep : L.Pairwise Apartness
theorem Bank.nil {w0 w : World} (h : Since w0 w) : Bank w0 w [] := ⟨h, (fun _ h => by cases h), .nil⟩
theorem Bank.lt {w0 w : World} {L : List Acc} (h : Bank w0 w L) {p : Acc} (hp : p ∈ L) {b : Nat} (hb : p.v.ownBlock = some b) : w0.heap.size ≤ b ∧ b < w.heap.size := (h.own p hp).lt b hb
theorem Bank.call {w0 w w' : World} {L : List Acc} (h : Bank w0 w L) (hb : Below w.heap.size w w') : Bank w0 w' L :=
  ⟨h.since.add hb, fun p hp => (h.own p hp).kept (row := none) ⟨hb.os, hb.tape, hb.output, hb.size, fun k hk _ => hb.block k hk⟩ (by cases h : p.v.ownBlock <;> simp), h.sep⟩
theorem Bank.drew {w0 w : World} {L : List Acc} (h : Bank w0 w L) : Bank w0 w.drew L := ⟨h.since.drew, h.own, h.sep⟩
theorem Bank.drewN {w0 w : World} {L : List Acc} (h : Bank w0 w L) (q : Nat) : Bank w0 (w.drewN q) L := ⟨h.since.drewN q, h.own, h.sep⟩
theorem Bank.alloc {w0 w : World} {L : List Acc} (h : Bank w0 w L) (o : Obj) : Bank w0 (w.alloc o) L := h.call ((Below.refl _ _).alloc (Nat.le_refl _) o)
theorem row_base {w : World} {B B' : Nat} {e : TypeId} {size n : Nat} {v : Value} {xs : List Value} (h : w.ownsRow B e size v n xs) (hb : B' ≤ B) : w.ownsRow B' e size v n xs :=
  ⟨h.1, h.2.elim .inl fun ⟨a, b, cur, hv, hbb, r⟩ => .inr ⟨a, b, cur, hv, Nat.le_trans hb hbb, r⟩⟩
/-- a row that was just made -/
theorem Bank.made {w0 w w' : World} {L : List Acc} (h : Bank w0 w L) (hb : Below w.heap.size w w') {e : TypeId} {size n : Nat} {v : Value} {xs : List Value} (ho : w'.ownsRow w.heap.size e size v n xs) : Bank w0 w' (⟨v, n, e, size, xs⟩ :: L) := by
  have h' := h.call hb
  refine ⟨h'.since, fun p hp => ?_, .cons (fun q hq b hb1 hb2 => ?_) h'.sep⟩
  · rcases List.mem_cons.1 hp with rfl | hp
    · exact row_base ho h.since.size
    · exact h'.own p hp
  · have h1 := (ho.lt b hb1).1
    have h2 := (h.lt hq hb2).2
    omega
theorem Bank.madeB {w0 w w' : World} {L : List Acc} (h : Bank w0 w L) (hb : Below w.heap.size w w') {e : TypeId} {A : Option Addr} {n c : Nat} {bs : List (BitVec 8)} (ho : w'.ownsRow w.heap.size e 1 (.slice A n c) n (bv bs)) : Bank w0 w' (⟨.slice A n c, n, e, 1, bv bs⟩ :: L) := h.made hb ho
/-- a literal row -/
theorem Bank.lit0 {w0 w : World} {L : List Acc} (h : Bank w0 w L) (e : TypeId) : Bank w0 (w.alloc (.cells #[] e)) (⟨.slice (some ⟨w.heap.size, 0, none⟩) 0 0, 0, e, 1, bv []⟩ :: L) :=
  h.made ((Below.refl _ _).alloc (Nat.le_refl _) _) (own_lit0 (Nat.le_refl _))
/-- a literal row of whatever -/
theorem Bank.litV {w0 w : World} {L : List Acc} (h : Bank w0 w L) (cs : Array Value) (e : TypeId) (hs : cs.size ≤ 1000000) : Bank w0 (w.alloc (.cells cs e)) (⟨.slice (some ⟨w.heap.size, 0, Option.none⟩) cs.size cs.size, cs.size, e, 1, cs.toList⟩ :: L) :=
  h.made ((Below.refl _ _).alloc (Nat.le_refl _) _) (World.ownsRow_lit w cs cs.size (Nat.le_refl _) (by unfold maxLen; omega) (by omega))
/-- the nil slice -/
theorem Bank.none {w0 w : World} {L : List Acc} (h : Bank w0 w L) (e : TypeId) (size : Nat) : Bank w0 w (⟨.slice none 0 0, 0, e, size, []⟩ :: L) :=
  h.made (Below.refl _ _) (World.ownsRow_nil _ _ _ _)
theorem Bank.drop {w0 w : World} {L : List Acc} {p : Acc} (h : Bank w0 w (p :: L)) : Bank w0 w L := ⟨h.since, fun q hq => h.own q (List.mem_cons_of_mem _ hq), (List.pairwise_cons.1 h.sep).2⟩
theorem Bank.at {w0 w : World} {L : List Acc} (h : Bank w0 w L) (i : Nat) {p : Acc} (hi : L[i]? = some p) : w.ownsRow w0.heap.size p.e p.size p.v p.n p.xs := h.own p (List.mem_of_getElem? hi)
theorem Bank.row {w0 w : World} {L : List Acc} (h : Bank w0 w L) (i : Nat) {A : Option Addr} {n c : Nat} {e : TypeId} {bs : List (BitVec 8)} (hi : L[i]? = some ⟨.slice A n c, n, e, 1, bv bs⟩) : RowRd w ⟨A, n, c⟩ bs := RowRd.of_row (h.at i hi)
theorem Bank.sepAt {w0 w : World} {L : List Acc} (h : Bank w0 w L) {i j : Nat} {p q : Acc} (hi : L[i]? = some p) (hj : L[j]? = some q) (hij : i ≠ j) : Apartness p q := by
  obtain ⟨hi1, rfl⟩ := List.getElem?_eq_some_iff.1 hi
  obtain ⟨hj1, rfl⟩ := List.getElem?_eq_some_iff.1 hj
  rcases Nat.lt_or_gt_of_ne hij with h1 | h1
  · exact List.pairwise_iff_getElem.1 h.sep i j hi1 hj1 h1
  · exact (List.pairwise_iff_getElem.1 h.sep j i hj1 hi1 h1).symm
/-- one of them was written: its block alone has changed, or it lies in a new one -/
theorem Bank.putG {w0 w w' : World} {L : List Acc} (h : Bank w0 w L) (i : Nat) {p p' : Acc} (hi : L[i]? = some p) (ho : w'.ownsRow w0.heap.size p'.e p'.size p'.v p'.n p'.xs) (hg : w.grownBy w' p.v.ownBlock) (hb : p'.v.ownBlock = p.v.ownBlock ∨ ∃ b, p'.v.ownBlock = some b ∧ w.heap.size ≤ b) : Bank w0 w' (L.set i p') := by
  have hp : p ∈ L := List.mem_of_getElem? hi
  have hlen : i < L.length := (List.getElem?_eq_some_iff.1 hi).1
  have hother : ∀ j q, L[j]? = some q → i ≠ j → p.v.ownBlock = Option.none ∨ ∀ b, p.v.ownBlock = some b → q.v.ownBlock ≠ some b := fun j q hj hij => .inr (h.sepAt hi hj hij)
  have hsep' : ∀ j q, L[j]? = some q → i ≠ j → Apartness p' q := by
    intro j q hj hij b hb1 hb2
    have hlt := (h.lt (List.mem_of_getElem? hj) hb2).2
    rcases hb with e | ⟨b', e, hle⟩
    · exact h.sepAt hi hj hij b (e ▸ hb1) hb2
    · rw [e] at hb1; cases hb1; omega
  refine ⟨(h.since).grown hg h.since.size (fun k hk => (h.lt hp hk).1), fun q hq => ?_, List.pairwise_iff_getElem.2 fun j k hj hk hjk => ?_⟩
  · obtain ⟨j, hj, rfl⟩ := List.mem_iff_getElem.1 hq
    rw [List.length_set] at hj
    by_cases e : i = j
    · subst e; rw [List.getElem_set_self]; exact ho
    · rw [List.getElem_set_ne e]
      refine (h.own L[j] (List.getElem_mem hj)).kept hg ?_
      cases hq2 : (L[j]).v.ownBlock with
      | none => exact .inl rfl
      | some b => exact .inr fun e2 => h.sepAt hi (List.getElem?_eq_getElem hj) e b e2.symm hq2
  · rw [List.length_set] at hj hk
    by_cases e1 : i = j
    · subst e1
      rw [List.getElem_set_self, List.getElem_set_ne (by omega)]
      exact hsep' k _ (List.getElem?_eq_getElem hk) (by omega)
    · rw [List.getElem_set_ne e1]
      by_cases e2 : i = k
      · subst e2
        rw [List.getElem_set_self]
        exact (hsep' j _ (List.getElem?_eq_getElem hj) (by omega)).symm
      · rw [List.getElem_set_ne e2]
        exact List.pairwise_iff_getElem.1 h.sep j k hj hk hjk

theorem Bank.put {w0 w w' : World} {L : List Acc} (h : Bank w0 w L) (i : Nat) {p p' : Acc} (hi : L[i]? = some p) (ho : w'.ownsRow w0.heap.size p'.e p'.size p'.v p'.n p'.xs) (hg : w.grownBy w' p.v.ownBlock) (hb : p'.v.ownBlock = p.v.ownBlock ∨ p'.v.ownBlock = some w.heap.size) : Bank w0 w' (L.set i p') :=
  h.putG i hi ho hg (hb.imp (fun h => h) fun e => ⟨_, e, Nat.le_refl _⟩)

section
variable {P : Program} {w0 w : World} {L : List Acc}
theorem run_append_bank (h : Bank w0 w L) (t ty e : TypeId) (i : TypeInfo) (z : Value) (size bytes : Nat) (ht : P.underlying t = some (.slice e)) (hi : P.info? e = some i) (hz : i.zero = some z)
    (hsize : i.size = size) (hby : i.bytes = bytes) (hzs : z.cells.size = size) (hsz : 0 < size) (k : Nat) (A : Option Addr) (n cap : Nat) (xs : List Value) (hk : L[k]? = some ⟨.slice A n cap, n, e, size, xs⟩)
    (ao : Option Addr) (m c : Nat) (news : List Value) (hnone : ao = Option.none → m = 0 ∧ c = 0) (hl : news.length = m * size) (hnews : ∀ ad, ao = some ad → ∀ j u, news[j]? = some u → w.cell? (ad.add j) = some u) (h1 : ∀ u ∈ news, u.oneCell' = true)
    (h63 : n + m ≤ maxLen) (hbytes : (n + m) * bytes ≤ 140737488355328) :
    ∃ A' c' w', (Builtin.append_ #[t, t] ty #[.slice A n cap, .slice ao m c]).run P w = .ok (.slice A' (n + m) c') w' ∧ Bank w0 w' (L.set k ⟨.slice A' (n + m) c', n + m, e, size, xs ++ news⟩) := by
  have hown := h.at k hk
  cases ao with
  | none =>
    obtain ⟨rfl, rfl⟩ := hnone rfl
    have hn : news = [] := List.eq_nil_of_length_eq_zero (by simpa using hl)
    subst hn
    refine ⟨A, cap, w, run_append_owned_none (P := P) w w0.heap.size t ty e i size ht hi _ n xs hown, ?_⟩
    rw [List.append_nil]
    exact h.put k hk hown (World.grownBy.refl _ _) (.inl rfl)
  | some ad =>
    obtain ⟨v', w', hr, o2, o3, _, o5⟩ := run_append_own_at (P := P) w w0.heap.size t ty e i z size bytes ht hi hz hsize hby hzs hsz _ n xs hown ad m c news hl (hnews ad rfl) h1 h63 hbytes h.since.size
    have hv : ∃ A' c', v' = .slice A' (n + m) c' := by
      rcases o2.2 with ⟨h0, h2⟩ | ⟨g, cp, cur, h2, _⟩
      · have : n + m = 0 := by
          have := o2.1; rw [h2] at this; simp at this; rcases this with h3 | h3 <;> omega
        exact ⟨_, _, by rw [this]; exact h0⟩
      · exact ⟨_, _, h2⟩
    obtain ⟨A', c', rfl⟩ := hv
    exact ⟨A', c', w', hr, h.put k hk o2 o3 o5⟩

theorem wp_append_bank {o : Oper} {a : Act} {K : Act → World → Prop} {Q : Exit → Act → World → Prop} (h : Bank w0 w L) (s y : Operand) (t : TypeId)
    (ho : o.op = .call { callee := .builtin .append, args := #[s, y], argTypes := #[t, t] })
    (e : TypeId) (i : TypeInfo) (z : Value) (size bytes : Nat) (ht : P.underlying t = some (.slice e)) (hi : P.info? e = some i) (hz : i.zero = some z)
    (hsize : i.size = size) (hby : i.bytes = bytes) (hzs : z.cells.size = size) (hsz : 0 < size) (k : Nat) (A : Option Addr) (n cap : Nat) (xs : List Value) (hs : a.eval s = .slice A n cap) (hk : L[k]? = some ⟨.slice A n cap, n, e, size, xs⟩)
    (ao : Option Addr) (m c : Nat) (news : List Value) (hx : a.eval y = .slice ao m c) (hnone : ao = Option.none → m = 0 ∧ c = 0) (hl : news.length = m * size) (hnews : ∀ ad, ao = some ad → ∀ j u, news[j]? = some u → w.cell? (ad.add j) = some u) (h1 : ∀ u ∈ news, u.oneCell' = true)
    (h63 : n + m ≤ maxLen) (hbytes : (n + m) * bytes ≤ 140737488355328)
    (hK : ∀ A' c' w', Bank w0 w' (L.set k ⟨.slice A' (n + m) c', n + m, e, size, xs ++ news⟩) → K (a.put o.dst (.slice A' (n + m) c')) w') : o.wp P a w K Q := by
  obtain ⟨A', c', w', hr, h2⟩ := run_append_bank (P := P) h t o.type e i z size bytes ht hi hz hsize hby hzs hsz k A n cap xs hk ao m c news hnone hl hnews h1 h63 hbytes
  unfold Oper.wp execOp
  simp only [ho, resolve, invoke, builtin, Sem.run_bind, Sem.run_pure, Result.andThen_ok, List.map_toArray, List.map_cons, List.map_nil, hs, hx, hr]
  exact hK A' c' w' h2
/-- the same, with what the append changed -/
theorem run_append_bankG (h : Bank w0 w L) (t ty e : TypeId) (i : TypeInfo) (z : Value) (size bytes : Nat) (ht : P.underlying t = some (.slice e)) (hi : P.info? e = some i) (hz : i.zero = some z)
    (hsize : i.size = size) (hby : i.bytes = bytes) (hzs : z.cells.size = size) (hsz : 0 < size) (k : Nat) (A : Option Addr) (n cap : Nat) (xs : List Value) (hk : L[k]? = some ⟨.slice A n cap, n, e, size, xs⟩)
    (ad : Addr) (m c : Nat) (news : List Value) (hl : news.length = m * size) (hnews : ∀ j u, news[j]? = some u → w.cell? (ad.add j) = some u) (h1 : ∀ u ∈ news, u.oneCell' = true)
    (h63 : n + m ≤ maxLen) (hbytes : (n + m) * bytes ≤ 140737488355328) :
    ∃ A' c' w', (Builtin.append_ #[t, t] ty #[.slice A n cap, .slice (some ad) m c]).run P w = .ok (.slice A' (n + m) c') w' ∧ Bank w0 w' (L.set k ⟨.slice A' (n + m) c', n + m, e, size, xs ++ news⟩) ∧
      w.grownBy w' (Value.slice A n cap).ownBlock ∧ ((Value.slice A' (n + m) c').ownBlock = (Value.slice A n cap).ownBlock ∨ (Value.slice A' (n + m) c').ownBlock = some w.heap.size) := by
  have hown := h.at k hk
  obtain ⟨v', w', hr, o2, o3, _, o5⟩ := run_append_own_at (P := P) w w0.heap.size t ty e i z size bytes ht hi hz hsize hby hzs hsz _ n xs hown ad m c news hl hnews h1 h63 hbytes h.since.size
  have hv : ∃ A' c', v' = .slice A' (n + m) c' := by
    rcases o2.2 with ⟨h0, h2⟩ | ⟨g, cp, cur, h2, _⟩
    · have : n + m = 0 := by
        have := o2.1; rw [h2] at this; simp at this; rcases this with h3 | h3 <;> omega
      exact ⟨_, _, by rw [this]; exact h0⟩
    · exact ⟨_, _, h2⟩
  obtain ⟨A', c', rfl⟩ := hv
  exact ⟨A', c', w', hr, h.put k hk o2 o3 o5, o3, o5⟩
theorem wpList_append_bankG {ops : Array Oper} {rest : List Oper} {o : Oper} {a : Act} {Q : Exit → Act → World → Prop} (h : Bank w0 w L) (hgd : o.guard = Option.none) (s y : Operand) (t : TypeId)
    (ho : o.op = .call { callee := .builtin .append, args := #[s, y], argTypes := #[t, t] })
    (e : TypeId) (z : Value) (size bytes : Nat) (hz : (P.info? e).map (fun i => (i.zero, i.size, i.bytes)) = some (some z, size, bytes)) (ht : P.underlying t = some (.slice e)) (hzs : z.cells.size = size) (hsz : 0 < size)
    (k : Nat) (A : Option Addr) (n cap : Nat) (xs : List Value) (hs : a.eval s = .slice A n cap) (hk : L[k]? = some ⟨.slice A n cap, n, e, size, xs⟩)
    (ad : Addr) (m c : Nat) (news : List Value) (hx : a.eval y = .slice (some ad) m c) (hl : news.length = m * size) (hnews : ∀ j u, news[j]? = some u → w.cell? (ad.add j) = some u) (h1 : ∀ u ∈ news, u.oneCell' = true)
    (h63 : n + m ≤ maxLen) (hbytes : (n + m) * bytes ≤ 140737488355328)
    (hK : ∀ A' n' c' w', n' = n + m → Bank w0 w' (L.set k ⟨.slice A' n' c', n', e, size, xs ++ news⟩) → w.grownBy w' (Value.slice A n cap).ownBlock → ((Value.slice A' n' c').ownBlock = (Value.slice A n cap).ownBlock ∨ (Value.slice A' n' c').ownBlock = some w.heap.size) → wpList P ops Q rest (a.put o.dst (.slice A' n' c')) w') : wpList P ops Q (o :: rest) a w := by
  obtain ⟨i0, hi, hz0, hz1, hz2⟩ := info_parts hz
  refine wpList_plain hgd fun K hK' => ?_
  obtain ⟨A', c', w', hr, h2, h3, h4⟩ := run_append_bankG (P := P) h t o.type e i0 z size bytes ht hi hz0 hz1 hz2 hzs hsz k A n cap xs hk ad m c news hl hnews h1 h63 hbytes
  unfold Oper.wp execOp
  simp only [ho, resolve, invoke, builtin, Sem.run_bind, Sem.run_pure, Result.andThen_ok, List.map_toArray, List.map_cons, List.map_nil, hs, hx, hr]
  exact hK' _ _ (hK A' _ c' w' rfl h2 h3 h4)
theorem RowRd.src {x : Rw} {bs : List (BitVec 8)} (h : RowRd w x bs) : (x.A = Option.none → x.n = 0 ∧ x.c = 0) ∧ (bv bs).length = x.n * 1 ∧ ∀ ad, x.A = some ad → ∀ j u, (bv bs)[j]? = some u → w.cell? (ad.add j) = some u :=
  ⟨fun e => ⟨by
    have hrd := h.rd
    rw [e] at hrd
    have := h.len
    rw [hrd.empty] at this; exact this.symm, h.none e⟩, by rw [bv_length, h.len, Nat.mul_one], h.rd.cells⟩
/-- bytes put behind bytes, on the walk -/
theorem wpList_append_bytes {ops : Array Oper} {rest : List Oper} {o : Oper} {a : Act} {Q : Exit → Act → World → Prop} (h : Bank w0 w L) (hgd : o.guard = Option.none) (s y : Operand) (t : TypeId)
    (ho : o.op = .call { callee := .builtin .append, args := #[s, y], argTypes := #[t, t] })
    (e : TypeId) (hz : (P.info? e).map (fun i => (i.zero, i.size, i.bytes)) = some (some (.int .u8 0), 1, 1)) (ht : P.underlying t = some (.slice e)) (k : Nat) (A : Option Addr) (n cap : Nat) (bs : List (BitVec 8)) (hs : a.eval s = .slice A n cap) (hk : L[k]? = some ⟨.slice A n cap, n, e, 1, bv bs⟩)
    (ao : Option Addr) (m c : Nat) (news : List (BitVec 8)) (hx : a.eval y = .slice ao m c) (hr : RowRd w ⟨ao, m, c⟩ news) (hb : n + m ≤ 140737488355328)
    (hK : ∀ A' n' c' w', n' = n + m → Bank w0 w' (L.set k ⟨.slice A' n' c', n', e, 1, bv (bs ++ news)⟩) → wpList P ops Q rest (a.put o.dst (.slice A' n' c')) w') : wpList P ops Q (o :: rest) a w := by
  obtain ⟨i0, hi, hz0, hz1, hz2⟩ := info_parts hz
  obtain ⟨r1, r2, r3⟩ := hr.src
  refine wpList_plain hgd fun K hK' => ?_
  refine wp_append_bank h s y t ho e i0 _ 1 1 ht hi hz0 hz1 hz2 rfl (by decide) k A n cap (bv bs) hs hk ao m c (bv news) hx r1 r2 r3 (bv_one _) (by unfold maxLen; omega) (by omega) fun A' c' w' h2 => hK' _ _ ?_
  rw [← bv_append] at h2
  exact hK A' _ c' w' rfl h2
/-- the same, the append being guarded -/
theorem wpList_append_bytesW {ops : Array Oper} {rest : List Oper} {o : Oper} {a : Act} {Q : Exit → Act → World → Prop} (h : Bank w0 w L) (hgd : Region.wanted o (yielded ops a.tmps) = true) (s y : Operand) (t : TypeId)
    (ho : o.op = .call { callee := .builtin .append, args := #[s, y], argTypes := #[t, t] })
    (e : TypeId) (hz : (P.info? e).map (fun i => (i.zero, i.size, i.bytes)) = some (some (.int .u8 0), 1, 1)) (ht : P.underlying t = some (.slice e)) (k : Nat) (A : Option Addr) (n cap : Nat) (bs : List (BitVec 8)) (hs : a.eval s = .slice A n cap) (hk : L[k]? = some ⟨.slice A n cap, n, e, 1, bv bs⟩)
    (ao : Option Addr) (m c : Nat) (news : List (BitVec 8)) (hx : a.eval y = .slice ao m c) (hr : RowRd w ⟨ao, m, c⟩ news) (hb : n + m ≤ 140737488355328)
    (hK : ∀ A' n' c' w', n' = n + m → Bank w0 w' (L.set k ⟨.slice A' n' c', n', e, 1, bv (bs ++ news)⟩) → wpList P ops Q rest (a.put o.dst (.slice A' n' c')) w') : wpList P ops Q (o :: rest) a w := by
  obtain ⟨i0, hi, hz0, hz1, hz2⟩ := info_parts hz
  obtain ⟨r1, r2, r3⟩ := hr.src
  refine wpList_step fun K hK' => ?_
  rw [if_pos hgd]
  refine wp_append_bank h s y t ho e i0 _ 1 1 ht hi hz0 hz1 hz2 rfl (by decide) k A n cap (bv bs) hs hk ao m c (bv news) hx r1 r2 r3 (bv_one _) (by unfold maxLen; omega) (by omega) fun A' c' w' h2 => hK' _ _ ?_
  rw [← bv_append] at h2
  exact hK A' _ c' w' rfl h2
/-- bytes put behind bytes, in a region that draws its order -/
theorem step_append_bytes {ops : Array Oper} {o : Oper} {a : Act} {K : Act → World → Prop} {Q : Exit → Act → World → Prop} {E : Prop} (h : Bank w0 w L) (hgd : o.guard = Option.none) (s y : Operand) (t : TypeId)
    (ho : o.op = .call { callee := .builtin .append, args := #[s, y], argTypes := #[t, t] })
    (e : TypeId) (hz : (P.info? e).map (fun i => (i.zero, i.size, i.bytes)) = some (some (.int .u8 0), 1, 1)) (ht : P.underlying t = some (.slice e)) (k : Nat) (A : Option Addr) (n cap : Nat) (bs : List (BitVec 8)) (hs : a.eval s = .slice A n cap) (hk : L[k]? = some ⟨.slice A n cap, n, e, 1, bv bs⟩)
    (ao : Option Addr) (m c : Nat) (news : List (BitVec 8)) (hx : a.eval y = .slice ao m c) (hr : RowRd w ⟨ao, m, c⟩ news) (hb : n + m ≤ 140737488355328)
    (hK : ∀ A' n' c' w', n' = n + m → Bank w0 w' (L.set k ⟨.slice A' n' c', n', e, 1, bv (bs ++ news)⟩) → K (a.put o.dst (.slice A' n' c')) w') :
    if Region.wanted o (yielded ops a.tmps) = true then Oper.wp P o a w K Q else E := by
  have hw : Region.wanted o (yielded ops a.tmps) = true := by simp [Region.wanted, hgd]
  rw [if_pos hw]
  obtain ⟨i0, hi, hz0, hz1, hz2⟩ := info_parts hz
  obtain ⟨r1, r2, r3⟩ := hr.src
  refine wp_append_bank h s y t ho e i0 _ 1 1 ht hi hz0 hz1 hz2 rfl (by decide) k A n cap (bv bs) hs hk ao m c (bv news) hx r1 r2 r3 (bv_one _) (by unfold maxLen; omega) (by omega) fun A' c' w' h2 => ?_
  rw [← bv_append] at h2
  exact hK A' _ c' w' rfl h2
/-- the same in a region that draws its order, and what was put behind of reads as it did -/
theorem step_append_bytesK {ops : Array Oper} {o : Oper} {a : Act} {K : Act → World → Prop} {Q : Exit → Act → World → Prop} {E : Prop} (h : Bank w0 w L) (hgd : Region.wanted o (yielded ops a.tmps) = true) (s y : Operand) (t : TypeId)
    (ho : o.op = .call { callee := .builtin .append, args := #[s, y], argTypes := #[t, t] })
    (e : TypeId) (hz : (P.info? e).map (fun i => (i.zero, i.size, i.bytes)) = some (some (.int .u8 0), 1, 1)) (ht : P.underlying t = some (.slice e)) (k : Nat) (g n cap : Nat) (bs : List (BitVec 8)) (hs : a.eval s = .slice (some ⟨g, 0, Option.none⟩) n cap) (hk : L[k]? = some ⟨.slice (some ⟨g, 0, Option.none⟩) n cap, n, e, 1, bv bs⟩)
    (ao : Option Addr) (m c : Nat) (news : List (BitVec 8)) (hx : a.eval y = .slice ao m c) (hr : RowRd w ⟨ao, m, c⟩ news) (hm : 0 < m) (hb : n + m ≤ 140737488355328)
    (hK : ∀ A' n' c' w', n' = n + m → Bank w0 w' (L.set k ⟨.slice A' n' c', n', e, 1, bv (bs ++ news)⟩) → RowRd w' ⟨some ⟨g, 0, Option.none⟩, n, cap⟩ bs → K (a.put o.dst (.slice A' n' c')) w') :
    if Region.wanted o (yielded ops a.tmps) = true then Oper.wp P o a w K Q else E := by
  rw [if_pos hgd]
  obtain ⟨i0, hi, hz0, hz1, hz2⟩ := info_parts hz
  obtain ⟨r1, r2, r3⟩ := hr.src
  have hown := h.at k hk
  obtain ⟨ad, rfl⟩ : ∃ ad, ao = some ad := by
    cases ao with
    | none => have := (r1 rfl).1; have h' : m = 0 := this; omega
    | some ad => exact ⟨ad, rfl⟩
  obtain ⟨g', cap', w', hrun, o2, o3, o4, _, o6⟩ := run_append_keep (P := P) w t o.type w0.heap.size e i0 _ 1 1 ht hi hz0 hz1 hz2 rfl (by decide) g n cap (bv bs) hown ad m c (bv news) r2 (r3 ad rfl) (bv_one _) hm (by unfold maxLen; omega) (by omega) h.since.size _ rfl
  have hB := h.putG k hk (p' := ⟨.slice (some ⟨g', 0, Option.none⟩) (n + m) cap', n + m, e, 1, bv (bs ++ news)⟩) (by rw [bv_append]; exact o2) o3 (by
    rcases o4 with ⟨e1, _⟩ | ⟨e1, _⟩
    · exact .inl (by rw [e1]; rfl)
    · exact .inr ⟨g', rfl, e1⟩)
  have hR : RowRd w' ⟨some ⟨g, 0, Option.none⟩, n, cap⟩ bs := ⟨fun j hj => by
    have hrd := RowRd.of_row hown
    obtain ⟨b, o, e, hc⟩ := hrd.rd j hj
    have hjn : j < n := by have h' : bs.length = n := hrd.len; omega
    cases e
    exact ⟨g, 0, rfl, by rw [Nat.zero_add]; rw [Nat.zero_add] at hc; rw [o6 j (by omega), hc]⟩, (RowRd.of_row hown).len, fun h => by cases h⟩
  unfold Oper.wp execOp
  simp only [ho, resolve, invoke, builtin, Sem.run_bind, Sem.run_pure, Result.andThen_ok, List.map_toArray, List.map_cons, List.map_nil, hs, hx, hrun]
  exact hK _ _ _ w' rfl hB hR
/-- the bank of the world at hand, ahead of a call or an append -/
theorem calls_bank {f : FuncId} {args : Array Value} {Q : Ending → World → Prop} (h : Bank w0 w L) (hq : Bank w0 w L → Calls P f args w Q) : Calls P f args w Q := hq h
theorem step_bank {ops : Array Oper} {o : Oper} {a : Act} {K : Act → World → Prop} {Q : Exit → Act → World → Prop} {E : Prop} (h : Bank w0 w L) (hq : Bank w0 w L → if Region.wanted o (yielded ops a.tmps) = true then Oper.wp P o a w K Q else E) : if Region.wanted o (yielded ops a.tmps) = true then Oper.wp P o a w K Q else E := hq h
end
/-- something else was written, or made -/
theorem Bank.other {w0 w w' : World} {L : List Acc} (h : Bank w0 w L) {X : Nat} (hg : w.grownBy w' (some X)) (hX : w0.heap.size ≤ X) (hL : ∀ p ∈ L, p.v.ownBlock ≠ some X) : Bank w0 w' L := by
  refine ⟨h.since.grown hg h.since.size (by rintro k ⟨⟩; exact hX), fun p hp => (h.own p hp).kept hg ?_, h.sep⟩
  cases hq : p.v.ownBlock with
  | none => exact .inl rfl
  | some b => exact .inr fun e => hL p hp (hq.trans e)
theorem Bank.add {w0 w : World} {L : List Acc} (h : Bank w0 w L) {B : Nat} {e : TypeId} {size n : Nat} {v : Value} {xs : List Value} (ho : w.ownsRow B e size v n xs) (hB : w0.heap.size ≤ B) (hL : ∀ p ∈ L, ∀ b, p.v.ownBlock = some b → b < B) : Bank w0 w (⟨v, n, e, size, xs⟩ :: L) := by
  refine ⟨h.since, fun p hp => ?_, .cons (fun q hq b hb1 hb2 => ?_) h.sep⟩
  · rcases List.mem_cons.1 hp with rfl | hp
    · exact row_base ho hB
    · exact h.own p hp
  · have h1 := (ho.lt b hb1).1
    have h2 := hL q hq b hb2
    omega
theorem Bank.swap {w0 w : World} {L : List Acc} {p q : Acc} (h : Bank w0 w (p :: q :: L)) : Bank w0 w (q :: p :: L) := by
  obtain ⟨h1, h2⟩ := List.pairwise_cons.1 h.sep
  obtain ⟨h3, h4⟩ := List.pairwise_cons.1 h2
  refine ⟨h.since, fun x hx => h.own x ?_, .cons (fun x hx => ?_) (.cons (fun x hx => h1 x (List.mem_cons_of_mem _ hx)) h4)⟩
  · simp only [List.mem_cons] at hx ⊢
    rcases hx with rfl | rfl | hx
    · exact .inr (.inl rfl)
    · exact .inl rfl
    · exact .inr (.inr hx)
  · rcases List.mem_cons.1 hx with rfl | hx
    · exact (h1 _ (List.mem_cons_self ..)).symm
    · exact h3 x hx
/-- bytes made in memory of their own -/
def Made (w : World) (bs : List (BitVec 8)) (e : Ending) (w' : World) : Prop := ∃ g N c, e = .returned (.slice (some ⟨g, 0, none⟩) N c) ∧ N = bs.length ∧ w'.ownsRow w.heap.size 5 1 (.slice (some ⟨g, 0, none⟩) N c) N (bv bs) ∧ Below w.heap.size w w'
/-- likewise, or nil -/
def MadeO (w : World) (bs : List (BitVec 8)) (e : Ending) (w' : World) : Prop := ∃ A N c, e = .returned (.slice A N c) ∧ N = bs.length ∧ w'.ownsRow w.heap.size 5 1 (.slice A N c) N (bv bs) ∧ Below w.heap.size w w'
end Go.Proofs.YtfpjmeknjhhakaaGreat.K

/- Entries in memory that are read: six cells each, one behind the other. -/
namespace Go.Proofs.YtfpjmeknjhhakaaGreat.K
open Go Go.RowKit

abbrev EntCells (w : World) (b o : Nat) (e : M.Ent) (A : Option Addr) (n c : Nat) : Prop := w.cell? ⟨b, o, none⟩ = some (.int .i64 e.term) ∧ w.cell? ⟨b, o + 1, none⟩ = some (B8 e.kind) ∧ w.cell? ⟨b, o + 2, none⟩ = some (.int .i64 e.version) ∧ w.cell? ⟨b, o + 3, none⟩ = some (.int .i64 e.server) ∧ w.cell? ⟨b, o + 4, none⟩ = some (.bool e.good) ∧ w.cell? ⟨b, o + 5, none⟩ = some (.slice A n c)
theorem EntCells.since {w0 w : World} {b o : Nat} {e : M.Ent} {A : Option Addr} {n c : Nat} (h : EntCells w0 b o e A n c) (hs : Since w0 w) : EntCells w b o e A n c := by
  obtain ⟨h0, h1, h2, h3, h4, h5⟩ := h
  exact ⟨(hs.cell (block_lt_of_cell h0)).trans h0, (hs.cell (block_lt_of_cell h1)).trans h1, (hs.cell (block_lt_of_cell h2)).trans h2, (hs.cell (block_lt_of_cell h3)).trans h3, (hs.cell (block_lt_of_cell h4)).trans h4, (hs.cell (block_lt_of_cell h5)).trans h5⟩
/-- an entry, its first cell at o of block b -/
def EntRow (w : World) (b o : Nat) (e : M.Ent) : Prop := ∃ A n c, EntCells w b o e A n c ∧ RowRd w ⟨A, n, c⟩ e.data
theorem EntRow.since {w0 w : World} {b o : Nat} {e : M.Ent} (h : EntRow w0 b o e) (hs : Since w0 w) : EntRow w b o e := by
  obtain ⟨A, n, c, h1, h2⟩ := h
  exact ⟨A, n, c, h1.since hs, hs.row h2⟩
/-- entries, one behind the other -/
def EntsRd (w : World) (A : Option Addr) (es : List M.Ent) : Prop := ∀ i, (h : i < es.length) → ∃ b o, A = some ⟨b, o, none⟩ ∧ EntRow w b (o + i * 6) es[i]
theorem EntsRd.since {w0 w : World} {A : Option Addr} {es : List M.Ent} (h : EntsRd w0 A es) (hs : Since w0 w) : EntsRd w A es := fun i hi => by
  obtain ⟨b, o, e, hc⟩ := h i hi
  exact ⟨b, o, e, hc.since hs⟩
theorem EntsRd.nil (w : World) (A : Option Addr) : EntsRd w A [] := fun _ h => absurd h (Nat.not_lt_zero _)
end Go.Proofs.YtfpjmeknjhhakaaGreat.K

/- What is read of bytes, as plain Lean functions: a reader is what is left, or none (bad). -/
namespace Go.Proofs.YtfpjmeknjhhakaaGreat.M
def w64 (l : List B) : U64 := l.foldl (fun a x => 256 * a + x.setWidth 64) 0
def val (l : List B) : Int := (w64 l).toInt
theorem w64_snoc (l : List B) (x : B) : w64 (l ++ [x]) = 256 * w64 l + x.setWidth 64 := by simp [w64, List.foldl_append]
theorem shift_or (a : U64) (x : B) : (a <<< 8) ||| x.setWidth 64 = 256 * a + x.setWidth 64 := by
  have h : (a <<< 8) &&& x.setWidth 64 = 0#64 := by
    apply BitVec.eq_of_getLsbD_eq
    intro i hi
    rw [BitVec.getLsbD_and, BitVec.getLsbD_shiftLeft, BitVec.getLsbD_setWidth]
    by_cases h : i < 8
    · simp [h]
    · rw [BitVec.getLsbD_of_ge x i (by omega)]; simp
  rw [← BitVec.add_eq_or_of_and_eq_zero _ _ h]
  congr 1
  apply BitVec.eq_of_toNat_eq
  rw [BitVec.toNat_shiftLeft, BitVec.toNat_mul, Nat.shiftLeft_eq, Nat.mul_comm]; rfl
theorem byteOf_nat (n : Int) (i : Nat) (h : i < 8) : (byteOf n i).toNat = (BitVec.ofInt 64 n).toNat / 2 ^ (8 * i) % 256 := by
  unfold byteOf
  rw [BitVec.toNat_setWidth, BitVec.toNat_ushiftRight, Nat.shiftRight_eq_div_pow]
theorem w64_step {a : U64} {x : B} {N p q : Nat} (ha : a.toNat = N / p) (hx : x.toNat = N / q % 256) (hp : p = q * 256) (hN : N < 18446744073709551616) : (256 * a + x.setWidth 64).toNat = N / q := by
  have h256 : (256 : U64).toNat = 256 := rfl
  rw [BitVec.toNat_add, BitVec.toNat_mul, BitVec.toNat_setWidth, ha, hx, h256, hp, ← Nat.div_div_eq_div_mul]
  have hm : N / q ≤ N := Nat.div_le_self _ _
  generalize N / q = m at *
  omega
theorem w64_num (n : Int) : w64 (num n) = BitVec.ofInt 64 n := by
  apply BitVec.eq_of_toNat_eq
  have hN := (BitVec.ofInt 64 n).isLt
  have e : num n = [byteOf n 7, byteOf n 6, byteOf n 5, byteOf n 4, byteOf n 3, byteOf n 2, byteOf n 1, byteOf n 0] := rfl
  have h0 : (0 : U64).toNat = (BitVec.ofInt 64 n).toNat / 2 ^ 64 := by
    rw [Nat.div_eq_of_lt hN]; rfl
  have s7 := w64_step h0 (byteOf_nat n 7 (by omega)) (by decide) hN
  have s6 := w64_step s7 (byteOf_nat n 6 (by omega)) (by decide) hN
  have s5 := w64_step s6 (byteOf_nat n 5 (by omega)) (by decide) hN
  have s4 := w64_step s5 (byteOf_nat n 4 (by omega)) (by decide) hN
  have s3 := w64_step s4 (byteOf_nat n 3 (by omega)) (by decide) hN
  have s2 := w64_step s3 (byteOf_nat n 2 (by omega)) (by decide) hN
  have s1 := w64_step s2 (byteOf_nat n 1 (by omega)) (by decide) hN
  have s0 := w64_step s1 (byteOf_nat n 0 (by omega)) (by decide) hN
  rw [e]
  simp only [w64, List.foldl_cons, List.foldl_nil]
  rw [s0]
  simp
theorem val_num (n : Int) (h0 : -9223372036854775808 ≤ n) (h1 : n ≤ 9223372036854775807) : val (num n) = n := by
  rw [val, w64_num, BitVec.toInt_ofInt]
  exact Int.bmod_eq_of_le (by omega) (by omega)
/-- a reader: what is left, or bad -/
abbrev Rdr := Option (List B)
def rdNumber : Rdr → Int × Rdr
  | none => (0, none)
  | some l => if l.length < 8 then (0, none) else (val (l.take 8), some (l.drop 8))
def rdBytes (s : Rdr) : List B × Rdr :=
  match rdNumber s with
  | (_, none) => ([], none)
  | (n, some l) => if n < 0 ∨ (l.length : Int) < n then ([], none) else (l.take n.toNat, some (l.drop n.toNat))
def zeroEnt : Ent := ⟨0, 0#8, 0, 0, false, []⟩
def rdEntry (s : Rdr) : Ent × Rdr :=
  let p1 := rdNumber s
  let p2 := rdNumber p1.2
  let p3 := rdNumber p2.2
  let p4 := rdNumber p3.2
  let p5 := rdNumber p4.2
  let p6 := rdBytes p5.2
  if p6.2 = none ∨ p2.1 < 0 ∨ 255 < p2.1 ∨ p5.1 < 0 ∨ 1 < p5.1 then (zeroEnt, none) else (⟨p1.1, BitVec.ofInt 8 p2.1, p3.1, p4.1, p5.1 == 1, p6.1⟩, p6.2)
end Go.Proofs.YtfpjmeknjhhakaaGreat.M

/- What was written is read back; a beginning of it is bad: plain Lean. -/
namespace Go.Proofs.YtfpjmeknjhhakaaGreat.M
/-- st reads the bytes enc: whole, it goes on behind them; cut, it is bad -/
structure Eats (st : Rdr → Rdr) (enc : List B) : Prop where
  full : ∀ t, st (some (enc ++ t)) = some t
  cut : ∀ k, k < enc.length → st (some (enc.take k)) = none
  bad : st none = none
theorem Eats.comp {f g : Rdr → Rdr} {a b : List B} (h : Eats f a) (h' : Eats g b) : Eats (fun s => g (f s)) (a ++ b) where
  full t := by rw [List.append_assoc, h.full, h'.full]
  cut k hk := by
    rw [List.length_append] at hk
    by_cases hl : k < a.length
    · rw [List.take_append_of_le_length (by omega), h.cut k hl, h'.bad]
    · rw [List.take_append, List.take_of_length_le (by omega), h.full, h'.cut _ (by omega)]
  bad := by rw [h.bad, h'.bad]
theorem Eats.id : Eats (fun s => s) [] := ⟨fun _ => rfl, fun k hk => absurd hk (Nat.not_lt_zero _), rfl⟩
def inI64 (n : Int) : Prop := -9223372036854775808 ≤ n ∧ n ≤ 9223372036854775807
theorem rdNumber_num (n : Int) (t : List B) (h : inI64 n) : rdNumber (some (num n ++ t)) = (n, some t) := by
  have hl := num_length n
  simp only [rdNumber]
  rw [if_neg (by rw [List.length_append]; omega), List.take_left' hl, List.drop_left' hl, val_num n h.1 h.2]
theorem rdNumber_short (l : List B) (h : l.length < 8) : rdNumber (some l) = (0, none) := by simp only [rdNumber]; rw [if_pos h]
theorem eats_num (n : Int) (h : inI64 n) : Eats (fun s => (rdNumber s).2) (num n) where
  full t := by rw [rdNumber_num n t h]
  cut k hk := by
    rw [num_length] at hk
    rw [rdNumber_short _ (by rw [List.length_take]; omega)]
  bad := rfl
theorem rdBytes_blob (b t : List B) (h : b.length ≤ 1000000000000) : rdBytes (some (blob b ++ t)) = (b, some t) := by
  unfold rdBytes blob
  rw [List.append_assoc, rdNumber_num _ _ ⟨by omega, by omega⟩]
  simp only
  rw [if_neg (by rw [List.length_append]; omega)]
  simp
theorem eats_blob (b : List B) (h : b.length ≤ 1000000000000) : Eats (fun s => (rdBytes s).2) (blob b) where
  full t := by rw [rdBytes_blob b t h]
  cut k hk := by
    have hl : (num (b.length : Int)).length = 8 := num_length _
    unfold blob at hk ⊢
    rw [List.length_append, hl] at hk
    unfold rdBytes
    by_cases h8 : k < 8
    · rw [rdNumber_short _ (by rw [List.length_take]; omega)]
    · rw [List.take_append, List.take_of_length_le (by omega), rdNumber_num _ _ ⟨by omega, by omega⟩]
      simp only
      rw [if_pos (by rw [List.length_take, hl]; omega)]
  bad := rfl
theorem rdEntry_bad : rdEntry none = (zeroEnt, none) := by
  simp only [rdEntry, show rdNumber none = (0, none) from rfl, show rdBytes none = ([], none) from rfl, true_or, if_true]
structure Ent.Ok (e : Ent) : Prop where
  term : inI64 e.term
  version : inI64 e.version
  server : inI64 e.server
  data : e.data.length ≤ 1000000000000
theorem rdEntry_ent (e : Ent) (t : List B) (h : e.Ok) : rdEntry (some (ent e ++ t)) = (e, some t) := by
  have hk : inI64 (e.kind.toNat : Int) := ⟨by omega, by have := e.kind.isLt; omega⟩
  have hf : inI64 (flag e.good) := by unfold flag; split <;> exact ⟨by omega, by omega⟩
  have hf01 : ¬ flag e.good < 0 ∧ ¬ 1 < flag e.good := by unfold flag; split <;> exact ⟨by omega, by omega⟩
  have hg : (flag e.good == 1) = e.good := by unfold flag; cases e.good <;> rfl
  have hk8 : BitVec.ofInt 8 (e.kind.toNat : Int) = e.kind := by
    apply BitVec.eq_of_toNat_eq
    have := e.kind.isLt
    rw [BitVec.toNat_ofInt]; omega
  unfold ent
  simp only [List.append_assoc, rdEntry]
  rw [rdNumber_num _ _ h.term]
  simp only
  rw [rdNumber_num _ _ hk]
  simp only
  rw [rdNumber_num _ _ h.version]
  simp only
  rw [rdNumber_num _ _ h.server]
  simp only
  rw [rdNumber_num _ _ hf]
  simp only
  rw [rdBytes_blob _ _ h.data]
  have hlt := e.kind.isLt
  rw [if_neg (by simp only [reduceCtorEq, false_or]; omega), hg, hk8]
theorem rdEntry_last (s : Rdr) (h : (rdBytes (rdNumber (rdNumber (rdNumber (rdNumber (rdNumber s).2).2).2).2).2).2 = none) : rdEntry s = (zeroEnt, none) := by
  simp only [rdEntry]
  rw [if_pos (.inl h)]
theorem eats_ent (e : Ent) (h : e.Ok) : Eats (fun s => (rdEntry s).2) (ent e) where
  full t := by rw [rdEntry_ent e t h]
  cut k hk := by
    have hkk : inI64 (e.kind.toNat : Int) := ⟨by omega, by have := e.kind.isLt; omega⟩
    have hf : inI64 (flag e.good) := by unfold flag; split <;> exact ⟨by omega, by omega⟩
    have hc := (((((eats_num _ h.term).comp (eats_num _ hkk)).comp (eats_num _ h.version)).comp (eats_num _ h.server)).comp (eats_num _ hf)).comp (eats_blob _ h.data)
    exact congrArg Prod.snd (rdEntry_last (some ((ent e).take k)) (hc.cut k hk))
  bad := by rw [rdEntry_bad]
/-- entries, one behind the other -/
def ents (l : List Ent) : List B := l.flatMap ent
def rdAll : List Ent → Rdr → Rdr
  | [], s => s
  | _ :: l, s => rdAll l (rdEntry s).2
theorem eats_all (l : List Ent) (h : ∀ e ∈ l, e.Ok) : Eats (rdAll l) (ents l) := by
  induction l with
  | nil => exact Eats.id
  | cons e l ih =>
    have h1 := (eats_ent e (h e (List.mem_cons_self ..))).comp (ih fun x hx => h x (List.mem_cons_of_mem _ hx))
    exact h1
theorem rdAll_snoc (l : List Ent) (e : Ent) (s : Rdr) : rdAll (l ++ [e]) s = (rdEntry (rdAll l s)).2 := by
  induction l generalizing s with
  | nil => rfl
  | cons x l ih => exact ih _
theorem ents_snoc (l : List Ent) (e : Ent) : ents (l ++ [e]) = ents l ++ ent e := by simp [ents]
theorem ent_length (e : Ent) : (ent e).length = 48 + e.data.length := by simp [ent, num_length, blob_length]; omega
end Go.Proofs.YtfpjmeknjhhakaaGreat.M

/- Eight bytes read as a number are that number's bytes; what was read of bytes stood there. -/
namespace Go.Proofs.YtfpjmeknjhhakaaGreat.M
set_option maxHeartbeats 4000000 in
/-- eight bytes read as a number are that number's bytes -/
theorem num_val (l : List B) (h : l.length = 8) : num (val l) = l := by
  match l, h with
  | [a0, a1, a2, a3, a4, a5, a6, a7], _ =>
    have hN : (w64 [a0, a1, a2, a3, a4, a5, a6, a7]).toNat = a0.toNat * 72057594037927936 + a1.toNat * 281474976710656 + a2.toNat * 1099511627776 + a3.toNat * 4294967296 + a4.toNat * 16777216 + a5.toNat * 65536 + a6.toNat * 256 + a7.toNat := by
      have i0 := a0.isLt; have i1 := a1.isLt; have i2 := a2.isLt; have i3 := a3.isLt; have i4 := a4.isLt; have i5 := a5.isLt; have i6 := a6.isLt; have i7 := a7.isLt
      simp only [w64, List.foldl_cons, List.foldl_nil, BitVec.toNat_add, BitVec.toNat_mul, BitVec.toNat_setWidth]
      rw [show (256 : U64).toNat = 256 from rfl, show (0 : U64).toNat = 0 from rfl]
      omega
    have e : BitVec.ofInt 64 (val [a0, a1, a2, a3, a4, a5, a6, a7]) = w64 [a0, a1, a2, a3, a4, a5, a6, a7] := by rw [val, BitVec.ofInt_toInt]
    have hb : ∀ i, i < 8 → (byteOf (val [a0, a1, a2, a3, a4, a5, a6, a7]) i).toNat = (w64 [a0, a1, a2, a3, a4, a5, a6, a7]).toNat / 2 ^ (8 * i) % 256 := fun i hi => by rw [byteOf_nat _ i hi, e]
    have i0 := a0.isLt; have i1 := a1.isLt; have i2 := a2.isLt; have i3 := a3.isLt; have i4 := a4.isLt; have i5 := a5.isLt; have i6 := a6.isLt; have i7 := a7.isLt
    rw [hN] at hb
    show [byteOf _ 7, byteOf _ 6, byteOf _ 5, byteOf _ 4, byteOf _ 3, byteOf _ 2, byteOf _ 1, byteOf _ 0] = _
    have k0 := hb 0 (by omega); have k1 := hb 1 (by omega); have k2 := hb 2 (by omega); have k3 := hb 3 (by omega); have k4 := hb 4 (by omega); have k5 := hb 5 (by omega); have k6 := hb 6 (by omega); have k7 := hb 7 (by omega)
    simp only [Nat.reduceMul, Nat.reducePow] at k0 k1 k2 k3 k4 k5 k6 k7
    have q0 : byteOf (val [a0, a1, a2, a3, a4, a5, a6, a7]) 0 = a7 := BitVec.eq_of_toNat_eq (by rw [k0]; omega)
    have q1 : byteOf (val [a0, a1, a2, a3, a4, a5, a6, a7]) 1 = a6 := BitVec.eq_of_toNat_eq (by rw [k1]; omega)
    have q2 : byteOf (val [a0, a1, a2, a3, a4, a5, a6, a7]) 2 = a5 := BitVec.eq_of_toNat_eq (by rw [k2]; omega)
    have q3 : byteOf (val [a0, a1, a2, a3, a4, a5, a6, a7]) 3 = a4 := BitVec.eq_of_toNat_eq (by rw [k3]; omega)
    have q4 : byteOf (val [a0, a1, a2, a3, a4, a5, a6, a7]) 4 = a3 := BitVec.eq_of_toNat_eq (by rw [k4]; omega)
    have q5 : byteOf (val [a0, a1, a2, a3, a4, a5, a6, a7]) 5 = a2 := BitVec.eq_of_toNat_eq (by rw [k5]; omega)
    have q6 : byteOf (val [a0, a1, a2, a3, a4, a5, a6, a7]) 6 = a1 := BitVec.eq_of_toNat_eq (by rw [k6]; omega)
    have q7 : byteOf (val [a0, a1, a2, a3, a4, a5, a6, a7]) 7 = a0 := BitVec.eq_of_toNat_eq (by rw [k7]; omega)
    rw [q0, q1, q2, q3, q4, q5, q6, q7]
theorem rdNumber_inv {l t : List B} {n : Int} (h : rdNumber (some l) = (n, some t)) : l = num n ++ t := by
  simp only [rdNumber] at h
  split at h
  · cases h
  · simp only [Prod.mk.injEq, Option.some.injEq] at h
    obtain ⟨rfl, rfl⟩ := h
    rw [num_val _ (by rw [List.length_take]; omega), List.take_append_drop]
theorem rdBytes_inv {s : Rdr} {b t : List B} (h : rdBytes s = (b, some t)) : ∃ l, s = some l ∧ l = blob b ++ t := by
  cases s with
  | none => simp [rdBytes, rdNumber] at h
  | some l =>
    refine ⟨l, rfl, ?_⟩
    unfold rdBytes at h
    cases hn : rdNumber (some l) with
    | mk n o =>
      rw [hn] at h
      cases o with
      | none => simp at h
      | some r =>
        simp only at h
        split at h
        · cases h
        · rename_i hc
          simp only [Prod.mk.injEq, Option.some.injEq] at h
          obtain ⟨rfl, rfl⟩ := h
          have e := rdNumber_inv hn
          have hl : ((r.take n.toNat).length : Int) = n := by rw [List.length_take]; omega
          rw [blob, hl, List.append_assoc, List.take_append_drop]
          exact e
theorem rdNumber_inv' {s : Rdr} {t : List B} (h : (rdNumber s).2 = some t) : ∃ l, s = some l ∧ l = num (rdNumber s).1 ++ t := by
  cases s with
  | none => cases h
  | some l => exact ⟨l, rfl, rdNumber_inv (Prod.ext rfl h)⟩
end Go.Proofs.YtfpjmeknjhhakaaGreat.M
