/- barbicankit's bag as an account of a bank: entries and letters are put into it. -/
import Derived.Test.YtdmpphioflcofaaGreatLz9
import Derived.Test.YtdmpphioflcofaaGreatLzFlatLetters
import Derived.Test.YtdmpphioflcofaaGreatLzFlatEntries
namespace Go.Proofs.YtdmpphioflcofaaGreat.K
open Go Go.RowKit

def bag3 (v u x : Value) : List Value := [.slice none 0 0, .slice none 0 0, .slice none 0 0, .slice none 0 0, .slice none 0 0, v, .slice none 0 0, .slice none 0 0, .slice none 0 0, .slice none 0 0, .slice none 0 0, .slice none 0 0, .slice none 0 0, .slice none 0 0, .slice none 0 0, u, .slice none 0 0, .slice none 0 0, x, .slice none 0 0, .slice none 0 0]
theorem infoLEnt : (Tryz.prog.info? 26).map (fun i => (i.zero, i.size, i.bytes)) = some (some (.slice none 0 0), 1, 24) := by kernel_rfl
theorem infoLLet : (Tryz.prog.info? 35).map (fun i => (i.zero, i.size, i.bytes)) = some (some (.slice none 0 0), 1, 24) := by kernel_rfl
/-- lists of slices -/
structure Ls where
  A : Option Addr
  n : Nat
  c : Nat
  xs : List Value
def Ls.v (x : Ls) : Value := .slice x.A x.n x.c
def Ls.acc (x : Ls) (t : TypeId) : Acc := lstAcc x.v x.n t x.xs
def Ls.more (x y : Ls) (vs : List Value) : Prop := y.n = x.n + vs.length ∧ y.xs = x.xs ++ vs
theorem Ls.more_nil (x : Ls) : x.more x [] := ⟨rfl, (List.append_nil _).symm⟩
theorem Ls.more_trans {x y z : Ls} {a b : List Value} (h : x.more y a) (h2 : y.more z b) : x.more z (a ++ b) := ⟨by rw [h2.1, h.1, List.length_append, Nat.add_assoc], by rw [h2.2, h.2, List.append_assoc]⟩
/-- the bag with its lists of bytes, entries, letters, beside other accounts -/
def BagL (w0 w : World) (g : Nat) (b e l : Ls) (T : List Acc) : Prop :=
  Bank w0 w (boxAcc g 79 (bag3 b.v e.v l.v) :: b.acc 22 :: e.acc 26 :: l.acc 35 :: T)
theorem BagL.box {w0 w : World} {g : Nat} {b e l : Ls} {T : List Acc} (h : BagL w0 w g b e l T) (cs : Array Value) (t : TypeId) (hs : cs.size ≤ 1000000) : BagL w0 (w.alloc (.cells cs t)) g b e l (boxAcc w.heap.size t cs.toList :: T) := by
  refine (Bank.box h cs t hs).permA' ?_
  exact (List.perm_middle (l₁ := [_, _, _, _])).symm
theorem BagL.tail {w0 w : World} {g : Nat} {b e l : Ls} {T : List Acc} {p : Acc} (h : BagL w0 w g b e l (p :: T)) : BagL w0 w g b e l T :=
  Bank.sub h (.cons_cons _ (.cons_cons _ (.cons_cons _ (.cons_cons _ (List.sublist_cons_self _ _)))))
theorem BagL.call {w0 w w' : World} {g : Nat} {b e l : Ls} {T : List Acc} (h : BagL w0 w g b e l T) (hb : Below w.heap.size w w') : BagL w0 w' g b e l T := Bank.call h hb
/-- a list of bytes was put -/
theorem putBytesL_any {w0 : World} (g : Nat) (b e l : Ls) (T : List Acc) (A : Option Addr) (n c : Nat) (w : World) (hB : BagL w0 w g b e l T) (hn : b.n ≤ 1000000) :
    Calls Tryz.prog 85 #[.pointer (some ⟨g, 0, none⟩), .slice A n c] w fun r w' => r = .returned (.tuple #[]) ∧ ∃ b', b.more b' [.slice A n c] ∧ BagL w0 w' g b' e l T := by
  refine (putBytesB_any g 0 1 (bag3 b.v e.v l.v) b.A b.n b.c b.xs A n c w hB rfl rfl (by decide) rfl rfl hn).mono ?_
  rintro r w' ⟨A', c', rfl, h⟩
  exact ⟨rfl, (⟨A', b.n + 1, c', b.xs ++ [Value.slice A n c]⟩ : Ls), ⟨rfl, rfl⟩, h⟩
set_option maxHeartbeats 4000000 in
set_option maxRecDepth 100000 in
theorem oneEntryL_any {w0 : World} (g : Nat) (b e l : Ls) (T : List Acc) (t v s : Int) (kd : BitVec 8) (gd : Bool) (A : Option Addr) (n c : Nat) (w : World) (hB : BagL w0 w g b e l T) (hn : b.n ≤ 1000000) :
    Calls Tryz.prog 127 #[.pointer (some ⟨g, 0, none⟩), .agg #[.int .i64 t, B8 kd, .int .i64 v, .int .i64 s, .bool gd, .slice A n c]] w fun r w' => r = .returned (.tuple #[]) ∧ ∃ b', b.more b' [.slice A n c] ∧ BagL w0 w' g b' e l T := by
  have HB := Lib.hid (hB.box #[.int .i64 t, B8 kd, .int .i64 v, .int .i64 s, .bool gd, .slice A n c] 42 (by simp))
  clear hB
  go_enter Tryz.func127, Tryz.ntmps127
  go_wp2_with fail
  generalize w.alloc (.cells #[.int .i64 t, B8 kd, .int .i64 v, .int .i64 s, .bool gd, .slice A n c] 42) = w1 at *
  refine (putBytesL_any g b e l _ A n c w1 HB.out hn).mono ?_
  rintro r w2 ⟨rfl, b', hm, hB2⟩
  have HM := Lib.hid hm
  have HF := Lib.hid hB2.tail
  clear hm hB2 HB
  go_wp2_with fail
  go_end0
  exact ⟨rfl, b', HM.out, HF.out⟩
def EV.v (x : EV) : Value := .slice x.A x.n x.c
set_option maxHeartbeats 8000000 in
set_option maxRecDepth 100000 in
theorem putEntriesL_any {w0 : World} (g : Nat) (b e l : Ls) (T : List Acc) (A : Option Addr) (n c : Nat) (evs : List EV) (w : World) (hB : BagL w0 w g b e l T) (hT : evsAcc A n c evs ∈ T) (hl : evs.length = n) (hn : b.n + n ≤ 1000000) (he : e.n ≤ 1000000) :
    Calls Tryz.prog 93 #[.pointer (some ⟨g, 0, none⟩), .slice A n c] w fun r w' => r = .returned (.tuple #[]) ∧ ∃ b' e', b.more b' (evs.map EV.v) ∧ e.more e' [.slice A n c] ∧ BagL w0 w' g b' e' l T := by
  have HB := Lib.hid hB; have HT := Lib.hid hT; have HL := Lib.hid hl
  have c15 := Bank.cell hB 0 rfl 15 rfl
  have hev : e.v = .slice e.A e.n e.c := rfl
  rw [hev] at c15
  clear hB hT hl hev
  go_enter Tryz.func93, Tryz.ntmps93
  go_wp2_with (first
    | (at_builtin; refine wpList_append_bankG (Bank.alloc HB.out _) rfl (.tmp 9) (.tmp 11) 73 rfl 26 (.slice none 0 0) 1 24 infoLEnt Tryz.underlying73 rfl (by decide) 2 e.A e.n e.c e.xs rfl rfl ⟨w.heap.size, 0, none⟩ 1 1 [.slice A n c] rfl rfl (cell_last _ _ _) (by intro u hu; simp at hu; subst hu; rfl) (by unfold maxLen; omega) (by omega) ?_; intro A2 n2 c2 w1 hn2 hB1 _ _; have d15 := hB1.cell 0 rfl 15 rfl; have f15 := hB1.free 0 rfl 15; have BK2 := Lib.hid (Bank.boxSet hB1 0 rfl 15 (.slice A2 n2 c2)); have HN := Lib.hid hn2; clear hB1 hn2)
    | (with_reducible refine wpList_store_one rfl 73 (.tmp 14) (.tmp 12) rfl ⟨g, 15, none⟩ _ _ rfl rfl rfl (by kernel_rfl) d15 f15 ?_))
  generalize w1.setCell ⟨g, 15, none⟩ (.slice A2 n2 c2) = w2 at *
  clear d15 f15 HB c15
  have HB2 := Lib.hid (show BagL w0 w2 g b ⟨A2, n2, c2, e.xs ++ [.slice A n c]⟩ l T from BK2.out)
  have HE2 := Lib.hid (show e.more ⟨A2, n2, c2, e.xs ++ [.slice A n c]⟩ [.slice A n c] from ⟨HN.out, rfl⟩)
  clear BK2 HN
  go_loopw [4] (fun i wr => ∃ q b', q ≤ n ∧ i = .int .i64 (q : Int) ∧ b.more b' ((evs.take q).map EV.v) ∧ BagL w0 wr g b' ⟨A2, n2, c2, e.xs ++ [.slice A n c]⟩ l T) (fun i _ => n - (intOf i).toNat)
  case atStart => exact ⟨0, b, Nat.zero_le _, rfl, Ls.more_nil _, HB2.out⟩
  case round =>
    clear HB2
    obtain ⟨q, b', hq, rfl, hm, hb⟩ := hrel
    have HM := Lib.hid hm; have HB := Lib.hid hb
    clear hm hb
    have q0 : (0 : Int) ≤ (q : Int) := by omega
    rcases Nat.lt_or_ge q n with h1 | h1
    · have i1 : (q : Int) < (n : Int) := by omega
      have hqe : q < evs.length := by rw [HL.out]; exact h1
      have ho := Bank.own HB.out _ (List.mem_cons_of_mem _ (List.mem_cons_of_mem _ (List.mem_cons_of_mem _ (List.mem_cons_of_mem _ HT.out))))
      have hA : ∃ gE, A = some ⟨gE, 0, none⟩ := by
        rcases ho.2 with ⟨h0, _⟩ | ⟨gE, cap, cur, hv, _⟩
        · exfalso
          simp only [evsAcc, Value.slice.injEq] at h0
          omega
        · simp only [evsAcc, Value.slice.injEq] at hv
          exact ⟨gE, hv.1⟩
      obtain ⟨gE, rfl⟩ := hA
      have hr : wr.rangeAt gE (q * 6) (evs[q]).cells := fun j u hu => by
        have hj : j < 6 := (List.getElem?_eq_some_iff.1 hu).1
        exact ((World.ownsRow.cellAt ho (q * 6 + j) (by show _ < n * 6; omega)).trans (flat6 evs q j hqe hj)).trans hu
      have htk : evs.take (q + 1) = evs.take q ++ [evs[q]] := List.take_succ_eq_append_getElem hqe
      have HTK := Lib.hid htk
      clear ho htk
      generalize evs[q] = x at *
      have hr' : wr.rangeAt gE (q * 6) [.int .i64 x.e.term, B8 x.e.kind, .int .i64 x.e.version, .int .i64 x.e.server, .bool x.e.good, .slice x.A x.n x.c] := hr
      have HR := Lib.hid hr'
      have hb1 : b'.n + 1 ≤ b.n + n := by have h := HM.out.1; rw [List.length_map, List.length_take] at h; omega
      clear hr hr'
      go_wp2_with (first
        | (refine wpList_load_mid rfl 42 (.tmp 24) rfl gE (q * 6) rfl [.int .i64 x.e.term, B8 x.e.kind, .int .i64 x.e.version, .int .i64 x.e.server, .bool x.e.good, .slice x.A x.n x.c] _ HR.out Tryz.underlying42 rfl G.sizeEntries ?_)
        | (go_at_call 127; refine (oneEntryL_any g b' _ l T x.e.term x.e.version x.e.server x.e.kind x.e.good x.A x.n x.c wr HB.out (by omega)).mono ?_; rintro r w3 ⟨rfl, b2, hm2, hb2⟩; have HM2 := Lib.hid (Ls.more_trans HM.out hm2); have HB3 := Lib.hid hb2; clear hm2 hb2))
      go_roundw
      case rel => exact ⟨q + 1, b2, by omega, by go_num, by rw [HTK.out, List.map_append]; exact HM2.out, HB3.out⟩
      case measure => simp [intOf]; omega
    · have i1 : ¬ (q : Int) < (n : Int) := by omega
      have hqn : q = n := by omega
      have HM2 := Lib.hid (show b.more b' (evs.map EV.v) by have h := HM.out; rw [hqn, ← HL.out, List.take_length] at h; exact h)
      clear hqn HM
      go_wp2
      go_end0
      exact ⟨rfl, b', HM2.out, _, HE2.out, HB.out⟩
set_option maxHeartbeats 4000000 in
set_option maxRecDepth 100000 in
theorem oneLetterL_any {w0 : World} (g : Nat) (b e l : Ls) (T : List Acc) (x : M.Let) (A : Option Addr) (n c : Nat) (evs : List EV) (w : World) (hB : BagL w0 w g b e l T) (hT : evsAcc A n c evs ∈ T) (hl : evs.length = n) (hn : b.n + n ≤ 1000000) (he : e.n ≤ 1000000) :
    Calls Tryz.prog 54 #[.pointer (some ⟨g, 0, none⟩), .agg #[B8 x.kind, .int .i64 x.src, .int .i64 x.dst, .int .i64 x.term, .int .i64 x.index, .int .i64 x.was, .bool x.ok, .int .i64 x.commit, .int .i64 x.version, .slice A n c]] w fun r w' => r = .returned (.tuple #[]) ∧ ∃ b' e', b.more b' (evs.map EV.v) ∧ e.more e' [.slice A n c] ∧ BagL w0 w' g b' e' l T := by
  have HB := Lib.hid (hB.box #[B8 x.kind, .int .i64 x.src, .int .i64 x.dst, .int .i64 x.term, .int .i64 x.index, .int .i64 x.was, .bool x.ok, .int .i64 x.commit, .int .i64 x.version, .slice A n c] 28 (by simp))
  have HT := Lib.hid hT; have HL := Lib.hid hl
  clear hB hT hl
  go_enter Tryz.func54, Tryz.ntmps54
  go_wp2_with fail
  generalize w.alloc (.cells #[B8 x.kind, .int .i64 x.src, .int .i64 x.dst, .int .i64 x.term, .int .i64 x.index, .int .i64 x.was, .bool x.ok, .int .i64 x.commit, .int .i64 x.version, .slice A n c] 28) = w1 at *
  refine (putEntriesL_any g b e l _ A n c evs w1 HB.out (List.mem_cons_of_mem _ HT.out) HL.out hn he).mono ?_
  rintro r w2 ⟨rfl, b', e', hm, hm2, hB2⟩
  have HM := Lib.hid hm; have HM2 := Lib.hid hm2
  have HF := Lib.hid hB2.tail
  clear hm hm2 hB2 HB
  go_wp2_with fail
  go_end0
  exact ⟨rfl, b', e', HM.out, HM2.out, HF.out⟩
set_option maxHeartbeats 8000000 in
set_option maxRecDepth 100000 in
/-- a list of one letter -/
theorem putLettersL_any {w0 : World} (g : Nat) (b e l : Ls) (T : List Acc) (gl : Nat) (x : M.Let) (A : Option Addr) (n c : Nat) (evs : List EV) (w : World) (hB : BagL w0 w g b e l T) (hT : evsAcc A n c evs ∈ T)
    (hG : boxAcc gl 28 [B8 x.kind, .int .i64 x.src, .int .i64 x.dst, .int .i64 x.term, .int .i64 x.index, .int .i64 x.was, .bool x.ok, .int .i64 x.commit, .int .i64 x.version, .slice A n c] ∈ T) (hl : evs.length = n) (hn : b.n + n ≤ 1000000) (he : e.n ≤ 1000000) (hll : l.n ≤ 1000000) :
    Calls Tryz.prog 32 #[.pointer (some ⟨g, 0, none⟩), .slice (some ⟨gl, 0, none⟩) 1 1] w fun r w' => r = .returned (.tuple #[]) ∧ ∃ b' e' l', b.more b' (evs.map EV.v) ∧ e.more e' [.slice A n c] ∧ l.more l' [.slice (some ⟨gl, 0, none⟩) 1 1] ∧ BagL w0 w' g b' e' l' T := by
  have HB := Lib.hid hB; have HT := Lib.hid hT; have HL := Lib.hid hl; have HG := Lib.hid hG
  have c18 := Bank.cell hB 0 rfl 18 rfl
  have hev : l.v = .slice l.A l.n l.c := rfl
  rw [hev] at c18
  clear hB hT hl hev hG
  go_enter Tryz.func32, Tryz.ntmps32
  go_wp2_with (first
    | (at_builtin; refine wpList_append_bankG (Bank.alloc HB.out _) rfl (.tmp 9) (.tmp 11) 36 rfl 35 (.slice none 0 0) 1 24 infoLLet Tryz.underlying36 rfl (by decide) 3 l.A l.n l.c l.xs rfl rfl ⟨w.heap.size, 0, none⟩ 1 1 [.slice (some ⟨gl, 0, none⟩) 1 1] rfl rfl (cell_last _ _ _) (by intro u hu; simp at hu; subst hu; rfl) (by unfold maxLen; omega) (by omega) ?_; intro A2 n2 c2 w1 hn2 hB1 _ _; have d18 := hB1.cell 0 rfl 18 rfl; have f18 := hB1.free 0 rfl 18; have BK2 := Lib.hid (Bank.boxSet hB1 0 rfl 18 (.slice A2 n2 c2)); have HN := Lib.hid hn2; clear hB1 hn2)
    | (with_reducible refine wpList_store_one rfl 36 (.tmp 14) (.tmp 12) rfl ⟨g, 18, none⟩ _ _ rfl rfl rfl (by kernel_rfl) d18 f18 ?_))
  generalize w1.setCell ⟨g, 18, none⟩ (.slice A2 n2 c2) = w2 at *
  clear d18 f18 HB c18
  have HB2 := Lib.hid (show BagL w0 w2 g b e ⟨A2, n2, c2, l.xs ++ [.slice (some ⟨gl, 0, none⟩) 1 1]⟩ T from BK2.out)
  have HE2 := Lib.hid (show l.more ⟨A2, n2, c2, l.xs ++ [.slice (some ⟨gl, 0, none⟩) 1 1]⟩ [.slice (some ⟨gl, 0, none⟩) 1 1] from ⟨HN.out, rfl⟩)
  have ho := Bank.own BK2.out _ (List.mem_cons_of_mem _ (List.mem_cons_of_mem _ (List.mem_cons_of_mem _ (List.mem_cons_of_mem _ HG.out))))
  have hr : w2.rangeAt gl 0 [B8 x.kind, .int .i64 x.src, .int .i64 x.dst, .int .i64 x.term, .int .i64 x.index, .int .i64 x.was, .bool x.ok, .int .i64 x.commit, .int .i64 x.version, .slice A n c] := fun j u hu => by
    have hj : j < 10 := (List.getElem?_eq_some_iff.1 hu).1
    rw [Nat.zero_add]
    exact (World.ownsRow.cellAt ho j (by show _ < 10 * 1; omega)).trans hu
  have HR := Lib.hid hr
  clear BK2 HN ho hr HG
  refine wp_loop_rounds 2 ?_
  rw [rounds_succ]
  go_wp2_with (first
    | (refine wpList_load_mid rfl 28 (.tmp 24) rfl gl 0 rfl [B8 x.kind, .int .i64 x.src, .int .i64 x.dst, .int .i64 x.term, .int .i64 x.index, .int .i64 x.was, .bool x.ok, .int .i64 x.commit, .int .i64 x.version, .slice A n c] _ HR.out Tryz.underlying28 rfl G.sizeLetters ?_)
    | (go_at_call 54; refine (oneLetterL_any g b e _ T x A n c evs w2 HB2.out HT.out HL.out hn he).mono ?_; rintro r w3 ⟨rfl, b', e', hm, hm2, hB3⟩; have HM := Lib.hid hm; have HM2 := Lib.hid hm2; have HB3 := Lib.hid hB3; clear hm hm2 hB3))
  rw [rounds_succ]
  go_wp2_with fail
  go_end0
  exact ⟨rfl, b', e', _, HM.out, HM2.out, HE2.out, HB3.out⟩
end Go.Proofs.YtdmpphioflcofaaGreat.K
