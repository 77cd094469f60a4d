/- Merged: WireEntry, FromB, Held, LetPut, KitLetter, SameLetter, LetRefMath, RefRight0, RefRight12. -/
import Derived.Test.YtdmpphioflcofaaLq4
import Derived.Deep.RegionHeld3
import Derived.Deep.DeepCutAuto
import Derived.Deep.RegionLaw
/- The contract of wire.Entry. -/
namespace Go.Proofs.Ytdmpphioflcofaa.K
open Go Go.RowKit

theorem truth_any (b : Bool) (w : World) : Calls Try.prog 41 #[.bool b] w fun e w' => e = .returned (.int .i64 (M.flag b)) ∧ w = w' := by
  cases b
  · go_enter Try.func41, Try.ntmps41
    go_wp2
    go_ret
    exact ⟨rfl, rfl⟩
  · go_enter Try.func41, Try.ntmps41
    go_wp2
    go_ret
    exact ⟨rfl, rfl⟩
theorem conv_B8_int {P : Program} (w : World) (src dst : TypeId) (x : BitVec 8) (hs : P.underlying src = some (.int .u8)) (hd : P.underlying dst = some (.int .i64)) : (convert src dst (B8 x)).run P w = .ok (.int .i64 (x.toNat : Int)) w := by
  have hx := x.isLt
  have h : IntKind.i64.wrap (x.toNat : Int) = (x.toNat : Int) := IntWalk.i64_in _ (by omega)
  simp [convert, run_underlying hs, run_underlying hd, Conv.intToInt, B8, h]
/-- an entry as a value; its Data lies at A -/
def entV (e : M.Ent) (A : Option Addr) (n c : Nat) : Value := .agg #[.int .i64 e.term, B8 e.kind, .int .i64 e.version, .int .i64 e.server, .bool e.good, .slice A n c]
def entCells (e : M.Ent) (A : Option Addr) (n c : Nat) : Array Value := #[.int .i64 e.term, B8 e.kind, .int .i64 e.version, .int .i64 e.server, .bool e.good, .slice A n c]
abbrev sixRows (a b c d e f : Rw) (xa xb xc xd xe xf : List (BitVec 8)) : List (Rw × List (BitVec 8)) := [(a, xa), (b, xb), (c, xc), (d, xd), (e, xe), (f, xf)]
theorem six_mem {P : Rw × List (BitVec 8) → Prop} {a b c d e f : Rw} {xa xb xc xd xe xf : List (BitVec 8)} (h1 : P (a, xa)) (h2 : P (b, xb)) (h3 : P (c, xc)) (h4 : P (d, xd)) (h5 : P (e, xe)) (h6 : P (f, xf)) : ∀ p ∈ sixRows a b c d e f xa xb xc xd xe xf, P p := by
  intro p hp
  simp only [List.mem_cons, List.mem_nil_iff, or_false] at hp
  rcases hp with rfl | rfl | rfl | rfl | rfl | rfl <;> assumption

set_option maxHeartbeats 2000000 in
set_option maxRecDepth 100000 in
theorem wentry_any (t k v s g : Int) (K : BitVec 8) (G : Bool) (A : Option Addr) (n c : Nat) (bs : List (BitVec 8)) (w : World) (hr : RowRd w ⟨A, n, c⟩ bs) (hn2 : n ≤ 1000000000000) (hk : k = (K.toNat : Int)) (hg : g = M.flag G) :
    Calls Try.prog 22 #[.agg #[.int .i64 t, B8 K, .int .i64 v, .int .i64 s, .bool G, .slice A n c]] w fun e w' => ∃ g N c', e = .returned (.slice (some ⟨g, 0, none⟩) N c') ∧ N = (M.ent ⟨t, K, v, s, G, bs⟩).length ∧ w'.ownsRow w.heap.size 5 1 (.slice (some ⟨g, 0, none⟩) N c') N (bv (M.ent ⟨t, K, v, s, G, bs⟩)) ∧ Below w.heap.size w w' := by
  have hcv := fun w => conv_B8_int (P := Try.prog) w 46 3 K Try.underlying46 Try.underlying3
  rw [← hk] at hcv
  have htr : ∀ w, Calls Try.prog 41 #[.bool G] w fun e w' => e = .returned (.int .i64 g) ∧ w = w' := fun w => by rw [hg]; exact truth_any G w
  have hr0 : RowRd (w.alloc (.cells #[.int .i64 t, B8 K, .int .i64 v, .int .i64 s, .bool G, .slice A n c] 48)) ⟨A, n, c⟩ bs := hr.below ((Below.refl _ _).alloc (Nat.le_refl _) _)
  have HR := Lib.hid hr0; have HK := Lib.hid hk; have HG := Lib.hid hg; have HTR := Lib.hid htr
  have hlb : bs.length = n := hr.len
  have HLB := Lib.hid hlb
  clear hr hk hg htr hr0 hlb
  go_enter Try.func22, Try.ntmps22
  go_wp2_with fail
  have x0 : (w.alloc (.cells #[.int .i64 t, B8 K, .int .i64 v, .int .i64 s, .bool G, .slice A n c] 48)).cell? ⟨w.heap.size, 0, none⟩ = some (.int .i64 t) := by rw [World.cell?_alloc_new]; rfl
  have x1 : (w.alloc (.cells #[.int .i64 t, B8 K, .int .i64 v, .int .i64 s, .bool G, .slice A n c] 48)).cell? ⟨w.heap.size, 1, none⟩ = some (B8 K) := by rw [World.cell?_alloc_new]; rfl
  have x2 : (w.alloc (.cells #[.int .i64 t, B8 K, .int .i64 v, .int .i64 s, .bool G, .slice A n c] 48)).cell? ⟨w.heap.size, 2, none⟩ = some (.int .i64 v) := by rw [World.cell?_alloc_new]; rfl
  have x3 : (w.alloc (.cells #[.int .i64 t, B8 K, .int .i64 v, .int .i64 s, .bool G, .slice A n c] 48)).cell? ⟨w.heap.size, 3, none⟩ = some (.int .i64 s) := by rw [World.cell?_alloc_new]; rfl
  have x4 : (w.alloc (.cells #[.int .i64 t, B8 K, .int .i64 v, .int .i64 s, .bool G, .slice A n c] 48)).cell? ⟨w.heap.size, 4, none⟩ = some (.bool G) := by rw [World.cell?_alloc_new]; rfl
  have x5 : (w.alloc (.cells #[.int .i64 t, B8 K, .int .i64 v, .int .i64 s, .bool G, .slice A n c] 48)).cell? ⟨w.heap.size, 5, none⟩ = some (.slice A n c) := by rw [World.cell?_alloc_new]; rfl
  have hb0 : Below w.heap.size w (w.alloc (.cells #[.int .i64 t, B8 K, .int .i64 v, .int .i64 s, .bool G, .slice A n c] 48)) := (Below.refl _ _).alloc (Nat.le_refl _) _
  have hs0 : (w.alloc (.cells #[.int .i64 t, B8 K, .int .i64 v, .int .i64 s, .bool G, .slice A n c] 48)).heap.size = w.heap.size + 1 := by simp
  have HB0 := Lib.hid hb0
  clear hb0
  generalize w.alloc (.cells #[.int .i64 t, B8 K, .int .i64 v, .int .i64 s, .bool G, .slice A n c] 48) = w0 at *
  have hs0' : w.heap.size < w0.heap.size := by omega
  clear hs0
  go_region_held3 (fun w' => w'.cell? ⟨w.heap.size, 0, none⟩ = some (.int .i64 t) ∧ w'.cell? ⟨w.heap.size, 1, none⟩ = some (B8 K) ∧ w'.cell? ⟨w.heap.size, 2, none⟩ = some (.int .i64 v) ∧ w'.cell? ⟨w.heap.size, 3, none⟩ = some (.int .i64 s) ∧ w'.cell? ⟨w.heap.size, 4, none⟩ = some (.bool G) ∧ w'.cell? ⟨w.heap.size, 5, none⟩ = some (.slice A n c))
    (first
      | (go_split_ands; refine ⟨?_, ?_, ?_, ?_, ?_, ?_⟩ <;> assumption)
      | (go_split_ands; refine ⟨?_, ?_, ?_, ?_, ?_, ?_⟩ <;> (rw [hb7.cell (by simp; omega)]; assumption))
      | (go_split_ands; refine ⟨?_, ?_, ?_, ?_, ?_, ?_⟩ <;> (rw [hb6.cell (by show w.heap.size < _; omega)]; assumption))
      | (go_split_ands; refine ⟨?_, ?_, ?_, ?_, ?_, ?_⟩ <;> (rw [hb5.cell (by show w.heap.size < _; omega)]; assumption))
      | (go_split_ands; refine ⟨?_, ?_, ?_, ?_, ?_, ?_⟩ <;> (rw [hb4.cell (by show w.heap.size < _; omega)]; assumption))
      | (go_split_ands; refine ⟨?_, ?_, ?_, ?_, ?_, ?_⟩ <;> (rw [hb3.cell (by show w.heap.size < _; omega)]; assumption))
      | (go_split_ands; refine ⟨?_, ?_, ?_, ?_, ?_, ?_⟩ <;> (rw [hb2.cell (by show w.heap.size < _; omega)]; assumption))
      | (go_split_ands; refine ⟨?_, ?_, ?_, ?_, ?_, ?_⟩ <;> (rw [hb1.cell (by show w.heap.size < _; omega)]; assumption))
      | go_keep)
    (first
      | (go_at_call 39; ((with_reducible refine (wnum_any t _).mono ?_); rintro e w1 ⟨g1, rfl, ho1, hb1'⟩; have hb1 := below_of_drew hb1'; have hs1 := hb1.size; clear hb1'))
      | (go_at_call 39; ((with_reducible refine (wnum_any k _).mono ?_); rintro e w2 ⟨g2, rfl, ho2, hb2⟩; have hs2 := hb2.size))
      | (go_at_call 39; ((with_reducible refine (wnum_any v _).mono ?_); rintro e w3 ⟨g3, rfl, ho3, hb3⟩; have hs3 := hb3.size))
      | (go_at_call 39; ((with_reducible refine (wnum_any s _).mono ?_); rintro e w4 ⟨g4, rfl, ho4, hb4⟩; have hs4 := hb4.size))
      | (go_at_call 41; ((with_reducible refine (HTR.out _).mono ?_); rintro e wt ⟨rfl, rfl⟩))
      | (go_at_call 39; ((with_reducible refine (wnum_any g _).mono ?_); rintro e w5 ⟨g5, rfl, ho5, hb5⟩; have hs5 := hb5.size))
      | (go_at_call 42; ((with_reducible refine (wbytes_any A n c bs _ ?_ ?_).mono ?_); (exact ((((HR.out.below hb1).below hb2).below hb3).below hb4).below hb5); (omega); rintro e w6 ⟨g6, N6, c6, rfl, hN6, ho6, hb6⟩; have hs6 := hb6.size; have HN6 := Lib.hid hN6; clear hN6))
      | (go_at_call 40; ((with_reducible refine (join_any (some ⟨w6.heap.size, 0, none⟩) 6 6 (rowsOf (sixRows ⟨some ⟨g1, 0, none⟩, 8, 8⟩ ⟨some ⟨g2, 0, none⟩, 8, 8⟩ ⟨some ⟨g3, 0, none⟩, 8, 8⟩ ⟨some ⟨g4, 0, none⟩, 8, 8⟩ ⟨some ⟨g5, 0, none⟩, 8, 8⟩ ⟨some ⟨g6, 0, none⟩, N6, c6⟩ (M.num t) (M.num k) (M.num v) (M.num s) (M.num g) (M.blob bs))) (bytesAt (sixRows ⟨some ⟨g1, 0, none⟩, 8, 8⟩ ⟨some ⟨g2, 0, none⟩, 8, 8⟩ ⟨some ⟨g3, 0, none⟩, 8, 8⟩ ⟨some ⟨g4, 0, none⟩, 8, 8⟩ ⟨some ⟨g5, 0, none⟩, 8, 8⟩ ⟨some ⟨g6, 0, none⟩, N6, c6⟩ (M.num t) (M.num k) (M.num v) (M.num s) (M.num g) (M.blob bs))) _ ?_ ?_ ?_).mono ?_); (refine parts_of (sixRows ⟨some ⟨g1, 0, none⟩, 8, 8⟩ ⟨some ⟨g2, 0, none⟩, 8, 8⟩ ⟨some ⟨g3, 0, none⟩, 8, 8⟩ ⟨some ⟨g4, 0, none⟩, 8, 8⟩ ⟨some ⟨g5, 0, none⟩, 8, 8⟩ ⟨some ⟨g6, 0, none⟩, N6, c6⟩ (M.num t) (M.num k) (M.num v) (M.num s) (M.num g) (M.blob bs)) rfl (six_mem ?_ ?_ ?_ ?_ ?_ ?_); (exact ((((((RowRd.of_row ho1).below hb2).below hb3).below hb4).below hb5).below hb6)); (exact (((((RowRd.of_row ho2).below hb3).below hb4).below hb5).below hb6)); (exact ((((RowRd.of_row ho3).below hb4).below hb5).below hb6)); (exact (((RowRd.of_row ho4).below hb5).below hb6)); (exact ((RowRd.of_row ho5).below hb6)); (exact (RowRd.of_row ho6))); (omega); (rw [show (6 : Nat) = (sixRows ⟨some ⟨g1, 0, none⟩, 8, 8⟩ ⟨some ⟨g2, 0, none⟩, 8, 8⟩ ⟨some ⟨g3, 0, none⟩, 8, 8⟩ ⟨some ⟨g4, 0, none⟩, 8, 8⟩ ⟨some ⟨g5, 0, none⟩, 8, 8⟩ ⟨some ⟨g6, 0, none⟩, N6, c6⟩ (M.num t) (M.num k) (M.num v) (M.num s) (M.num g) (M.blob bs)).length from rfl, joined_all]; have := HN6.out; simp [M.num_length, M.blob_length]; have := HLB.out; omega); rintro e w7 ⟨A7, N7, c7, rfl, hN7, ho7, hb7⟩; have HN7 := Lib.hid hN7; clear hN7)))
  have hT : (List.map (·.2) (sixRows ⟨some ⟨g1, 0, none⟩, 8, 8⟩ ⟨some ⟨g2, 0, none⟩, 8, 8⟩ ⟨some ⟨g3, 0, none⟩, 8, 8⟩ ⟨some ⟨g4, 0, none⟩, 8, 8⟩ ⟨some ⟨g5, 0, none⟩, 8, 8⟩ ⟨some ⟨g6, 0, none⟩, N6, c6⟩ (M.num t) (M.num k) (M.num v) (M.num s) (M.num g) (M.blob bs))).flatten = M.ent ⟨t, K, v, s, G, bs⟩ := by
    rw [HK.out, HG.out]; simp [M.ent]
  have hN7 := HN7.out
  rw [show (6 : Nat) = (sixRows ⟨some ⟨g1, 0, none⟩, 8, 8⟩ ⟨some ⟨g2, 0, none⟩, 8, 8⟩ ⟨some ⟨g3, 0, none⟩, 8, 8⟩ ⟨some ⟨g4, 0, none⟩, 8, 8⟩ ⟨some ⟨g5, 0, none⟩, 8, 8⟩ ⟨some ⟨g6, 0, none⟩, N6, c6⟩ (M.num t) (M.num k) (M.num v) (M.num s) (M.num g) (M.blob bs)).length from rfl, joined_all, hT] at hN7 ho7
  have hlb := HLB.out
  have hN7' : 48 ≤ N7 := by rw [hN7]; simp [M.ent, M.num_length, M.blob_length]; omega
  obtain ⟨g7, c8, e, _, _⟩ := ho7.form (by omega)
  simp only [Value.slice.injEq, true_and] at e
  obtain ⟨rfl, rfl⟩ := e
  have h06 := ((((((hb1.trans (hb2.mono hb1.size)).trans (hb3.mono (by omega))).trans (hb4.mono (by omega))).trans (hb5.mono (by omega))).trans (hb6.mono (by omega)))).mono (Nat.le_of_lt hs0')
  have hw6 : w.heap.size ≤ w6.heap.size := by omega
  have ho8 := row_weaken ho7 (base' := w.heap.size) (by simp; omega)
  have h8 := HB0.out.trans ((h06.alloc hw6 (.cells ((sixRows ⟨some ⟨g1, 0, none⟩, 8, 8⟩ ⟨some ⟨g2, 0, none⟩, 8, 8⟩ ⟨some ⟨g3, 0, none⟩, 8, 8⟩ ⟨some ⟨g4, 0, none⟩, 8, 8⟩ ⟨some ⟨g5, 0, none⟩, 8, 8⟩ ⟨some ⟨g6, 0, none⟩, N6, c6⟩ (M.num t) (M.num k) (M.num v) (M.num s) (M.num g) (M.blob bs)).map fun p => p.1.v).toArray 29)).trans (hb7.mono (by simp; omega)))
  have HO8 := Lib.hid ho8; have H8 := Lib.hid h8; have HN8 := Lib.hid hN7
  clear ho1 ho2 ho3 ho4 ho5 ho6 ho7 hb1 hb2 hb3 hb4 hb5 hb6 hb7 h06 ho8 h8 hN7 hT x0 x1 x2 x3 x4 x5
  go_wp2
  go_ret
  exact ⟨g7, N7, c7, rfl, HN8.out, HO8.out, H8.out⟩
end Go.Proofs.Ytdmpphioflcofaa.K

/- Numbers and bytes written, told from an elder world. -/
namespace Go.Proofs.Ytdmpphioflcofaa.K
open Go Go.RowKit

theorem num_made (n : Int) (w : World) : Calls Try.prog 39 #[.int .i64 n] w (Made w (M.num n)) :=
  (wnum_any n w).mono fun e w' ⟨g, he, ho, hb⟩ => ⟨g, 8, 8, he, rfl, ho, hb⟩
theorem rnum_made (n : Int) (w : World) : Calls Try.prog 24 #[.int .i64 n] w (Made w (M.num n)) :=
  (rnum_any n w).mono fun e w' ⟨g, c, he, ho, hb⟩ => ⟨g, 8, c, he, rfl, ho, hb⟩
theorem bytes_made {w0 : World} {A : Option Addr} {n c : Nat} {bs : List (BitVec 8)} (hr : RowRd w0 ⟨A, n, c⟩ bs) (hn : n ≤ 1000000000000) {w : World} (h : Since w0 w) : Calls Try.prog 42 #[.slice A n c] w (Made w (M.blob bs)) :=
  (wbytes_any A n c bs w (h.row hr) (by omega)).mono fun e w' ⟨g, N, c', he, hN, ho, hb⟩ => ⟨g, N, c', he, by rw [M.blob_length, hr.len]; exact hN, ho, hb⟩
theorem rbytes_made {w0 : World} {A : Option Addr} {n c : Nat} {bs : List (BitVec 8)} (hr : RowRd w0 ⟨A, n, c⟩ bs) (hn : n ≤ 1000000000000) {w : World} (h : Since w0 w) : Calls Try.prog 43 #[.slice A n c] w (Made w (M.blob bs)) :=
  (rbytes_any A n c bs w (h.row hr) (by omega)).mono fun e w' ⟨g, N, c', he, hN, ho, hb⟩ => ⟨g, N, c', he, by rw [M.blob_length, hr.len]; exact hN, ho, hb⟩
end Go.Proofs.Ytdmpphioflcofaa.K

/- A reader beside a bank: its block and what it reads of are none of the bank's. Plain lemmas over any program. -/
namespace Go.Proofs.Ytdmpphioflcofaa.K
open Go Go.RowKit

theorem Bank.sub {w0 w : World} {L L' : List Acc} (h : Bank w0 w L) (hs : L'.Sublist L) : Bank w0 w L' := ⟨h.since, fun p hp => h.own p (hs.subset hp), h.sep.sublist hs⟩
structure Held (w0 w : World) (Q : World → M.Rdr → Prop) (s : M.Rdr) (R : Nat) (Bd : Option Addr) (L : List Acc) : Prop where
  bank : Bank w0 w L
  q : Q w s
  keep : ∀ w w' s (row : Option Nat), Q w s → w.grownBy w' row → row ≠ some R → (∀ a, Bd = some a → row ≠ some a.block) → Q w' s
  lt : R < w.heap.size ∧ ∀ a, Bd = some a → a.block < w.heap.size
  base : w0.heap.size ≤ R
  away : ∀ p ∈ L, ∀ b, p.v.ownBlock = some b → b ≠ R ∧ ∀ a, Bd = some a → b ≠ a.block
section
variable {w0 w w' : World} {Q : World → M.Rdr → Prop} {s s' : M.Rdr} {R : Nat} {Bd : Option Addr} {L : List Acc}
theorem Held.step (h : Held w0 w Q s R Bd L) (hq : Q w' s') (hg : w.grownBy w' (some R)) : Held w0 w' Q s' R Bd L :=
  ⟨h.bank.other hg h.base (fun p hp e => (h.away p hp R e).1 rfl), hq, h.keep, ⟨Nat.lt_of_lt_of_le h.lt.1 hg.size, fun a e => Nat.lt_of_lt_of_le (h.lt.2 a e) hg.size⟩, h.base, h.away⟩
theorem Held.row (h : Held w0 w Q s R Bd L) (hq : Q w' s') (hg : w.grownBy w' (some R)) {e : TypeId} {size m : Nat} {v : Value} {xs : List Value} (ho : w'.ownsRow w.heap.size e size v m xs) : Held w0 w' Q s' R Bd (⟨v, m, e, size, xs⟩ :: L) := by
  have h1 := h.step hq hg
  refine ⟨h1.bank.add ho h.bank.since.size (fun p hp b hb => (h.bank.lt hp hb).2), hq, h.keep, h1.lt, h.base, fun p hp b hb => ?_⟩
  rcases List.mem_cons.1 hp with rfl | hp
  · have h2 := (ho.lt b hb).1
    have h3 := h.lt.1
    exact ⟨by omega, fun a e => by have := h.lt.2 a e; omega⟩
  · exact h.away p hp b hb
theorem Held.call (h : Held w0 w Q s R Bd L) (hb : Below w.heap.size w w') : Held w0 w' Q s R Bd L :=
  ⟨h.bank.call hb, h.keep _ _ _ none h.q (grown_none_of_below hb) (by simp) (fun _ _ => by simp), h.keep, ⟨Nat.lt_of_lt_of_le h.lt.1 hb.size, fun a e => Nat.lt_of_lt_of_le (h.lt.2 a e) hb.size⟩, h.base, h.away⟩
theorem Held.set (h : Held w0 w Q s R Bd L) (i : Nat) {g : Nat} {t : TypeId} {vs : List Value} (hi : L[i]? = some (boxAcc g t vs)) (j : Nat) (v : Value) : Held w0 (w.setCell ⟨g, j, Option.none⟩ v) Q s R Bd (L.set i (boxAcc g t (vs.set j v))) := by
  have ha := h.away _ (List.mem_of_getElem? hi) g rfl
  refine ⟨h.bank.boxSet i hi j v, h.keep _ _ _ (some g) h.q (grownBy_setCell w g j v) (fun e => ha.1 (Option.some.inj e)) (fun a e e2 => ha.2 a e (Option.some.inj e2)), h.keep, ⟨by simpa using h.lt.1, fun a e => by simpa using h.lt.2 a e⟩, h.base, fun p hp b hb => ?_⟩
  rcases List.mem_or_eq_of_mem_set hp with hp | rfl
  · exact h.away p hp b hb
  · have e : b = g := by simpa [boxAcc, Value.ownBlock] using hb.symm
    subst e
    exact ha
theorem Held.box (h : Held w0 w Q s R Bd L) (cs : Array Value) (t : TypeId) (hs : cs.size ≤ 1000000) : Held w0 (w.alloc (.cells cs t)) Q s R Bd (boxAcc w.heap.size t cs.toList :: L) := by
  have h1 := h.call ((Below.refl _ _).alloc (Nat.le_refl _) (.cells cs t))
  refine ⟨h.bank.box cs t hs, h1.q, h.keep, h1.lt, h.base, fun p hp b hb => ?_⟩
  rcases List.mem_cons.1 hp with rfl | hp
  · have e : b = w.heap.size := by simpa [boxAcc, Value.ownBlock] using hb.symm
    have h3 := h.lt.1
    exact ⟨by omega, fun a ea => by have := h.lt.2 a ea; omega⟩
  · exact h.away p hp b hb
/-- a reader that was just made -/
theorem Held.start {w1 : World} (hB : Bank w0 w1 L) (hq : Q w s) (hb : Below w1.heap.size w1 w) (hR : w1.heap.size ≤ R) (hRl : R < w.heap.size) (hBd : ∀ a, Bd = some a → w1.heap.size ≤ a.block ∧ a.block < w.heap.size)
    (keep : ∀ w w' s (row : Option Nat), Q w s → w.grownBy w' row → row ≠ some R → (∀ a, Bd = some a → row ≠ some a.block) → Q w' s) : Held w0 w Q s R Bd L :=
  ⟨hB.call hb, hq, keep, ⟨hRl, fun a e => (hBd a e).2⟩, Nat.le_trans hB.since.size hR, fun p hp b e => by
    have h1 := (hB.lt hp e).2
    exact ⟨by omega, fun a ea => by have := (hBd a ea).1; omega⟩⟩
end
end Go.Proofs.Ytdmpphioflcofaa.K

/- The contracts of letter's numbers and Put. -/
namespace Go.Proofs.Ytdmpphioflcofaa.K
open Go Go.RowKit

set_option maxHeartbeats 2000000 in
set_option maxRecDepth 100000 in
theorem numbers_any (B : Option Addr) (m d : Nat) (ns : List Int) (w : World) (hl : ns.length = m) (hB : IntsRd w B ns) (hm : m ≤ 1000000) :
    Calls Try.prog 21 #[.slice B m d] w (MadeO w (M.nums ns)) := by
  have HB := Lib.hid hB; have HL := Lib.hid hl
  clear hB hl
  go_enter Try.func21, Try.ntmps21
  go_wp2
  go_loopw [3, 8] (fun v i wr => ∃ (k N c : Nat) (A : Option Addr), k ≤ m ∧ i = .int .i64 (k : Int) ∧ v = .slice A N c ∧ N = 8 * k ∧ Bank w wr [rowAcc A N c (M.nums (ns.take k))]) (fun _ i _ => m - (intOf i).toNat)
  case atStart => exact ⟨0, 0, 0, none, by omega, rfl, rfl, rfl, (Bank.nil (Below.refl _ _)).none _ _⟩
  case round =>
    obtain ⟨k, N, c, A, hk, rfl, rfl, hN, hBk⟩ := hrel
    have k0 : (0 : Int) ≤ (k : Int) := by omega
    have BK := Lib.hid hBk
    have HNK := Lib.hid hN
    have hNb : N ≤ 8000000 := by omega
    clear hBk hN
    rcases Nat.lt_or_ge k m with h1 | h1
    · have i1 : (k : Int) < (m : Int) := by omega
      have hkl : k < ns.length := by rw [HL.out]; exact h1
      obtain ⟨b, o, rfl, hc⟩ := HB.out.since BK.out.since k hkl
      go_wp2_with fail
      refine (num_made ns[k] wr).mono ?_
      rintro e w1 ⟨g, N1, c1, rfl, hN1, ho, hs⟩
      have hN8 : N1 = 8 := hN1
      subst hN8
      have BK1 := Lib.hid (BK.out.madeB hs ho)
      clear hs ho hN1 hc
      go_wp2_with (at_builtin; refine wpList_append_bytes BK1.out rfl _ _ 29 rfl 5 infoByte Try.underlying29 1 A N c (M.nums (ns.take k)) rfl rfl _ _ _ (M.num ns[k]) rfl (BK1.out.row 0 rfl) (by omega) ?_; intro A' n' c' w3 hn' hB3; have BK3 := Lib.hid hB3.drop; have HN' := Lib.hid hn'; clear hn' hB3)
      go_roundw
      case rel =>
        refine ⟨k + 1, n', c', A', by omega, by go_num, rfl, by rw [HN'.out, HNK.out]; omega, ?_⟩
        have h := BK3.out
        rw [List.take_succ_eq_append_getElem hkl, M.nums_snoc]
        exact h
      case measure => simp [intOf]; omega
    · have i1 : ¬ (k : Int) < (m : Int) := by omega
      have hkm : k = ns.length := by rw [HL.out]; omega
      have HFIN := Lib.hid (show MadeO w (M.nums ns) (.returned (.slice A N c)) wr from ⟨A, N, c, rfl, by rw [M.nums_length, HL.out, HNK.out]; omega, by have h := BK.out.at 0 rfl; rw [hkm, List.take_length] at h; exact h, BK.out.since⟩)
      clear hkm
      go_wp2
      go_ret
      exact HFIN.out
/-- a letter's bytes, or the error -/
def LPut (w : World) (l : M.Let) (e : Ending) (w' : World) : Prop := ∃ A N c, e = .returned (.tuple #[.slice A N c, .int .i64 (M.lputE l : Int)]) ∧ N = (M.lput l).length ∧ Bank w w' [rowAcc A N c (M.lput l)]
theorem lput_bad {l : M.Let} (h : M.lright l = false) : M.lput l = [] ∧ M.lputE l = 4 := by
  unfold M.lput M.lputE
  rw [h]
  exact ⟨rfl, rfl⟩
theorem lput_good {l : M.Let} (h : M.lright l = true) : M.lput l = M.lbytes l ∧ M.lputE l = 0 := by
  unfold M.lput M.lputE
  rw [if_pos h, if_pos h]
  exact ⟨rfl, rfl⟩
set_option maxHeartbeats 8000000 in
set_option maxRecDepth 100000 in
theorem lPut_any (l : M.Let) (A : Option Addr) (n c : Nat) (w : World) (hn : l.ents.length = n) (hn2 : n ≤ 9223372036854775807) (hE : EntsRd w A l.ents) (hD : ∀ e ∈ l.ents, e.data.length ≤ 1000000000000) :
    Calls Try.prog 8 #[.agg #[B8 l.kind, .int .i64 l.src, .int .i64 l.dst, .int .i64 l.term, .int .i64 l.index, .int .i64 l.was, .bool l.ok, .int .i64 l.commit, .int .i64 l.version, .slice A n c]] w (LPut w l) := by
  have HE := Lib.hid hE; have HN := Lib.hid hn; have HD := Lib.hid hD
  have BK0 := Lib.hid ((Bank.nil (Below.refl w.heap.size w)).box #[B8 l.kind, .int .i64 l.src, .int .i64 l.dst, .int .i64 l.term, .int .i64 l.index, .int .i64 l.was, .bool l.ok, .int .i64 l.commit, .int .i64 l.version, .slice A n c] 25 (by simp))
  have hcv := fun w => conv_B8_int (P := Try.prog) w 22 3 l.kind Try.underlying22 Try.underlying3
  clear hE hn hD
  go_enter Try.func8, Try.ntmps8
  go_wp2_with fail
  generalize w.alloc (.cells #[B8 l.kind, .int .i64 l.src, .int .i64 l.dst, .int .i64 l.term, .int .i64 l.index, .int .i64 l.was, .bool l.ok, .int .i64 l.commit, .int .i64 l.version, .slice A n c] 25) = w1 at *
  refine (lRight_any l A n c w1 HN.out hn2 (HE.out.since BK0.out.since)).mono ?_
  rintro e w2 ⟨rfl, hs⟩
  have BK1 := Lib.hid (BK0.out.call hs)
  clear hs BK0
  by_cases hR : M.lright l = true
  rotate_left
  · have hR' : M.lright l = false := by simpa using hR
    rw [hR']
    have HFIN := Lib.hid (show LPut w l (.returned (.tuple #[.slice none 0 0, .int .i64 4])) w2 from ⟨none, 0, 0, by rw [(lput_bad hR').2]; rfl, by rw [(lput_bad hR').1]; rfl, by rw [(lput_bad hR').1]; exact ((Bank.nil BK1.out.since).none _ _)⟩)
    clear hR hR'
    go_wp2
    go_ret2
    exact HFIN.out
  have hlen : l.ents.length ≤ 4 := (M.lright_small l hR).2.2.2.2.2.2.2
  rw [hR]
  have hn4 : n ≤ 4 := by rw [← HN.out]; exact hlen
  have HR := Lib.hid hR
  clear hR hlen
  obtain ⟨fl, hfl⟩ : ∃ fl : Int, fl = M.flag l.ok := ⟨_, rfl⟩
  have HFL := Lib.hid hfl
  clear hfl
  have x0 := BK1.out.cell 0 rfl 0 rfl
  have x1 := BK1.out.cell 0 rfl 1 rfl
  have x2 := BK1.out.cell 0 rfl 2 rfl
  have x3 := BK1.out.cell 0 rfl 3 rfl
  have x4 := BK1.out.cell 0 rfl 4 rfl
  have x5 := BK1.out.cell 0 rfl 5 rfl
  have x6 := BK1.out.cell 0 rfl 6 rfl
  have x7 := BK1.out.cell 0 rfl 7 rfl
  have x8 := BK1.out.cell 0 rfl 8 rfl
  have x9 := BK1.out.cell 0 rfl 9 rfl
  have HGO : Hid (∀ (w3 : World) (e : Ending), MadeO (w2.alloc (.cells #[.int .i64 (l.kind.toNat : Int), .int .i64 l.src, .int .i64 l.dst, .int .i64 l.term, .int .i64 l.index, .int .i64 l.was, .int .i64 fl, .int .i64 l.commit, .int .i64 l.version, .int .i64 (n : Int)] 3)) (M.nums (M.lnums l)) e w3 → ∃ A3 c3, e = .returned (.slice A3 80 c3) ∧ Bank w w3 [rowAcc A3 80 c3 (M.nums (M.lnums l)), boxAcc w.heap.size 25 #[B8 l.kind, .int .i64 l.src, .int .i64 l.dst, .int .i64 l.term, .int .i64 l.index, .int .i64 l.was, .bool l.ok, .int .i64 l.commit, .int .i64 l.version, .slice A n c].toList]) := Lib.hid (by
    rintro w3 e ⟨A3, N3, c3, rfl, hN3, ho3, hs3⟩
    have h80 : N3 = 80 := by rw [hN3, M.nums_length]; rfl
    subst h80
    exact ⟨A3, c3, rfl, (BK1.out.alloc _).madeB hs3 ho3⟩)
  have HNM : Hid (∀ w0 : World, Calls Try.prog 21 #[.slice (some ⟨w0.heap.size, 0, none⟩) 10 10] (w0.alloc (.cells #[.int .i64 (l.kind.toNat : Int), .int .i64 l.src, .int .i64 l.dst, .int .i64 l.term, .int .i64 l.index, .int .i64 l.was, .int .i64 fl, .int .i64 l.commit, .int .i64 l.version, .int .i64 (n : Int)] 3)) (MadeO (w0.alloc (.cells #[.int .i64 (l.kind.toNat : Int), .int .i64 l.src, .int .i64 l.dst, .int .i64 l.term, .int .i64 l.index, .int .i64 l.was, .int .i64 fl, .int .i64 l.commit, .int .i64 l.version, .int .i64 (n : Int)] 3)) (M.nums (M.lnums l)))) := Lib.hid (fun w0 => numbers_any _ 10 10 (M.lnums l) _ rfl (ints_lit w0.heap.size w0 (M.lnums l) _ _ rfl (by rw [HFL.out, ← HN.out]; rfl)) (by omega))
  cases hok : l.ok
  all_goals
    have hfl2 := HFL.out
    rw [hok] at hfl2
    first
    | (obtain rfl : fl = 0 := hfl2)
    | (obtain rfl : fl = 1 := hfl2)
    rw [hok] at x6
    go_wp2_with fail
    clear x0 x1 x2 x3 x4 x5 x6 x7 x8 x9
    refine (HNM.out w2).mono ?_
    intro e w3 h3
    obtain ⟨A3, c3, rfl, hB3⟩ := HGO.out w3 e h3
    have BK3 := Lib.hid hB3
    clear h3 hB3 HGO HNM BK1 hok
    have x9 := BK3.out.cell 1 rfl 9 rfl
    go_wp2_with fail
    clear x9
    go_loopw [5, 39] (fun v i wr => ∃ (k N c' : Nat) (B : Option Addr), k ≤ n ∧ i = .int .i64 (k : Int) ∧ v = .slice B N c' ∧ N ≤ 80 + k * 2000000000000 ∧ Bank w wr [rowAcc B N c' (M.nums (M.lnums l) ++ M.ents (l.ents.take k))]) (fun _ i _ => n - (intOf i).toNat)
    case atStart => exact ⟨0, 80, c3, A3, by omega, rfl, rfl, by omega, by have h := BK3.out.sub (.cons_cons _ (.cons _ .slnil)); simpa [M.ents] using h⟩
    case round =>
      clear BK3
      obtain ⟨k, N, c', B, hk, rfl, rfl, hNk, hBk⟩ := hrel
      have BK := Lib.hid hBk
      clear hBk
      have k0 : (0 : Int) ≤ (k : Int) := by omega
      rcases Nat.lt_or_ge k n with h1 | h1
      · have i1 : (k : Int) < (n : Int) := by omega
        have hkl : k < l.ents.length := by rw [HN.out]; exact h1
        obtain ⟨b, o, rfl, A', m', c2, ⟨y0, y1, y2, y3, y4, y5⟩, hrd⟩ := HE.out.since BK.out.since k hkl
        obtain ⟨x, hx⟩ : ∃ x, x = l.ents[k] := ⟨_, rfl⟩
        rw [← hx] at y0 y1 y2 y3 y4 hrd
        have hdl : x.data.length ≤ 1000000000000 := by rw [hx]; exact HD.out _ (List.getElem_mem _)
        have hml : x.data.length = m' := hrd.len
        have hel : (M.ent x).length = 48 + m' := by rw [M.ent_length, hml]
        have HX := Lib.hid hx; have HRD := Lib.hid hrd; have HEL := Lib.hid hel
        have hm' : m' ≤ 1000000000000 := by omega
        clear hx hrd hdl hml hel
        go_wp2_with fail
        clear y0 y1 y2 y3 y4 y5
        have BK4 := Lib.hid (BK.out.alloc (.cells #[.int .i64 x.term, B8 x.kind, .int .i64 x.version, .int .i64 x.server, .bool x.good, .slice A' m' c2] 48))
        have HR4 := Lib.hid (HRD.out.below ((Below.refl _ _).alloc (Nat.le_refl _) (.cells #[.int .i64 x.term, B8 x.kind, .int .i64 x.version, .int .i64 x.server, .bool x.good, .slice A' m' c2] 48)))
        refine (wentry_any x.term (x.kind.toNat : Int) x.version x.server (M.flag x.good) x.kind x.good A' m' c2 x.data _ HR4.out hm' rfl rfl).mono ?_
        rintro e w5 ⟨g5, N5, c5, rfl, hN5, ho5, hb5⟩
        have BK5 := Lib.hid (BK4.out.madeB hb5 ho5)
        have hn5 : N5 ≤ 48 + m' := by rw [hN5]; exact Nat.le_of_eq HEL.out
        clear hN5 ho5 hb5 BK4 HR4
        go_wp2_with (at_builtin; refine wpList_append_bytes BK5.out rfl _ _ 29 rfl 5 infoByte Try.underlying29 1 B N c' (M.nums (M.lnums l) ++ M.ents (l.ents.take k)) rfl rfl _ _ _ (M.ent x) rfl (BK5.out.row 0 rfl) (by omega) ?_; intro A6 n6 c6 w6 hn6 hB6; have BK6 := Lib.hid hB6.drop; have hn6' := Nat.le_of_eq hn6; clear hn6 hB6)
        go_roundw
        case rel =>
          refine ⟨k + 1, n6, c6, A6, by omega, by go_num, rfl, by omega, ?_⟩
          have h := BK6.out
          rw [HX.out, List.append_assoc, ← M.ents_snoc, ← List.take_succ_eq_append_getElem hkl] at h
          exact h
        case measure => simp [intOf]; omega
      · have i1 : ¬ (k : Int) < (n : Int) := by omega
        have hkm : k = l.ents.length := by rw [HN.out]; omega
        have HFIN := Lib.hid (show LPut w l (.returned (.tuple #[.slice B N c', .int .i64 0])) wr from by
          have h := BK.out
          rw [hkm, List.take_length] at h
          refine ⟨B, N, c', by rw [(lput_good HR.out).2]; rfl, ?_, by rw [(lput_good HR.out).1]; exact h⟩
          rw [(lput_good HR.out).1]
          exact (h.row 0 rfl).len.symm)
        clear hkm
        go_wp2
        go_ret2
        exact HFIN.out
end Go.Proofs.Ytdmpphioflcofaa.K

/- The contracts of barbicankit's SameEntries, SameLetter. -/
namespace Go.Proofs.Ytdmpphioflcofaa.K
open Go Go.RowKit

def SaidB (w : World) (b : Bool) (e : Ending) (w' : World) : Prop := e = .returned (.bool b) ∧ Since w w'
theorem SameEntries_ne (A : Option Addr) (n c : Nat) (B : Option Addr) (m d : Nat) (w : World) (h : n ≠ m) :
    Calls Try.prog 36 #[.slice A n c, .slice B m d] w (SaidB w false) := by
  have h1 : ((n : Int) != (m : Int)) = true := by simp; omega
  go_enter Try.func36, Try.ntmps36
  go_wp2
  go_ret
  exact ⟨rfl, Below.refl _ _⟩
set_option maxHeartbeats 2000000 in
set_option maxRecDepth 100000 in
theorem SameEntries_eq (A : Option Addr) (n c : Nat) (B : Option Addr) (d : Nat) (es : List M.Ent) (w : World) (hl : es.length = n) (hA : EntsRd w A es) (hB : EntsRd w B es) (hn : n ≤ 9223372036854775807) (hD : ∀ e ∈ es, e.data.length ≤ 4611686018427387904) :
    Calls Try.prog 36 #[.slice A n c, .slice B n d] w (SaidB w true) := by
  have HA := Lib.hid hA; have HB := Lib.hid hB; have HL := Lib.hid hl; have HD := Lib.hid hD
  clear hA hB hl hD
  go_enter Try.func36, Try.ntmps36
  go_wp2
  go_loopw [5] (fun i wr => ∃ k : Nat, k ≤ n ∧ i = .int .i64 (k : Int) ∧ Since w wr) (fun i _ => n - (intOf i).toNat)
  case atStart => exact ⟨0, by omega, rfl, Below.refl _ _⟩
  case round =>
    obtain ⟨k, hk, rfl, hs⟩ := hrel
    have S1 := Lib.hid hs
    clear hs
    have k0 : (0 : Int) ≤ (k : Int) := by omega
    rcases Nat.lt_or_ge k n with h1 | h1
    · have i1 : (k : Int) < (n : Int) := by omega
      have hkl : k < es.length := by rw [HL.out]; exact h1
      obtain ⟨b, o, rfl, A', m', c', ⟨y0, y1, y2, y3, y4, y5⟩, hra⟩ := HA.out.since S1.out.drew k hkl
      obtain ⟨b2, o2, rfl, B', m2, d', ⟨z0, z1, z2, z3, z4, z5⟩, hrb⟩ := HB.out.since S1.out.drew k hkl
      obtain ⟨x, hx⟩ : ∃ x, x = es[k] := ⟨_, rfl⟩
      rw [← hx] at y0 y1 y2 y3 y4 z0 z1 z2 z3 z4 hra hrb
      have HDX := Lib.hid (show m' ≤ 4611686018427387904 by have h := HD.out _ (List.getElem_mem hkl); rw [← hx] at h; have := hra.len; dsimp only at this; omega)
      have HRA := Lib.hid hra; have HRB := Lib.hid hrb
      clear hx hra hrb
      go_wp2_with fail
      go_region_law (first
        | (go_simp; go_at_call 49; refine (SameEntry_eq x.term x.version x.server x.kind x.good A' B' m' c' m2 d' x.data _ HRA.out HRB.out HDX.out).mono ?_; rintro e w3 ⟨rfl, hs3⟩; have S3 := Lib.hid (S1.out.drew.add hs3); clear hs3)
        | fail "arm")
      all_goals
        clear y0 y1 y2 y3 y4 y5 z0 z1 z2 z3 z4 z5
        go_wp2_with fail
        go_roundw
        case rel => exact ⟨k + 1, by omega, by go_num, S3.out⟩
        case measure => simp [intOf]; omega
    · have i1 : ¬ (k : Int) < (n : Int) := by omega
      go_wp2
      go_ret
      exact ⟨rfl, S1.out⟩
end Go.Proofs.Ytdmpphioflcofaa.K

/- (made by gensamelet.py) The contract of barbicankit.SameLetter at two letters of one kind, From and To. -/
namespace Go.Proofs.Ytdmpphioflcofaa.K
open Go Go.RowKit

theorem tmBx {w : World} {c d : Array Value} {t : TypeId} : Since w ((w.alloc (.cells c t)).alloc (.cells d t)) := Since.alloc (Since.alloc (Below.refl _ _) _) _
set_option maxHeartbeats 8000000 in
set_option maxRecDepth 100000 in
theorem SameLetter_any (k : BitVec 8) (s d t t' i i' u u' : Int) (o o' : Bool) (c c' v v' : Int) (A : Option Addr) (n cA : Nat) (B : Option Addr) (m cB : Nat) (E : Bool) (w : World)
    (hE : ∀ w', Since w w' → Calls Try.prog 36 #[.slice A n cA, .slice B m cB] w' (SaidB w' E)) :
    Calls Try.prog 16 #[.agg #[B8 k, .int .i64 s, .int .i64 d, .int .i64 t, .int .i64 i, .int .i64 u, .bool o, .int .i64 c, .int .i64 v, .slice A n cA], .agg #[B8 k, .int .i64 s, .int .i64 d, .int .i64 t', .int .i64 i', .int .i64 u', .bool o', .int .i64 c', .int .i64 v', .slice B m cB]] w (SaidB w (t == t' && i == i' && u == u' && (o == o') && c == c' && v == v' && E)) := by
  have HE := Lib.hid hE
  have S0 := Lib.hid (tmBx (w := w) (c := #[B8 k, .int .i64 s, .int .i64 d, .int .i64 t, .int .i64 i, .int .i64 u, .bool o, .int .i64 c, .int .i64 v, .slice A n cA]) (d := #[B8 k, .int .i64 s, .int .i64 d, .int .i64 t', .int .i64 i', .int .i64 u', .bool o', .int .i64 c', .int .i64 v', .slice B m cB]) (t := 25))
  clear hE
  by_cases h : t = t'
  rotate_left
  · have e : (t == t') = false := by simpa using h
    have hr : (t == t' && i == i' && u == u' && (o == o') && c == c' && v == v' && E) = false := by rw [e]; simp
    have HFIN := Lib.hid (show SaidB w (t == t' && i == i' && u == u' && (o == o') && c == c' && v == v' && E) (.returned (.bool false)) ((w.alloc (.cells #[B8 k, .int .i64 s, .int .i64 d, .int .i64 t, .int .i64 i, .int .i64 u, .bool o, .int .i64 c, .int .i64 v, .slice A n cA] 25)).alloc (.cells #[B8 k, .int .i64 s, .int .i64 d, .int .i64 t', .int .i64 i', .int .i64 u', .bool o', .int .i64 c', .int .i64 v', .slice B m cB] 25)) from ⟨by rw [hr], S0.out⟩)
    clear h hr S0 HE
    go_enter Try.func16, Try.ntmps16
    go_wp2
    go_ret
    exact HFIN.out
  subst h
  by_cases h : i = i'
  rotate_left
  · have e : (i == i') = false := by simpa using h
    have hr : (t == t && i == i' && u == u' && (o == o') && c == c' && v == v' && E) = false := by rw [e]; simp
    have HFIN := Lib.hid (show SaidB w (t == t && i == i' && u == u' && (o == o') && c == c' && v == v' && E) (.returned (.bool false)) ((w.alloc (.cells #[B8 k, .int .i64 s, .int .i64 d, .int .i64 t, .int .i64 i, .int .i64 u, .bool o, .int .i64 c, .int .i64 v, .slice A n cA] 25)).alloc (.cells #[B8 k, .int .i64 s, .int .i64 d, .int .i64 t, .int .i64 i', .int .i64 u', .bool o', .int .i64 c', .int .i64 v', .slice B m cB] 25)) from ⟨by rw [hr], S0.out⟩)
    clear h hr S0 HE
    go_enter Try.func16, Try.ntmps16
    go_wp2
    go_ret
    exact HFIN.out
  subst h
  by_cases h : u = u'
  rotate_left
  · have e : (u == u') = false := by simpa using h
    have hr : (t == t && i == i && u == u' && (o == o') && c == c' && v == v' && E) = false := by rw [e]; simp
    have HFIN := Lib.hid (show SaidB w (t == t && i == i && u == u' && (o == o') && c == c' && v == v' && E) (.returned (.bool false)) ((w.alloc (.cells #[B8 k, .int .i64 s, .int .i64 d, .int .i64 t, .int .i64 i, .int .i64 u, .bool o, .int .i64 c, .int .i64 v, .slice A n cA] 25)).alloc (.cells #[B8 k, .int .i64 s, .int .i64 d, .int .i64 t, .int .i64 i, .int .i64 u', .bool o', .int .i64 c', .int .i64 v', .slice B m cB] 25)) from ⟨by rw [hr], S0.out⟩)
    clear h hr S0 HE
    go_enter Try.func16, Try.ntmps16
    go_wp2
    go_ret
    exact HFIN.out
  subst h
  by_cases h : o = o'
  rotate_left
  · have e : (o == o') = false := by simpa using h
    have hr : (t == t && i == i && u == u && (o == o') && c == c' && v == v' && E) = false := by rw [e]; simp
    have HFIN := Lib.hid (show SaidB w (t == t && i == i && u == u && (o == o') && c == c' && v == v' && E) (.returned (.bool false)) ((w.alloc (.cells #[B8 k, .int .i64 s, .int .i64 d, .int .i64 t, .int .i64 i, .int .i64 u, .bool o, .int .i64 c, .int .i64 v, .slice A n cA] 25)).alloc (.cells #[B8 k, .int .i64 s, .int .i64 d, .int .i64 t, .int .i64 i, .int .i64 u, .bool o', .int .i64 c', .int .i64 v', .slice B m cB] 25)) from ⟨by rw [hr], S0.out⟩)
    clear h hr S0 HE
    go_enter Try.func16, Try.ntmps16
    go_wp2
    go_ret
    exact HFIN.out
  subst h
  by_cases h : c = c'
  rotate_left
  · have e : (c == c') = false := by simpa using h
    have hr : (t == t && i == i && u == u && (o == o) && c == c' && v == v' && E) = false := by rw [e]; simp
    have HFIN := Lib.hid (show SaidB w (t == t && i == i && u == u && (o == o) && c == c' && v == v' && E) (.returned (.bool false)) ((w.alloc (.cells #[B8 k, .int .i64 s, .int .i64 d, .int .i64 t, .int .i64 i, .int .i64 u, .bool o, .int .i64 c, .int .i64 v, .slice A n cA] 25)).alloc (.cells #[B8 k, .int .i64 s, .int .i64 d, .int .i64 t, .int .i64 i, .int .i64 u, .bool o, .int .i64 c', .int .i64 v', .slice B m cB] 25)) from ⟨by rw [hr], S0.out⟩)
    clear h hr S0 HE
    go_enter Try.func16, Try.ntmps16
    go_wp2
    go_ret
    exact HFIN.out
  subst h
  by_cases h : v = v'
  rotate_left
  · have e : (v == v') = false := by simpa using h
    have hr : (t == t && i == i && u == u && (o == o) && c == c && v == v' && E) = false := by rw [e]; simp
    have HFIN := Lib.hid (show SaidB w (t == t && i == i && u == u && (o == o) && c == c && v == v' && E) (.returned (.bool false)) ((w.alloc (.cells #[B8 k, .int .i64 s, .int .i64 d, .int .i64 t, .int .i64 i, .int .i64 u, .bool o, .int .i64 c, .int .i64 v, .slice A n cA] 25)).alloc (.cells #[B8 k, .int .i64 s, .int .i64 d, .int .i64 t, .int .i64 i, .int .i64 u, .bool o, .int .i64 c, .int .i64 v', .slice B m cB] 25)) from ⟨by rw [hr], S0.out⟩)
    clear h hr S0 HE
    go_enter Try.func16, Try.ntmps16
    go_wp2
    go_ret
    exact HFIN.out
  subst h
  have hr : (t == t && i == i && u == u && (o == o) && c == c && v == v && E) = E := by simp
  rw [hr]
  clear hr
  go_enter Try.func16, Try.ntmps16
  go_wp2_with fail
  refine (HE.out _ S0.out).mono ?_
  rintro e w3 ⟨rfl, hs⟩
  have HFIN := Lib.hid (show SaidB w E (.returned (.bool E)) w3 from ⟨rfl, S0.out.add hs⟩)
  clear hs HE
  go_wp2
  go_ret
  exact HFIN.out
end Go.Proofs.Ytdmpphioflcofaa.K

/- What the reference's Right asks is what makes a letter right: plain Lean. -/
namespace Go.Proofs.Ytdmpphioflcofaa.M
theorem lright_terms (l : Let) (h : lright l = true) : l.ents.all (fun e => tm e.term) = true := by
  unfold lright lkind at h
  simp only [Bool.and_eq_true] at h
  obtain ⟨_, h3⟩ := h
  have hnil : (l.ents.length : Int) = 0 → l.ents.all (fun e => tm e.term) = true := fun h0 => by
    have : l.ents = [] := List.eq_nil_of_length_eq_zero (by omega)
    rw [this]; rfl
  split at h3
  · simp only [lask, List.all_cons, List.all_nil, id_eq, Bool.and_eq_true, z_iff] at h3; exact hnil (by omega)
  split at h3
  · simp only [lvote, List.all_cons, List.all_nil, id_eq, Bool.and_eq_true, z_iff] at h3; exact hnil (by omega)
  split at h3
  · simp only [lputs, Bool.and_eq_true] at h3; exact h3.2
  split at h3
  · simp only [ldone, List.all_cons, List.all_nil, id_eq, Bool.and_eq_true, z_iff] at h3; exact hnil (by omega)
  split at h3
  · simp only [lack, List.all_cons, List.all_nil, id_eq, Bool.and_eq_true, z_iff] at h3; exact hnil (by omega)
  · cases h3
theorem lright_bad (l : Let) (h : l.src < 1 ∨ 7 < l.src ∨ l.dst < 1 ∨ 7 < l.dst ∨ 4 < l.ents.length) : lright l = false := by
  cases e : lright l
  · rfl
  · have := lright_small l e
    omega
theorem lright_term (l : Let) (k : Nat) (hk : k < l.ents.length) (h : tm l.ents[k].term = false) : lright l = false := by
  cases e : lright l
  · rfl
  · have h2 := List.all_eq_true.1 (lright_terms l e) _ (List.getElem_mem hk)
    rw [h] at h2; cases h2
theorem lright_no (l : Let) (h1 : l.kind ≠ 1#8) (h2 : l.kind ≠ 2#8) (h3 : l.kind ≠ 3#8) (h4 : l.kind ≠ 4#8) (h5 : l.kind ≠ 5#8) : lright l = false := by
  rw [lright, lkind, if_neg h1, if_neg h2, if_neg h3, if_neg h4, if_neg h5, Bool.and_false]
theorem len0 (n : Nat) : ((n : Int) == 0) = decide (n = 0) := by
  rw [Bool.eq_iff_iff]; simp
section
variable (l : Let) (hs : 1 ≤ l.src ∧ l.src ≤ 7) (hd : 1 ≤ l.dst ∧ l.dst ≤ 7)
theorem ix0 : ix 0 = true := rfl
theorem tm0 : tm 0 = true := rfl
theorem ref1 (hs : 1 ≤ l.src ∧ l.src ≤ 7) (hd : 1 ≤ l.dst ∧ l.dst ≤ 7) (hk : l.kind = 1#8) : lright l = ((l.term == l.term && l.index == l.index && l.was == l.was && (l.ok == false) && l.commit == 0 && l.version == 0 && decide (l.ents.length = 0)) && tm l.term && tm l.was && ix l.index && ix l.commit) := by
  rw [Bool.eq_iff_iff, lright, lkind, if_pos hk]
  simp only [lask, List.all_cons, List.all_nil, id_eq, Bool.and_eq_true, z_iff, wi_iff, beq_self_eq_true, true_and, beq_iff_eq, decide_eq_true_eq, Bool.not_eq_true', and_true]
  constructor
  · rintro ⟨_, ⟨h1, h2, h3, h4⟩, ⟨h5, h6⟩, h7⟩
    exact ⟨⟨⟨⟨⟨⟨⟨h1, h2⟩, h3⟩, by omega⟩, h5⟩, h6⟩, h7⟩, by rw [h2]; rfl⟩
  · rintro ⟨⟨⟨⟨⟨⟨⟨h1, h2⟩, h3⟩, h4⟩, h5⟩, h6⟩, h7⟩, _⟩
    exact ⟨⟨hs, hd⟩, ⟨h1, h2, h3, by omega⟩, ⟨h5, h6⟩, h7⟩
theorem ref2 (hs : 1 ≤ l.src ∧ l.src ≤ 7) (hd : 1 ≤ l.dst ∧ l.dst ≤ 7) (hk : l.kind = 2#8) : lright l = ((l.term == l.term && l.index == 0 && l.was == 0 && (l.ok == l.ok) && l.commit == 0 && l.version == 0 && decide (l.ents.length = 0)) && tm l.term && tm l.was && ix l.index && ix l.commit) := by
  rw [Bool.eq_iff_iff, lright, lkind, if_neg (by rw [hk]; decide), if_pos hk]
  simp only [lvote, List.all_cons, List.all_nil, id_eq, Bool.and_eq_true, z_iff, wi_iff, beq_self_eq_true, true_and, beq_iff_eq, decide_eq_true_eq, and_true]
  constructor
  · rintro ⟨_, ⟨h1, h2, h3, h4, h5⟩, h6⟩
    exact ⟨⟨⟨⟨⟨⟨⟨⟨h1, h2⟩, h3⟩, h4⟩, by omega⟩, h6⟩, by rw [h2]; rfl⟩, by rw [h1]; rfl⟩, by rw [h3]; rfl⟩
  · rintro ⟨⟨⟨⟨⟨⟨⟨⟨h1, h2⟩, h3⟩, h4⟩, h5⟩, h6⟩, _⟩, _⟩, _⟩
    exact ⟨⟨hs, hd⟩, ⟨h1, h2, h3, h4, by omega⟩, h6⟩
theorem ref3 (hs : 1 ≤ l.src ∧ l.src ≤ 7) (hd : 1 ≤ l.dst ∧ l.dst ≤ 7) (hk : l.kind = 3#8) (hl : l.ents.length ≤ 4) (ht : l.ents.all (fun e => tm e.term) = true) : lright l = ((l.term == l.term && l.index == l.index && l.was == l.was && (l.ok == false) && l.commit == l.commit && l.version == 0 && true) && tm l.term && tm l.was && ix l.index && ix l.commit) := by
  have hl' : (l.ents.length : Int) ≤ 4 := by omega
  rw [Bool.eq_iff_iff, lright, lkind, if_neg (by rw [hk]; decide), if_neg (by rw [hk]; decide), if_pos hk]
  simp only [lputs, ht, List.all_cons, List.all_nil, id_eq, Bool.and_eq_true, z_iff, wi_iff, beq_self_eq_true, true_and, beq_iff_eq, decide_eq_true_eq, Bool.not_eq_true', and_true]
  constructor
  · rintro ⟨_, ⟨⟨h1, _⟩, h3⟩, ⟨h5, h6⟩, h7, h8⟩
    exact ⟨⟨⟨⟨⟨h1, h3⟩, h5⟩, h6⟩, h7⟩, h8⟩
  · rintro ⟨⟨⟨⟨⟨h1, h3⟩, h5⟩, h6⟩, h7⟩, h8⟩
    exact ⟨⟨hs, hd⟩, ⟨⟨h1, hl'⟩, h3⟩, ⟨h5, h6⟩, h7, h8⟩
theorem ref4 (hs : 1 ≤ l.src ∧ l.src ≤ 7) (hd : 1 ≤ l.dst ∧ l.dst ≤ 7) (hk : l.kind = 4#8) : lright l = ((l.term == l.term && l.index == l.index && l.was == 0 && (l.ok == l.ok) && l.commit == 0 && l.version == 0 && decide (l.ents.length = 0)) && tm l.term && tm l.was && ix l.index && ix l.commit) := by
  rw [Bool.eq_iff_iff, lright, lkind, if_neg (by rw [hk]; decide), if_neg (by rw [hk]; decide), if_neg (by rw [hk]; decide), if_pos hk]
  simp only [ldone, List.all_cons, List.all_nil, id_eq, Bool.and_eq_true, z_iff, wi_iff, beq_self_eq_true, true_and, beq_iff_eq, decide_eq_true_eq, and_true]
  constructor
  · rintro ⟨_, ⟨h1, h2, h3, h4⟩, h5, h6⟩
    exact ⟨⟨⟨⟨⟨⟨⟨h1, h2⟩, h3⟩, by omega⟩, h5⟩, by rw [h1]; rfl⟩, h6⟩, by rw [h2]; rfl⟩
  · rintro ⟨⟨⟨⟨⟨⟨⟨h1, h2⟩, h3⟩, h4⟩, h5⟩, _⟩, h6⟩, _⟩
    exact ⟨⟨hs, hd⟩, ⟨h1, h2, h3, by omega⟩, h5, h6⟩
theorem ref5 (hs : 1 ≤ l.src ∧ l.src ≤ 7) (hd : 1 ≤ l.dst ∧ l.dst ≤ 7) (hk : l.kind = 5#8) (hv : 1 ≤ l.version ∧ l.version ≤ 1073741824) : lright l = ((l.term == 0 && l.index == 0 && l.was == 0 && (l.ok == l.ok) && l.commit == 0 && l.version == l.version && decide (l.ents.length = 0)) && tm l.term && tm l.was && ix l.index && ix l.commit) := by
  rw [Bool.eq_iff_iff, lright, lkind, if_neg (by rw [hk]; decide), if_neg (by rw [hk]; decide), if_neg (by rw [hk]; decide), if_neg (by rw [hk]; decide), if_pos hk]
  simp only [lack, List.all_cons, List.all_nil, id_eq, Bool.and_eq_true, z_iff, wi_iff, beq_self_eq_true, true_and, beq_iff_eq, decide_eq_true_eq, and_true]
  constructor
  · rintro ⟨_, ⟨h1, h2, h3, h4, h5⟩, _⟩
    exact ⟨⟨⟨⟨⟨⟨⟨⟨h1, h2⟩, h3⟩, h4⟩, by omega⟩, by rw [h1]; rfl⟩, by rw [h3]; rfl⟩, by rw [h2]; rfl⟩, by rw [h4]; rfl⟩
  · rintro ⟨⟨⟨⟨⟨⟨⟨⟨h1, h2⟩, h3⟩, h4⟩, h5⟩, _⟩, _⟩, _⟩, _⟩
    exact ⟨⟨hs, hd⟩, ⟨h1, h2, h3, h4, by omega⟩, hv⟩
theorem ref5_bad (hk : l.kind = 5#8) (hv : l.version < 1 ∨ 1073741824 < l.version) : lright l = false := by
  rw [lright, lkind, if_neg (by rw [hk]; decide), if_neg (by rw [hk]; decide), if_neg (by rw [hk]; decide), if_neg (by rw [hk]; decide), if_pos hk]
  have : wi l.version 1 1073741824 = false := by
    cases e : wi l.version 1 1073741824
    · rfl
    · have := (wi_iff _ _ _).1 e; omega
  rw [lack, this, Bool.and_false, Bool.and_false]
end
end Go.Proofs.Ytdmpphioflcofaa.M

/- (made by genrefright.py) The reference's term, index; Right where it refuses at once. -/
namespace Go.Proofs.Ytdmpphioflcofaa.K
open Go Go.RowKit

theorem rterm_any (n : Int) (w : World) : Calls Try.prog 28 #[.int .i64 n] w fun e w' => e = .returned (.bool (M.tm n)) ∧ w = w' := by
  by_cases h1 : 0 ≤ n
  · by_cases h2 : n ≤ 1099511627776
    · have hr : M.tm n = true := (M.tm_iff n).2 ⟨h1, h2⟩
      rw [hr]
      clear hr
      go_enter Try.func28, Try.ntmps28
      go_wp2
      go_ret
      exact ⟨by simp [h2], rfl⟩
    · have hr : M.tm n = false := by
        cases e : M.tm n
        · rfl
        · exact absurd ((M.tm_iff n).1 e).2 h2
      rw [hr]
      clear hr
      go_enter Try.func28, Try.ntmps28
      go_wp2
      go_ret
      exact ⟨by simp [h2], rfl⟩
  · have hr : M.tm n = false := by
      cases e : M.tm n
      · rfl
      · exact absurd ((M.tm_iff n).1 e).1 h1
    have h3 : decide (0 ≤ n) = false := by simpa using h1
    rw [hr]
    clear hr
    go_enter Try.func28, Try.ntmps28
    go_wp2
    go_ret
    exact ⟨rfl, rfl⟩
theorem rindex_any (n : Int) (w : World) : Calls Try.prog 29 #[.int .i64 n] w fun e w' => e = .returned (.bool (M.ix n)) ∧ w = w' := by
  by_cases h1 : 0 ≤ n
  · by_cases h2 : n ≤ 1073741824
    · have hr : M.ix n = true := (M.ix_iff n).2 ⟨h1, h2⟩
      rw [hr]
      clear hr
      go_enter Try.func29, Try.ntmps29
      go_wp2
      go_ret
      exact ⟨by simp [h2], rfl⟩
    · have hr : M.ix n = false := by
        cases e : M.ix n
        · rfl
        · exact absurd ((M.ix_iff n).1 e).2 h2
      rw [hr]
      clear hr
      go_enter Try.func29, Try.ntmps29
      go_wp2
      go_ret
      exact ⟨by simp [h2], rfl⟩
  · have hr : M.ix n = false := by
      cases e : M.ix n
      · rfl
      · exact absurd ((M.ix_iff n).1 e).1 h1
    have h3 : decide (0 ≤ n) = false := by simpa using h1
    rw [hr]
    clear hr
    go_enter Try.func29, Try.ntmps29
    go_wp2
    go_ret
    exact ⟨rfl, rfl⟩
set_option maxHeartbeats 8000000 in
set_option maxRecDepth 100000 in
theorem rRight_early (l : M.Let) (A : Option Addr) (n c : Nat) (w : World) (hn : l.ents.length = n) (hE : EntsRd w A l.ents) (hD : ∀ e ∈ l.ents, e.data.length ≤ 4611686018427387904) (h : l.src < 1 ∨ 7 < l.src ∨ l.dst < 1 ∨ 7 < l.dst ∨ 4 < n) :
    Calls Try.prog 11 #[.agg #[B8 l.kind, .int .i64 l.src, .int .i64 l.dst, .int .i64 l.term, .int .i64 l.index, .int .i64 l.was, .bool l.ok, .int .i64 l.commit, .int .i64 l.version, .slice A n c]] w (SaidB w (M.lright l)) := by
  have hr : M.lright l = false := M.lright_bad l (by rw [hn]; exact h)
  have HS := Lib.hid (Since.alloc (Below.refl w.heap.size w) (.cells #[B8 l.kind, .int .i64 l.src, .int .i64 l.dst, .int .i64 l.term, .int .i64 l.index, .int .i64 l.was, .bool l.ok, .int .i64 l.commit, .int .i64 l.version, .slice A n c] 25))
  rw [hr]
  clear hr hE hn hD
  by_cases h1 : l.src < 1
  · clear h
    go_enter Try.func11, Try.ntmps11
    go_wp2
    go_ret
    exact ⟨rfl, HS.out⟩
  have d1 : decide (l.src < 1) = false := by simpa using h1
  by_cases h2 : 7 < l.src
  · clear h
    go_enter Try.func11, Try.ntmps11
    go_wp2
    go_ret
    exact ⟨rfl, HS.out⟩
  have d2 : decide (7 < l.src) = false := by simpa using h2
  by_cases h3 : l.dst < 1
  · clear h
    go_enter Try.func11, Try.ntmps11
    go_wp2
    go_ret
    exact ⟨rfl, HS.out⟩
  have d3 : decide (l.dst < 1) = false := by simpa using h3
  by_cases h4 : 7 < l.dst
  · clear h
    go_enter Try.func11, Try.ntmps11
    go_wp2
    go_ret
    exact ⟨rfl, HS.out⟩
  have d4 : decide (7 < l.dst) = false := by simpa using h4
  have h5 : (4 : Int) < (n : Int) := by omega
  clear h
  go_enter Try.func11, Try.ntmps11
  go_wp2
  go_ret
  exact ⟨rfl, HS.out⟩
set_option maxHeartbeats 8000000 in
set_option maxRecDepth 100000 in
theorem rRight_no (l : M.Let) (A : Option Addr) (n c : Nat) (w : World) (hn : l.ents.length = n) (hE : EntsRd w A l.ents) (hD : ∀ e ∈ l.ents, e.data.length ≤ 4611686018427387904) (hs : 1 ≤ l.src ∧ l.src ≤ 7) (hd : 1 ≤ l.dst ∧ l.dst ≤ 7) (h4 : n ≤ 4) (k1 : l.kind ≠ 1#8) (k2 : l.kind ≠ 2#8) (k3 : l.kind ≠ 3#8) (k4 : l.kind ≠ 4#8) (k5 : l.kind ≠ 5#8) :
    Calls Try.prog 11 #[.agg #[B8 l.kind, .int .i64 l.src, .int .i64 l.dst, .int .i64 l.term, .int .i64 l.index, .int .i64 l.was, .bool l.ok, .int .i64 l.commit, .int .i64 l.version, .slice A n c]] w (SaidB w (M.lright l)) := by
  have hr : M.lright l = false := M.lright_no l k1 k2 k3 k4 k5
  have HS := Lib.hid (tmBx (w := w) (c := #[B8 l.kind, .int .i64 l.src, .int .i64 l.dst, .int .i64 l.term, .int .i64 l.index, .int .i64 l.was, .bool l.ok, .int .i64 l.commit, .int .i64 l.version, .slice A n c]) (d := #[B8 l.kind, .int .i64 l.src, .int .i64 l.dst, .int .i64 l.term, .int .i64 0, .int .i64 0, .bool false, .int .i64 0, .int .i64 0, .slice none 0 0]) (t := 25))
  have i1 : ¬ l.src < 1 := by omega
  have i2 : ¬ 7 < l.src := by omega
  have i3 : ¬ l.dst < 1 := by omega
  have i4 : ¬ 7 < l.dst := by omega
  have i5 : ¬ (4 : Int) < (n : Int) := by omega
  have d1 : decide (l.src < 1) = false := by simpa using i1
  have d2 : decide (7 < l.src) = false := by simpa using i2
  have d3 : decide (l.dst < 1) = false := by simpa using i3
  have d4 : decide (7 < l.dst) = false := by simpa using i4
  have d5 : decide ((4 : Int) < (n : Int)) = false := by simpa using i5
  have q1 : ∀ t, binOp .eql t (B8 l.kind) (.int .u8 1) = pure (.bool false) := fun t => by have := B8_eql t l.kind 1#8; rw [show (l.kind == 1#8) = false by simpa using k1] at this; exact this
  have q2 : ∀ t, binOp .eql t (B8 l.kind) (.int .u8 2) = pure (.bool false) := fun t => by have := B8_eql t l.kind 2#8; rw [show (l.kind == 2#8) = false by simpa using k2] at this; exact this
  have q3 : ∀ t, binOp .eql t (B8 l.kind) (.int .u8 3) = pure (.bool false) := fun t => by have := B8_eql t l.kind 3#8; rw [show (l.kind == 3#8) = false by simpa using k3] at this; exact this
  have q4 : ∀ t, binOp .eql t (B8 l.kind) (.int .u8 4) = pure (.bool false) := fun t => by have := B8_eql t l.kind 4#8; rw [show (l.kind == 4#8) = false by simpa using k4] at this; exact this
  have q5 : ∀ t, binOp .eql t (B8 l.kind) (.int .u8 5) = pure (.bool false) := fun t => by have := B8_eql t l.kind 5#8; rw [show (l.kind == 5#8) = false by simpa using k5] at this; exact this
  rw [hr]
  clear hr hE hn hD hs hd h4 k1 k2 k3 k4 k5
  go_enter Try.func11, Try.ntmps11
  go_wp2
  go_ret
  exact ⟨rfl, HS.out⟩
end Go.Proofs.Ytdmpphioflcofaa.K


/- (made by genrefright.py) The reference's Right at letters of the kinds 12. -/
namespace Go.Proofs.Ytdmpphioflcofaa.K
open Go Go.RowKit

set_option maxHeartbeats 16000000 in
set_option maxRecDepth 100000 in
theorem rRight_1 (l : M.Let) (A : Option Addr) (n c : Nat) (w : World) (hn : l.ents.length = n) (hE : EntsRd w A l.ents) (hD : ∀ e ∈ l.ents, e.data.length ≤ 4611686018427387904) (hs : 1 ≤ l.src ∧ l.src ≤ 7) (hd : 1 ≤ l.dst ∧ l.dst ≤ 7) (h4 : n ≤ 4) (hk : l.kind = 1#8) :
    Calls Try.prog 11 #[.agg #[B8 l.kind, .int .i64 l.src, .int .i64 l.dst, .int .i64 l.term, .int .i64 l.index, .int .i64 l.was, .bool l.ok, .int .i64 l.commit, .int .i64 l.version, .slice A n c]] w (SaidB w (M.lright l)) := by
  have href : l.ents.all (fun e => M.tm e.term) = true → M.lright l = ((l.term == l.term && l.index == l.index && l.was == l.was && (l.ok == false) && l.commit == 0 && l.version == 0 && decide (n = 0)) && M.tm l.term && M.tm l.was && M.ix l.index && M.ix l.commit) := fun ht => by subst hn; exact M.ref1 l hs hd hk
  have HREF := Lib.hid href; have HE := Lib.hid hE; have HN := Lib.hid hn; have HD := Lib.hid hD
  have HSE : Hid (∀ w', Since w w' → Calls Try.prog 36 #[.slice A n c, .slice none 0 0] w' (SaidB w' (decide (n = 0)))) := Lib.hid (fun w' hw => by
    by_cases h0 : n = 0
    · rw [decide_eq_true h0]
      subst h0
      have he : l.ents = [] := List.eq_nil_of_length_eq_zero HN.out
      exact SameEntries_eq A 0 c none 0 [] w' rfl (EntsRd.nil _ _) (EntsRd.nil _ _) (by omega) (fun _ h => by cases h)
    · rw [decide_eq_false h0]
      exact SameEntries_ne A n c none 0 0 w' h0)
  have BK0 := Lib.hid (((Bank.nil (Below.refl w.heap.size w)).box #[B8 l.kind, .int .i64 l.src, .int .i64 l.dst, .int .i64 l.term, .int .i64 l.index, .int .i64 l.was, .bool l.ok, .int .i64 l.commit, .int .i64 l.version, .slice A n c] 25 (by simp)).box #[B8 l.kind, .int .i64 l.src, .int .i64 l.dst, .int .i64 l.term, .int .i64 l.index, .int .i64 l.was, .bool false, .int .i64 0, .int .i64 0, .slice none 0 0] 25 (by simp))
  rw [World.size_alloc] at BK0
  have i1 : ¬ l.src < 1 := by omega
  have i2 : ¬ 7 < l.src := by omega
  have i3 : ¬ l.dst < 1 := by omega
  have i4 : ¬ 7 < l.dst := by omega
  have i5 : ¬ (4 : Int) < (n : Int) := by omega
  have d1 : decide (l.src < 1) = false := by simpa using i1
  have d2 : decide (7 < l.src) = false := by simpa using i2
  have d3 : decide (l.dst < 1) = false := by simpa using i3
  have d4 : decide (7 < l.dst) = false := by simpa using i4
  have d5 : decide ((4 : Int) < (n : Int)) = false := by simpa using i5
  have q1 : ∀ t, binOp .eql t (B8 l.kind) (.int .u8 1) = pure (.bool true) := fun t => by have := B8_eql t l.kind 1#8; rw [show (l.kind == 1#8) = true by rw [hk]; rfl] at this; exact this
  clear href hE hn hD hs hd hk
  go_enter Try.func11, Try.ntmps11
  go_wp2_with fail
  have BK1 := Lib.hid (show Bank w _ [boxAcc (w.heap.size + 1) 25 [B8 l.kind, .int .i64 l.src, .int .i64 l.dst, .int .i64 l.term, .int .i64 l.index, .int .i64 l.was, .bool false, .int .i64 0, .int .i64 0, .slice none 0 0], boxAcc w.heap.size 25 #[B8 l.kind, .int .i64 l.src, .int .i64 l.dst, .int .i64 l.term, .int .i64 l.index, .int .i64 l.was, .bool l.ok, .int .i64 l.commit, .int .i64 l.version, .slice A n c].toList] from BK0.out)
  clear BK0 q1
  go_loopw [4] (fun i wr => ∃ k : Nat, k ≤ n ∧ i = .int .i64 (k : Int) ∧ (l.ents.take k).all (fun e => M.tm e.term) = true ∧ Bank w wr [boxAcc (w.heap.size + 1) 25 [B8 l.kind, .int .i64 l.src, .int .i64 l.dst, .int .i64 l.term, .int .i64 l.index, .int .i64 l.was, .bool false, .int .i64 0, .int .i64 0, .slice none 0 0], boxAcc w.heap.size 25 #[B8 l.kind, .int .i64 l.src, .int .i64 l.dst, .int .i64 l.term, .int .i64 l.index, .int .i64 l.was, .bool l.ok, .int .i64 l.commit, .int .i64 l.version, .slice A n c].toList]) (fun i _ => n - (intOf i).toNat)
  case atStart => exact ⟨0, by omega, rfl, rfl, BK1.out⟩
  case round =>
    clear BK1
    obtain ⟨k, hk, rfl, hall, hB⟩ := hrel
    have HALL := Lib.hid hall; have BK := Lib.hid hB
    clear hall hB
    have k0 : (0 : Int) ≤ (k : Int) := by omega
    rcases Nat.lt_or_ge k n with h1 | h1
    · have j1 : (k : Int) < (n : Int) := by omega
      have hkl : k < l.ents.length := by rw [HN.out]; exact h1
      obtain ⟨b, o, rfl, A', m', c', ⟨y0, y1, y2, y3, y4, y5⟩, hrd⟩ := HE.out.since BK.out.since k hkl
      have x9 := BK.out.cell 1 rfl 9 rfl
      clear y1 y2 y3 y4 y5 hrd
      go_wp2_with fail
      clear x9 y0
      refine (rterm_any l.ents[k].term wr).mono ?_
      rintro e w5 ⟨rfl, rfl⟩
      cases hb : M.tm l.ents[k].term
      · have HFIN := Lib.hid (show SaidB w (M.lright l) (.returned (.bool false)) wr from ⟨by rw [M.lright_term l k hkl hb], BK.out.since⟩)
        clear hb
        go_wp2
        go_ret
        exact HFIN.out
      · have H := Lib.hid hb
        clear hb
        go_wp2
        go_roundw
        case rel => exact ⟨k + 1, by omega, by go_num, take_all hkl HALL.out H.out, BK.out⟩
        case measure => simp [intOf]; omega
    · have j1 : ¬ (k : Int) < (n : Int) := by omega
      have hall2 : l.ents.all (fun e => M.tm e.term) = true := by have := HALL.out; rwa [show k = l.ents.length by rw [HN.out]; omega, List.take_length] at this
      have HREF2 := Lib.hid (HREF.out hall2)
      clear hall2 HREF HALL
      have x0 := BK.out.cell 1 rfl 0 rfl
      have x1 := BK.out.cell 1 rfl 1 rfl
      have x2 := BK.out.cell 1 rfl 2 rfl
      have x3 := BK.out.cell 1 rfl 3 rfl
      have x4 := BK.out.cell 1 rfl 4 rfl
      have x5 := BK.out.cell 1 rfl 5 rfl
      have x6 := BK.out.cell 1 rfl 6 rfl
      have x7 := BK.out.cell 1 rfl 7 rfl
      have x8 := BK.out.cell 1 rfl 8 rfl
      have x9 := BK.out.cell 1 rfl 9 rfl
      have z0 := BK.out.cell 0 rfl 0 rfl
      have z1 := BK.out.cell 0 rfl 1 rfl
      have z2 := BK.out.cell 0 rfl 2 rfl
      have z3 := BK.out.cell 0 rfl 3 rfl
      have z4 := BK.out.cell 0 rfl 4 rfl
      have z5 := BK.out.cell 0 rfl 5 rfl
      have z6 := BK.out.cell 0 rfl 6 rfl
      have z7 := BK.out.cell 0 rfl 7 rfl
      have z8 := BK.out.cell 0 rfl 8 rfl
      have z9 := BK.out.cell 0 rfl 9 rfl
      go_wp2_with fail
      clear x0 x1 x2 x3 x4 x5 x6 x7 x8 x9 z0 z1 z2 z3 z4 z5 z6 z7 z8 z9
      refine (SameLetter_any l.kind l.src l.dst l.term l.term l.index l.index l.was l.was l.ok false l.commit 0 l.version 0 A n c none 0 0 (decide (n = 0)) wr (fun w' hw => HSE.out w' (BK.out.since.add hw))).mono ?_
      rintro e w5 ⟨rfl, hs⟩
      have BK5 := Lib.hid (BK.out.call hs)
      obtain ⟨S, hS⟩ : ∃ S, S = (l.term == l.term && l.index == l.index && l.was == l.was && (l.ok == false) && l.commit == 0 && l.version == 0 && decide (n = 0)) := ⟨_, rfl⟩
      rw [← hS]
      have HREF3 := Lib.hid (show M.lright l = (S && M.tm l.term && M.tm l.was && M.ix l.index && M.ix l.commit) by rw [hS]; exact HREF2.out)
      clear hS hs HREF2 BK
      cases S
      · have HFIN := Lib.hid (show SaidB w (M.lright l) (.returned (.bool false)) w5 from ⟨by rw [HREF3.out]; simp only [Bool.false_and, Bool.and_false, Bool.true_and], BK5.out.since⟩)
        go_wp2
        go_ret
        exact HFIN.out
      have x3 := BK5.out.cell 1 rfl 3 rfl
      go_wp2_with fail
      clear x3
      refine (rterm_any l.term w5).mono ?_
      rintro e w6 ⟨rfl, rfl⟩
      obtain ⟨b1, hb1⟩ : ∃ b, b = M.tm l.term := ⟨_, rfl⟩
      rw [← hb1]
      have HREF10 := Lib.hid (HREF3.out)
      rw [← hb1] at HREF3
      clear hb1 HREF10
      cases b1
      · have HFIN := Lib.hid (show SaidB w (M.lright l) (.returned (.bool false)) w5 from ⟨by rw [HREF3.out]; simp only [Bool.false_and, Bool.and_false, Bool.true_and], BK5.out.since⟩)
        go_wp2
        go_ret
        exact HFIN.out
      have x5 := BK5.out.cell 1 rfl 5 rfl
      go_wp2_with fail
      clear x5
      refine (rterm_any l.was w5).mono ?_
      rintro e w6 ⟨rfl, rfl⟩
      obtain ⟨b2, hb2⟩ : ∃ b, b = M.tm l.was := ⟨_, rfl⟩
      rw [← hb2]
      have HREF11 := Lib.hid (HREF3.out)
      rw [← hb2] at HREF3
      clear hb2 HREF11
      cases b2
      · have HFIN := Lib.hid (show SaidB w (M.lright l) (.returned (.bool false)) w5 from ⟨by rw [HREF3.out]; simp only [Bool.false_and, Bool.and_false, Bool.true_and], BK5.out.since⟩)
        go_wp2
        go_ret
        exact HFIN.out
      have x4 := BK5.out.cell 1 rfl 4 rfl
      go_wp2_with fail
      clear x4
      refine (rindex_any l.index w5).mono ?_
      rintro e w6 ⟨rfl, rfl⟩
      obtain ⟨b3, hb3⟩ : ∃ b, b = M.ix l.index := ⟨_, rfl⟩
      rw [← hb3]
      have HREF12 := Lib.hid (HREF3.out)
      rw [← hb3] at HREF3
      clear hb3 HREF12
      cases b3
      · have HFIN := Lib.hid (show SaidB w (M.lright l) (.returned (.bool false)) w5 from ⟨by rw [HREF3.out]; simp only [Bool.false_and, Bool.and_false, Bool.true_and], BK5.out.since⟩)
        go_wp2
        go_ret
        exact HFIN.out
      have x7 := BK5.out.cell 1 rfl 7 rfl
      go_wp2_with fail
      clear x7
      refine (rindex_any l.commit w5).mono ?_
      rintro e w6 ⟨rfl, rfl⟩
      obtain ⟨b4, hb4⟩ : ∃ b, b = M.ix l.commit := ⟨_, rfl⟩
      rw [← hb4]
      have HREF13 := Lib.hid (HREF3.out)
      rw [← hb4] at HREF3
      clear hb4 HREF13
      have HFIN := Lib.hid (show SaidB w (M.lright l) (.returned (.bool b4)) w5 from ⟨by rw [HREF3.out]; simp only [Bool.true_and], BK5.out.since⟩)
      go_wp2
      go_ret
      exact HFIN.out

set_option maxHeartbeats 16000000 in
set_option maxRecDepth 100000 in
theorem rRight_2 (l : M.Let) (A : Option Addr) (n c : Nat) (w : World) (hn : l.ents.length = n) (hE : EntsRd w A l.ents) (hD : ∀ e ∈ l.ents, e.data.length ≤ 4611686018427387904) (hs : 1 ≤ l.src ∧ l.src ≤ 7) (hd : 1 ≤ l.dst ∧ l.dst ≤ 7) (h4 : n ≤ 4) (hk : l.kind = 2#8) :
    Calls Try.prog 11 #[.agg #[B8 l.kind, .int .i64 l.src, .int .i64 l.dst, .int .i64 l.term, .int .i64 l.index, .int .i64 l.was, .bool l.ok, .int .i64 l.commit, .int .i64 l.version, .slice A n c]] w (SaidB w (M.lright l)) := by
  have href : l.ents.all (fun e => M.tm e.term) = true → M.lright l = ((l.term == l.term && l.index == 0 && l.was == 0 && (l.ok == l.ok) && l.commit == 0 && l.version == 0 && decide (n = 0)) && M.tm l.term && M.tm l.was && M.ix l.index && M.ix l.commit) := fun ht => by subst hn; exact M.ref2 l hs hd hk
  have HREF := Lib.hid href; have HE := Lib.hid hE; have HN := Lib.hid hn; have HD := Lib.hid hD
  have HSE : Hid (∀ w', Since w w' → Calls Try.prog 36 #[.slice A n c, .slice none 0 0] w' (SaidB w' (decide (n = 0)))) := Lib.hid (fun w' hw => by
    by_cases h0 : n = 0
    · rw [decide_eq_true h0]
      subst h0
      have he : l.ents = [] := List.eq_nil_of_length_eq_zero HN.out
      exact SameEntries_eq A 0 c none 0 [] w' rfl (EntsRd.nil _ _) (EntsRd.nil _ _) (by omega) (fun _ h => by cases h)
    · rw [decide_eq_false h0]
      exact SameEntries_ne A n c none 0 0 w' h0)
  have BK0 := Lib.hid (((Bank.nil (Below.refl w.heap.size w)).box #[B8 l.kind, .int .i64 l.src, .int .i64 l.dst, .int .i64 l.term, .int .i64 l.index, .int .i64 l.was, .bool l.ok, .int .i64 l.commit, .int .i64 l.version, .slice A n c] 25 (by simp)).box #[B8 l.kind, .int .i64 l.src, .int .i64 l.dst, .int .i64 l.term, .int .i64 0, .int .i64 0, .bool l.ok, .int .i64 0, .int .i64 0, .slice none 0 0] 25 (by simp))
  rw [World.size_alloc] at BK0
  have i1 : ¬ l.src < 1 := by omega
  have i2 : ¬ 7 < l.src := by omega
  have i3 : ¬ l.dst < 1 := by omega
  have i4 : ¬ 7 < l.dst := by omega
  have i5 : ¬ (4 : Int) < (n : Int) := by omega
  have d1 : decide (l.src < 1) = false := by simpa using i1
  have d2 : decide (7 < l.src) = false := by simpa using i2
  have d3 : decide (l.dst < 1) = false := by simpa using i3
  have d4 : decide (7 < l.dst) = false := by simpa using i4
  have d5 : decide ((4 : Int) < (n : Int)) = false := by simpa using i5
  have q1 : ∀ t, binOp .eql t (B8 l.kind) (.int .u8 1) = pure (.bool false) := fun t => by have := B8_eql t l.kind 1#8; rw [show (l.kind == 1#8) = false by rw [hk]; rfl] at this; exact this
  have q2 : ∀ t, binOp .eql t (B8 l.kind) (.int .u8 2) = pure (.bool true) := fun t => by have := B8_eql t l.kind 2#8; rw [show (l.kind == 2#8) = true by rw [hk]; rfl] at this; exact this
  clear href hE hn hD hs hd hk
  go_enter Try.func11, Try.ntmps11
  go_wp2_with fail
  have BK1 := Lib.hid (show Bank w _ [boxAcc (w.heap.size + 1) 25 [B8 l.kind, .int .i64 l.src, .int .i64 l.dst, .int .i64 l.term, .int .i64 0, .int .i64 0, .bool l.ok, .int .i64 0, .int .i64 0, .slice none 0 0], boxAcc w.heap.size 25 #[B8 l.kind, .int .i64 l.src, .int .i64 l.dst, .int .i64 l.term, .int .i64 l.index, .int .i64 l.was, .bool l.ok, .int .i64 l.commit, .int .i64 l.version, .slice A n c].toList] from BK0.out)
  clear BK0 q2 q1
  go_loopw [4] (fun i wr => ∃ k : Nat, k ≤ n ∧ i = .int .i64 (k : Int) ∧ (l.ents.take k).all (fun e => M.tm e.term) = true ∧ Bank w wr [boxAcc (w.heap.size + 1) 25 [B8 l.kind, .int .i64 l.src, .int .i64 l.dst, .int .i64 l.term, .int .i64 0, .int .i64 0, .bool l.ok, .int .i64 0, .int .i64 0, .slice none 0 0], boxAcc w.heap.size 25 #[B8 l.kind, .int .i64 l.src, .int .i64 l.dst, .int .i64 l.term, .int .i64 l.index, .int .i64 l.was, .bool l.ok, .int .i64 l.commit, .int .i64 l.version, .slice A n c].toList]) (fun i _ => n - (intOf i).toNat)
  case atStart => exact ⟨0, by omega, rfl, rfl, BK1.out⟩
  case round =>
    clear BK1
    obtain ⟨k, hk, rfl, hall, hB⟩ := hrel
    have HALL := Lib.hid hall; have BK := Lib.hid hB
    clear hall hB
    have k0 : (0 : Int) ≤ (k : Int) := by omega
    rcases Nat.lt_or_ge k n with h1 | h1
    · have j1 : (k : Int) < (n : Int) := by omega
      have hkl : k < l.ents.length := by rw [HN.out]; exact h1
      obtain ⟨b, o, rfl, A', m', c', ⟨y0, y1, y2, y3, y4, y5⟩, hrd⟩ := HE.out.since BK.out.since k hkl
      have x9 := BK.out.cell 1 rfl 9 rfl
      clear y1 y2 y3 y4 y5 hrd
      go_wp2_with fail
      clear x9 y0
      refine (rterm_any l.ents[k].term wr).mono ?_
      rintro e w5 ⟨rfl, rfl⟩
      cases hb : M.tm l.ents[k].term
      · have HFIN := Lib.hid (show SaidB w (M.lright l) (.returned (.bool false)) wr from ⟨by rw [M.lright_term l k hkl hb], BK.out.since⟩)
        clear hb
        go_wp2
        go_ret
        exact HFIN.out
      · have H := Lib.hid hb
        clear hb
        go_wp2
        go_roundw
        case rel => exact ⟨k + 1, by omega, by go_num, take_all hkl HALL.out H.out, BK.out⟩
        case measure => simp [intOf]; omega
    · have j1 : ¬ (k : Int) < (n : Int) := by omega
      have hall2 : l.ents.all (fun e => M.tm e.term) = true := by have := HALL.out; rwa [show k = l.ents.length by rw [HN.out]; omega, List.take_length] at this
      have HREF2 := Lib.hid (HREF.out hall2)
      clear hall2 HREF HALL
      have x0 := BK.out.cell 1 rfl 0 rfl
      have x1 := BK.out.cell 1 rfl 1 rfl
      have x2 := BK.out.cell 1 rfl 2 rfl
      have x3 := BK.out.cell 1 rfl 3 rfl
      have x4 := BK.out.cell 1 rfl 4 rfl
      have x5 := BK.out.cell 1 rfl 5 rfl
      have x6 := BK.out.cell 1 rfl 6 rfl
      have x7 := BK.out.cell 1 rfl 7 rfl
      have x8 := BK.out.cell 1 rfl 8 rfl
      have x9 := BK.out.cell 1 rfl 9 rfl
      have z0 := BK.out.cell 0 rfl 0 rfl
      have z1 := BK.out.cell 0 rfl 1 rfl
      have z2 := BK.out.cell 0 rfl 2 rfl
      have z3 := BK.out.cell 0 rfl 3 rfl
      have z4 := BK.out.cell 0 rfl 4 rfl
      have z5 := BK.out.cell 0 rfl 5 rfl
      have z6 := BK.out.cell 0 rfl 6 rfl
      have z7 := BK.out.cell 0 rfl 7 rfl
      have z8 := BK.out.cell 0 rfl 8 rfl
      have z9 := BK.out.cell 0 rfl 9 rfl
      go_wp2_with fail
      clear x0 x1 x2 x3 x4 x5 x6 x7 x8 x9 z0 z1 z2 z3 z4 z5 z6 z7 z8 z9
      refine (SameLetter_any l.kind l.src l.dst l.term l.term l.index 0 l.was 0 l.ok l.ok l.commit 0 l.version 0 A n c none 0 0 (decide (n = 0)) wr (fun w' hw => HSE.out w' (BK.out.since.add hw))).mono ?_
      rintro e w5 ⟨rfl, hs⟩
      have BK5 := Lib.hid (BK.out.call hs)
      obtain ⟨S, hS⟩ : ∃ S, S = (l.term == l.term && l.index == 0 && l.was == 0 && (l.ok == l.ok) && l.commit == 0 && l.version == 0 && decide (n = 0)) := ⟨_, rfl⟩
      rw [← hS]
      have HREF3 := Lib.hid (show M.lright l = (S && M.tm l.term && M.tm l.was && M.ix l.index && M.ix l.commit) by rw [hS]; exact HREF2.out)
      clear hS hs HREF2 BK
      cases S
      · have HFIN := Lib.hid (show SaidB w (M.lright l) (.returned (.bool false)) w5 from ⟨by rw [HREF3.out]; simp only [Bool.false_and, Bool.and_false, Bool.true_and], BK5.out.since⟩)
        go_wp2
        go_ret
        exact HFIN.out
      have x3 := BK5.out.cell 1 rfl 3 rfl
      go_wp2_with fail
      clear x3
      refine (rterm_any l.term w5).mono ?_
      rintro e w6 ⟨rfl, rfl⟩
      obtain ⟨b1, hb1⟩ : ∃ b, b = M.tm l.term := ⟨_, rfl⟩
      rw [← hb1]
      have HREF10 := Lib.hid (HREF3.out)
      rw [← hb1] at HREF3
      clear hb1 HREF10
      cases b1
      · have HFIN := Lib.hid (show SaidB w (M.lright l) (.returned (.bool false)) w5 from ⟨by rw [HREF3.out]; simp only [Bool.false_and, Bool.and_false, Bool.true_and], BK5.out.since⟩)
        go_wp2
        go_ret
        exact HFIN.out
      have x5 := BK5.out.cell 1 rfl 5 rfl
      go_wp2_with fail
      clear x5
      refine (rterm_any l.was w5).mono ?_
      rintro e w6 ⟨rfl, rfl⟩
      obtain ⟨b2, hb2⟩ : ∃ b, b = M.tm l.was := ⟨_, rfl⟩
      rw [← hb2]
      have HREF11 := Lib.hid (HREF3.out)
      rw [← hb2] at HREF3
      clear hb2 HREF11
      cases b2
      · have HFIN := Lib.hid (show SaidB w (M.lright l) (.returned (.bool false)) w5 from ⟨by rw [HREF3.out]; simp only [Bool.false_and, Bool.and_false, Bool.true_and], BK5.out.since⟩)
        go_wp2
        go_ret
        exact HFIN.out
      have x4 := BK5.out.cell 1 rfl 4 rfl
      go_wp2_with fail
      clear x4
      refine (rindex_any l.index w5).mono ?_
      rintro e w6 ⟨rfl, rfl⟩
      obtain ⟨b3, hb3⟩ : ∃ b, b = M.ix l.index := ⟨_, rfl⟩
      rw [← hb3]
      have HREF12 := Lib.hid (HREF3.out)
      rw [← hb3] at HREF3
      clear hb3 HREF12
      cases b3
      · have HFIN := Lib.hid (show SaidB w (M.lright l) (.returned (.bool false)) w5 from ⟨by rw [HREF3.out]; simp only [Bool.false_and, Bool.and_false, Bool.true_and], BK5.out.since⟩)
        go_wp2
        go_ret
        exact HFIN.out
      have x7 := BK5.out.cell 1 rfl 7 rfl
      go_wp2_with fail
      clear x7
      refine (rindex_any l.commit w5).mono ?_
      rintro e w6 ⟨rfl, rfl⟩
      obtain ⟨b4, hb4⟩ : ∃ b, b = M.ix l.commit := ⟨_, rfl⟩
      rw [← hb4]
      have HREF13 := Lib.hid (HREF3.out)
      rw [← hb4] at HREF3
      clear hb4 HREF13
      have HFIN := Lib.hid (show SaidB w (M.lright l) (.returned (.bool b4)) w5 from ⟨by rw [HREF3.out]; simp only [Bool.true_and], BK5.out.since⟩)
      go_wp2
      go_ret
      exact HFIN.out

end Go.Proofs.Ytdmpphioflcofaa.K
