/- Merged: WireEntry, FromB, LetPut, LetAwake, Lay, BagB. -/
import Derived.Test.YtdmpphioflcofaaGreatLz8
import Derived.Deep.RegionHeld3
import Derived.Deep.DeepCutAuto
/- The contract of wire.Entry. -/
namespace Go.Proofs.YtdmpphioflcofaaGreat.K
open Go Go.RowKit

theorem truth_any (b : Bool) (w : World) : Calls Tryz.prog 78 #[.bool b] w fun e w' => e = .returned (.int .i64 (M.flag b)) ∧ w = w' := by
  cases b
  · go_enter Tryz.func78, Tryz.ntmps78
    go_wp2
    go_ret
    exact ⟨rfl, rfl⟩
  · go_enter Tryz.func78, Tryz.ntmps78
    go_wp2
    go_ret
    exact ⟨rfl, rfl⟩
theorem conv_B8_int {P : Program} (w : World) (src dst : TypeId) (x : BitVec 8) (hs : P.underlying src = some (.int .u8)) (hd : P.underlying dst = some (.int .i64)) : (convert src dst (B8 x)).run P w = .ok (.int .i64 (x.toNat : Int)) w := by
  have hx := x.isLt
  have h : IntKind.i64.wrap (x.toNat : Int) = (x.toNat : Int) := IntWalk.i64_in _ (by omega)
  simp [convert, run_underlying hs, run_underlying hd, Conv.intToInt, B8, h]
/-- an entry as a value; its Data lies at A -/
def entV (e : M.Ent) (A : Option Addr) (n c : Nat) : Value := .agg #[.int .i64 e.term, B8 e.kind, .int .i64 e.version, .int .i64 e.server, .bool e.good, .slice A n c]
def entCells (e : M.Ent) (A : Option Addr) (n c : Nat) : Array Value := #[.int .i64 e.term, B8 e.kind, .int .i64 e.version, .int .i64 e.server, .bool e.good, .slice A n c]
abbrev sixRows (a b c d e f : Rw) (xa xb xc xd xe xf : List (BitVec 8)) : List (Rw × List (BitVec 8)) := [(a, xa), (b, xb), (c, xc), (d, xd), (e, xe), (f, xf)]
theorem six_mem {P : Rw × List (BitVec 8) → Prop} {a b c d e f : Rw} {xa xb xc xd xe xf : List (BitVec 8)} (h1 : P (a, xa)) (h2 : P (b, xb)) (h3 : P (c, xc)) (h4 : P (d, xd)) (h5 : P (e, xe)) (h6 : P (f, xf)) : ∀ p ∈ sixRows a b c d e f xa xb xc xd xe xf, P p := by
  intro p hp
  simp only [List.mem_cons, List.mem_nil_iff, or_false] at hp
  rcases hp with rfl | rfl | rfl | rfl | rfl | rfl <;> assumption

set_option maxHeartbeats 2000000 in
set_option maxRecDepth 100000 in
theorem wentry_any (t k v s g : Int) (K : BitVec 8) (G : Bool) (A : Option Addr) (n c : Nat) (bs : List (BitVec 8)) (w : World) (hr : RowRd w ⟨A, n, c⟩ bs) (hn2 : n ≤ 1000000000000) (hk : k = (K.toNat : Int)) (hg : g = M.flag G) :
    Calls Tryz.prog 35 #[.agg #[.int .i64 t, B8 K, .int .i64 v, .int .i64 s, .bool G, .slice A n c]] w fun e w' => ∃ g N c', e = .returned (.slice (some ⟨g, 0, none⟩) N c') ∧ N = (M.ent ⟨t, K, v, s, G, bs⟩).length ∧ w'.ownsRow w.heap.size 5 1 (.slice (some ⟨g, 0, none⟩) N c') N (bv (M.ent ⟨t, K, v, s, G, bs⟩)) ∧ Below w.heap.size w w' := by
  have hcv := fun w => conv_B8_int (P := Tryz.prog) w 40 3 K Tryz.underlying40 Tryz.underlying3
  rw [← hk] at hcv
  have htr : ∀ w, Calls Tryz.prog 78 #[.bool G] w fun e w' => e = .returned (.int .i64 g) ∧ w = w' := fun w => by rw [hg]; exact truth_any G w
  have hr0 : RowRd (w.alloc (.cells #[.int .i64 t, B8 K, .int .i64 v, .int .i64 s, .bool G, .slice A n c] 42)) ⟨A, n, c⟩ bs := hr.below ((Below.refl _ _).alloc (Nat.le_refl _) _)
  have HR := Lib.hid hr0; have HK := Lib.hid hk; have HG := Lib.hid hg; have HTR := Lib.hid htr
  have hlb : bs.length = n := hr.len
  have HLB := Lib.hid hlb
  clear hr hk hg htr hr0 hlb
  go_enter Tryz.func35, Tryz.ntmps35
  go_wp2_with fail
  have x0 : (w.alloc (.cells #[.int .i64 t, B8 K, .int .i64 v, .int .i64 s, .bool G, .slice A n c] 42)).cell? ⟨w.heap.size, 0, none⟩ = some (.int .i64 t) := by rw [World.cell?_alloc_new]; rfl
  have x1 : (w.alloc (.cells #[.int .i64 t, B8 K, .int .i64 v, .int .i64 s, .bool G, .slice A n c] 42)).cell? ⟨w.heap.size, 1, none⟩ = some (B8 K) := by rw [World.cell?_alloc_new]; rfl
  have x2 : (w.alloc (.cells #[.int .i64 t, B8 K, .int .i64 v, .int .i64 s, .bool G, .slice A n c] 42)).cell? ⟨w.heap.size, 2, none⟩ = some (.int .i64 v) := by rw [World.cell?_alloc_new]; rfl
  have x3 : (w.alloc (.cells #[.int .i64 t, B8 K, .int .i64 v, .int .i64 s, .bool G, .slice A n c] 42)).cell? ⟨w.heap.size, 3, none⟩ = some (.int .i64 s) := by rw [World.cell?_alloc_new]; rfl
  have x4 : (w.alloc (.cells #[.int .i64 t, B8 K, .int .i64 v, .int .i64 s, .bool G, .slice A n c] 42)).cell? ⟨w.heap.size, 4, none⟩ = some (.bool G) := by rw [World.cell?_alloc_new]; rfl
  have x5 : (w.alloc (.cells #[.int .i64 t, B8 K, .int .i64 v, .int .i64 s, .bool G, .slice A n c] 42)).cell? ⟨w.heap.size, 5, none⟩ = some (.slice A n c) := by rw [World.cell?_alloc_new]; rfl
  have hb0 : Below w.heap.size w (w.alloc (.cells #[.int .i64 t, B8 K, .int .i64 v, .int .i64 s, .bool G, .slice A n c] 42)) := (Below.refl _ _).alloc (Nat.le_refl _) _
  have hs0 : (w.alloc (.cells #[.int .i64 t, B8 K, .int .i64 v, .int .i64 s, .bool G, .slice A n c] 42)).heap.size = w.heap.size + 1 := by simp
  have HB0 := Lib.hid hb0
  clear hb0
  generalize w.alloc (.cells #[.int .i64 t, B8 K, .int .i64 v, .int .i64 s, .bool G, .slice A n c] 42) = w0 at *
  have hs0' : w.heap.size < w0.heap.size := by omega
  clear hs0
  go_region_held3 (fun w' => w'.cell? ⟨w.heap.size, 0, none⟩ = some (.int .i64 t) ∧ w'.cell? ⟨w.heap.size, 1, none⟩ = some (B8 K) ∧ w'.cell? ⟨w.heap.size, 2, none⟩ = some (.int .i64 v) ∧ w'.cell? ⟨w.heap.size, 3, none⟩ = some (.int .i64 s) ∧ w'.cell? ⟨w.heap.size, 4, none⟩ = some (.bool G) ∧ w'.cell? ⟨w.heap.size, 5, none⟩ = some (.slice A n c))
    (first
      | (go_split_ands; refine ⟨?_, ?_, ?_, ?_, ?_, ?_⟩ <;> assumption)
      | (go_split_ands; refine ⟨?_, ?_, ?_, ?_, ?_, ?_⟩ <;> (rw [hb7.cell (by simp; omega)]; assumption))
      | (go_split_ands; refine ⟨?_, ?_, ?_, ?_, ?_, ?_⟩ <;> (rw [hb6.cell (by show w.heap.size < _; omega)]; assumption))
      | (go_split_ands; refine ⟨?_, ?_, ?_, ?_, ?_, ?_⟩ <;> (rw [hb5.cell (by show w.heap.size < _; omega)]; assumption))
      | (go_split_ands; refine ⟨?_, ?_, ?_, ?_, ?_, ?_⟩ <;> (rw [hb4.cell (by show w.heap.size < _; omega)]; assumption))
      | (go_split_ands; refine ⟨?_, ?_, ?_, ?_, ?_, ?_⟩ <;> (rw [hb3.cell (by show w.heap.size < _; omega)]; assumption))
      | (go_split_ands; refine ⟨?_, ?_, ?_, ?_, ?_, ?_⟩ <;> (rw [hb2.cell (by show w.heap.size < _; omega)]; assumption))
      | (go_split_ands; refine ⟨?_, ?_, ?_, ?_, ?_, ?_⟩ <;> (rw [hb1.cell (by show w.heap.size < _; omega)]; assumption))
      | go_keep)
    (first
      | (go_at_call 76; ((with_reducible refine (wnum_any t _).mono ?_); rintro e w1 ⟨g1, rfl, ho1, hb1'⟩; have hb1 := below_of_drew hb1'; have hs1 := hb1.size; clear hb1'))
      | (go_at_call 76; ((with_reducible refine (wnum_any k _).mono ?_); rintro e w2 ⟨g2, rfl, ho2, hb2⟩; have hs2 := hb2.size))
      | (go_at_call 76; ((with_reducible refine (wnum_any v _).mono ?_); rintro e w3 ⟨g3, rfl, ho3, hb3⟩; have hs3 := hb3.size))
      | (go_at_call 76; ((with_reducible refine (wnum_any s _).mono ?_); rintro e w4 ⟨g4, rfl, ho4, hb4⟩; have hs4 := hb4.size))
      | (go_at_call 78; ((with_reducible refine (HTR.out _).mono ?_); rintro e wt ⟨rfl, rfl⟩))
      | (go_at_call 76; ((with_reducible refine (wnum_any g _).mono ?_); rintro e w5 ⟨g5, rfl, ho5, hb5⟩; have hs5 := hb5.size))
      | (go_at_call 79; ((with_reducible refine (wbytes_any A n c bs _ ?_ ?_).mono ?_); (exact ((((HR.out.below hb1).below hb2).below hb3).below hb4).below hb5); (omega); rintro e w6 ⟨g6, N6, c6, rfl, hN6, ho6, hb6⟩; have hs6 := hb6.size; have HN6 := Lib.hid hN6; clear hN6))
      | (go_at_call 77; ((with_reducible refine (join_any (some ⟨w6.heap.size, 0, none⟩) 6 6 (rowsOf (sixRows ⟨some ⟨g1, 0, none⟩, 8, 8⟩ ⟨some ⟨g2, 0, none⟩, 8, 8⟩ ⟨some ⟨g3, 0, none⟩, 8, 8⟩ ⟨some ⟨g4, 0, none⟩, 8, 8⟩ ⟨some ⟨g5, 0, none⟩, 8, 8⟩ ⟨some ⟨g6, 0, none⟩, N6, c6⟩ (M.num t) (M.num k) (M.num v) (M.num s) (M.num g) (M.blob bs))) (bytesAt (sixRows ⟨some ⟨g1, 0, none⟩, 8, 8⟩ ⟨some ⟨g2, 0, none⟩, 8, 8⟩ ⟨some ⟨g3, 0, none⟩, 8, 8⟩ ⟨some ⟨g4, 0, none⟩, 8, 8⟩ ⟨some ⟨g5, 0, none⟩, 8, 8⟩ ⟨some ⟨g6, 0, none⟩, N6, c6⟩ (M.num t) (M.num k) (M.num v) (M.num s) (M.num g) (M.blob bs))) _ ?_ ?_ ?_).mono ?_); (refine parts_of (sixRows ⟨some ⟨g1, 0, none⟩, 8, 8⟩ ⟨some ⟨g2, 0, none⟩, 8, 8⟩ ⟨some ⟨g3, 0, none⟩, 8, 8⟩ ⟨some ⟨g4, 0, none⟩, 8, 8⟩ ⟨some ⟨g5, 0, none⟩, 8, 8⟩ ⟨some ⟨g6, 0, none⟩, N6, c6⟩ (M.num t) (M.num k) (M.num v) (M.num s) (M.num g) (M.blob bs)) rfl (six_mem ?_ ?_ ?_ ?_ ?_ ?_); (exact ((((((RowRd.of_row ho1).below hb2).below hb3).below hb4).below hb5).below hb6)); (exact (((((RowRd.of_row ho2).below hb3).below hb4).below hb5).below hb6)); (exact ((((RowRd.of_row ho3).below hb4).below hb5).below hb6)); (exact (((RowRd.of_row ho4).below hb5).below hb6)); (exact ((RowRd.of_row ho5).below hb6)); (exact (RowRd.of_row ho6))); (omega); (rw [show (6 : Nat) = (sixRows ⟨some ⟨g1, 0, none⟩, 8, 8⟩ ⟨some ⟨g2, 0, none⟩, 8, 8⟩ ⟨some ⟨g3, 0, none⟩, 8, 8⟩ ⟨some ⟨g4, 0, none⟩, 8, 8⟩ ⟨some ⟨g5, 0, none⟩, 8, 8⟩ ⟨some ⟨g6, 0, none⟩, N6, c6⟩ (M.num t) (M.num k) (M.num v) (M.num s) (M.num g) (M.blob bs)).length from rfl, joined_all]; have := HN6.out; simp [M.num_length, M.blob_length]; have := HLB.out; omega); rintro e w7 ⟨A7, N7, c7, rfl, hN7, ho7, hb7⟩; have HN7 := Lib.hid hN7; clear hN7)))
  have hT : (List.map (·.2) (sixRows ⟨some ⟨g1, 0, none⟩, 8, 8⟩ ⟨some ⟨g2, 0, none⟩, 8, 8⟩ ⟨some ⟨g3, 0, none⟩, 8, 8⟩ ⟨some ⟨g4, 0, none⟩, 8, 8⟩ ⟨some ⟨g5, 0, none⟩, 8, 8⟩ ⟨some ⟨g6, 0, none⟩, N6, c6⟩ (M.num t) (M.num k) (M.num v) (M.num s) (M.num g) (M.blob bs))).flatten = M.ent ⟨t, K, v, s, G, bs⟩ := by
    rw [HK.out, HG.out]; simp [M.ent]
  have hN7 := HN7.out
  rw [show (6 : Nat) = (sixRows ⟨some ⟨g1, 0, none⟩, 8, 8⟩ ⟨some ⟨g2, 0, none⟩, 8, 8⟩ ⟨some ⟨g3, 0, none⟩, 8, 8⟩ ⟨some ⟨g4, 0, none⟩, 8, 8⟩ ⟨some ⟨g5, 0, none⟩, 8, 8⟩ ⟨some ⟨g6, 0, none⟩, N6, c6⟩ (M.num t) (M.num k) (M.num v) (M.num s) (M.num g) (M.blob bs)).length from rfl, joined_all, hT] at hN7 ho7
  have hlb := HLB.out
  have hN7' : 48 ≤ N7 := by rw [hN7]; simp [M.ent, M.num_length, M.blob_length]; omega
  obtain ⟨g7, c8, e, _, _⟩ := ho7.form (by omega)
  simp only [Value.slice.injEq, true_and] at e
  obtain ⟨rfl, rfl⟩ := e
  have h06 := ((((((hb1.trans (hb2.mono hb1.size)).trans (hb3.mono (by omega))).trans (hb4.mono (by omega))).trans (hb5.mono (by omega))).trans (hb6.mono (by omega)))).mono (Nat.le_of_lt hs0')
  have hw6 : w.heap.size ≤ w6.heap.size := by omega
  have ho8 := row_weaken ho7 (base' := w.heap.size) (by simp; omega)
  have h8 := HB0.out.trans ((h06.alloc hw6 (.cells ((sixRows ⟨some ⟨g1, 0, none⟩, 8, 8⟩ ⟨some ⟨g2, 0, none⟩, 8, 8⟩ ⟨some ⟨g3, 0, none⟩, 8, 8⟩ ⟨some ⟨g4, 0, none⟩, 8, 8⟩ ⟨some ⟨g5, 0, none⟩, 8, 8⟩ ⟨some ⟨g6, 0, none⟩, N6, c6⟩ (M.num t) (M.num k) (M.num v) (M.num s) (M.num g) (M.blob bs)).map fun p => p.1.v).toArray 22)).trans (hb7.mono (by simp; omega)))
  have HO8 := Lib.hid ho8; have H8 := Lib.hid h8; have HN8 := Lib.hid hN7
  clear ho1 ho2 ho3 ho4 ho5 ho6 ho7 hb1 hb2 hb3 hb4 hb5 hb6 hb7 h06 ho8 h8 hN7 hT x0 x1 x2 x3 x4 x5
  go_wp2
  go_ret
  exact ⟨g7, N7, c7, rfl, HN8.out, HO8.out, H8.out⟩
end Go.Proofs.YtdmpphioflcofaaGreat.K

/- Numbers and bytes written, told from an elder world. -/
namespace Go.Proofs.YtdmpphioflcofaaGreat.K
open Go Go.RowKit

theorem num_made (n : Int) (w : World) : Calls Tryz.prog 76 #[.int .i64 n] w (Made w (M.num n)) :=
  (wnum_any n w).mono fun e w' ⟨g, he, ho, hb⟩ => ⟨g, 8, 8, he, rfl, ho, hb⟩
theorem rnum_made (n : Int) (w : World) : Calls Tryz.prog 19 #[.int .i64 n] w (Made w (M.num n)) :=
  (rnum_any n w).mono fun e w' ⟨g, c, he, ho, hb⟩ => ⟨g, 8, c, he, rfl, ho, hb⟩
theorem bytes_made {w0 : World} {A : Option Addr} {n c : Nat} {bs : List (BitVec 8)} (hr : RowRd w0 ⟨A, n, c⟩ bs) (hn : n ≤ 1000000000000) {w : World} (h : Since w0 w) : Calls Tryz.prog 79 #[.slice A n c] w (Made w (M.blob bs)) :=
  (wbytes_any A n c bs w (h.row hr) (by omega)).mono fun e w' ⟨g, N, c', he, hN, ho, hb⟩ => ⟨g, N, c', he, by rw [M.blob_length, hr.len]; exact hN, ho, hb⟩
theorem rbytes_made {w0 : World} {A : Option Addr} {n c : Nat} {bs : List (BitVec 8)} (hr : RowRd w0 ⟨A, n, c⟩ bs) (hn : n ≤ 1000000000000) {w : World} (h : Since w0 w) : Calls Tryz.prog 80 #[.slice A n c] w (Made w (M.blob bs)) :=
  (rbytes_any A n c bs w (h.row hr) (by omega)).mono fun e w' ⟨g, N, c', he, hN, ho, hb⟩ => ⟨g, N, c', he, by rw [M.blob_length, hr.len]; exact hN, ho, hb⟩
end Go.Proofs.YtdmpphioflcofaaGreat.K

/- The contracts of letter's numbers and Put. -/
namespace Go.Proofs.YtdmpphioflcofaaGreat.K
open Go Go.RowKit

set_option maxHeartbeats 2000000 in
set_option maxRecDepth 100000 in
theorem numbers_any (B : Option Addr) (m d : Nat) (ns : List Int) (w : World) (hl : ns.length = m) (hB : IntsRd w B ns) (hm : m ≤ 1000000) :
    Calls Tryz.prog 34 #[.slice B m d] w (MadeO w (M.nums ns)) := by
  have HB := Lib.hid hB; have HL := Lib.hid hl
  clear hB hl
  go_enter Tryz.func34, Tryz.ntmps34
  go_wp2
  go_loopw [3, 8] (fun v i wr => ∃ (k N c : Nat) (A : Option Addr), k ≤ m ∧ i = .int .i64 (k : Int) ∧ v = .slice A N c ∧ N = 8 * k ∧ Bank w wr [rowAcc A N c (M.nums (ns.take k))]) (fun _ i _ => m - (intOf i).toNat)
  case atStart => exact ⟨0, 0, 0, none, by omega, rfl, rfl, rfl, (Bank.nil (Below.refl _ _)).none _ _⟩
  case round =>
    obtain ⟨k, N, c, A, hk, rfl, rfl, hN, hBk⟩ := hrel
    have k0 : (0 : Int) ≤ (k : Int) := by omega
    have BK := Lib.hid hBk
    have HNK := Lib.hid hN
    have hNb : N ≤ 8000000 := by omega
    clear hBk hN
    rcases Nat.lt_or_ge k m with h1 | h1
    · have i1 : (k : Int) < (m : Int) := by omega
      have hkl : k < ns.length := by rw [HL.out]; exact h1
      obtain ⟨b, o, rfl, hc⟩ := HB.out.since BK.out.since k hkl
      go_wp2_with fail
      refine (num_made ns[k] wr).mono ?_
      rintro e w1 ⟨g, N1, c1, rfl, hN1, ho, hs⟩
      have hN8 : N1 = 8 := hN1
      subst hN8
      have BK1 := Lib.hid (BK.out.madeB hs ho)
      clear hs ho hN1 hc
      go_wp2_with (at_builtin; refine wpList_append_bytes BK1.out rfl _ _ 22 rfl 5 infoByte Tryz.underlying22 1 A N c (M.nums (ns.take k)) rfl rfl _ _ _ (M.num ns[k]) rfl (BK1.out.row 0 rfl) (by omega) ?_; intro A' n' c' w3 hn' hB3; have BK3 := Lib.hid hB3.drop; have HN' := Lib.hid hn'; clear hn' hB3)
      go_roundw
      case rel =>
        refine ⟨k + 1, n', c', A', by omega, by go_num, rfl, by rw [HN'.out, HNK.out]; omega, ?_⟩
        have h := BK3.out
        rw [List.take_succ_eq_append_getElem hkl, M.nums_snoc]
        exact h
      case measure => simp [intOf]; omega
    · have i1 : ¬ (k : Int) < (m : Int) := by omega
      have hkm : k = ns.length := by rw [HL.out]; omega
      have HFIN := Lib.hid (show MadeO w (M.nums ns) (.returned (.slice A N c)) wr from ⟨A, N, c, rfl, by rw [M.nums_length, HL.out, HNK.out]; omega, by have h := BK.out.at 0 rfl; rw [hkm, List.take_length] at h; exact h, BK.out.since⟩)
      clear hkm
      go_wp2
      go_ret
      exact HFIN.out
/-- a letter's bytes, or the error -/
def LPut (w : World) (l : M.Let) (e : Ending) (w' : World) : Prop := ∃ A N c, e = .returned (.tuple #[.slice A N c, .int .i64 (M.lputE l : Int)]) ∧ N = (M.lput l).length ∧ Bank w w' [rowAcc A N c (M.lput l)]
theorem lput_bad {l : M.Let} (h : M.lright l = false) : M.lput l = [] ∧ M.lputE l = 4 := by
  unfold M.lput M.lputE
  rw [h]
  exact ⟨rfl, rfl⟩
theorem lput_good {l : M.Let} (h : M.lright l = true) : M.lput l = M.lbytes l ∧ M.lputE l = 0 := by
  unfold M.lput M.lputE
  rw [if_pos h, if_pos h]
  exact ⟨rfl, rfl⟩
set_option maxHeartbeats 8000000 in
set_option maxRecDepth 100000 in
theorem lPut_any (l : M.Let) (A : Option Addr) (n c : Nat) (w : World) (hn : l.ents.length = n) (hn2 : n ≤ 9223372036854775807) (hE : EntsRd w A l.ents) (hD : ∀ e ∈ l.ents, e.data.length ≤ 1000000000000) :
    Calls Tryz.prog 13 #[.agg #[B8 l.kind, .int .i64 l.src, .int .i64 l.dst, .int .i64 l.term, .int .i64 l.index, .int .i64 l.was, .bool l.ok, .int .i64 l.commit, .int .i64 l.version, .slice A n c]] w (LPut w l) := by
  have HE := Lib.hid hE; have HN := Lib.hid hn; have HD := Lib.hid hD
  have BK0 := Lib.hid ((Bank.nil (Below.refl w.heap.size w)).box #[B8 l.kind, .int .i64 l.src, .int .i64 l.dst, .int .i64 l.term, .int .i64 l.index, .int .i64 l.was, .bool l.ok, .int .i64 l.commit, .int .i64 l.version, .slice A n c] 28 (by simp))
  have hcv := fun w => conv_B8_int (P := Tryz.prog) w 25 3 l.kind Tryz.underlying25 Tryz.underlying3
  clear hE hn hD
  go_enter Tryz.func13, Tryz.ntmps13
  go_wp2_with fail
  generalize w.alloc (.cells #[B8 l.kind, .int .i64 l.src, .int .i64 l.dst, .int .i64 l.term, .int .i64 l.index, .int .i64 l.was, .bool l.ok, .int .i64 l.commit, .int .i64 l.version, .slice A n c] 28) = w1 at *
  refine (lRight_any l A n c w1 HN.out hn2 (HE.out.since BK0.out.since)).mono ?_
  rintro e w2 ⟨rfl, hs⟩
  have BK1 := Lib.hid (BK0.out.call hs)
  clear hs BK0
  by_cases hR : M.lright l = true
  rotate_left
  · have hR' : M.lright l = false := by simpa using hR
    rw [hR']
    have HFIN := Lib.hid (show LPut w l (.returned (.tuple #[.slice none 0 0, .int .i64 4])) w2 from ⟨none, 0, 0, by rw [(lput_bad hR').2]; rfl, by rw [(lput_bad hR').1]; rfl, by rw [(lput_bad hR').1]; exact ((Bank.nil BK1.out.since).none _ _)⟩)
    clear hR hR'
    go_wp2
    go_ret2
    exact HFIN.out
  have hlen : l.ents.length ≤ 4 := (M.lright_small l hR).2.2.2.2.2.2.2
  rw [hR]
  have hn4 : n ≤ 4 := by rw [← HN.out]; exact hlen
  have HR := Lib.hid hR
  clear hR hlen
  obtain ⟨fl, hfl⟩ : ∃ fl : Int, fl = M.flag l.ok := ⟨_, rfl⟩
  have HFL := Lib.hid hfl
  clear hfl
  have x0 := BK1.out.cell 0 rfl 0 rfl
  have x1 := BK1.out.cell 0 rfl 1 rfl
  have x2 := BK1.out.cell 0 rfl 2 rfl
  have x3 := BK1.out.cell 0 rfl 3 rfl
  have x4 := BK1.out.cell 0 rfl 4 rfl
  have x5 := BK1.out.cell 0 rfl 5 rfl
  have x6 := BK1.out.cell 0 rfl 6 rfl
  have x7 := BK1.out.cell 0 rfl 7 rfl
  have x8 := BK1.out.cell 0 rfl 8 rfl
  have x9 := BK1.out.cell 0 rfl 9 rfl
  have HGO : Hid (∀ (w3 : World) (e : Ending), MadeO (w2.alloc (.cells #[.int .i64 (l.kind.toNat : Int), .int .i64 l.src, .int .i64 l.dst, .int .i64 l.term, .int .i64 l.index, .int .i64 l.was, .int .i64 fl, .int .i64 l.commit, .int .i64 l.version, .int .i64 (n : Int)] 3)) (M.nums (M.lnums l)) e w3 → ∃ A3 c3, e = .returned (.slice A3 80 c3) ∧ Bank w w3 [rowAcc A3 80 c3 (M.nums (M.lnums l)), boxAcc w.heap.size 28 #[B8 l.kind, .int .i64 l.src, .int .i64 l.dst, .int .i64 l.term, .int .i64 l.index, .int .i64 l.was, .bool l.ok, .int .i64 l.commit, .int .i64 l.version, .slice A n c].toList]) := Lib.hid (by
    rintro w3 e ⟨A3, N3, c3, rfl, hN3, ho3, hs3⟩
    have h80 : N3 = 80 := by rw [hN3, M.nums_length]; rfl
    subst h80
    exact ⟨A3, c3, rfl, (BK1.out.alloc _).madeB hs3 ho3⟩)
  have HNM : Hid (∀ w0 : World, Calls Tryz.prog 34 #[.slice (some ⟨w0.heap.size, 0, none⟩) 10 10] (w0.alloc (.cells #[.int .i64 (l.kind.toNat : Int), .int .i64 l.src, .int .i64 l.dst, .int .i64 l.term, .int .i64 l.index, .int .i64 l.was, .int .i64 fl, .int .i64 l.commit, .int .i64 l.version, .int .i64 (n : Int)] 3)) (MadeO (w0.alloc (.cells #[.int .i64 (l.kind.toNat : Int), .int .i64 l.src, .int .i64 l.dst, .int .i64 l.term, .int .i64 l.index, .int .i64 l.was, .int .i64 fl, .int .i64 l.commit, .int .i64 l.version, .int .i64 (n : Int)] 3)) (M.nums (M.lnums l)))) := Lib.hid (fun w0 => numbers_any _ 10 10 (M.lnums l) _ rfl (ints_lit w0.heap.size w0 (M.lnums l) _ _ rfl (by rw [HFL.out, ← HN.out]; rfl)) (by omega))
  cases hok : l.ok
  all_goals
    have hfl2 := HFL.out
    rw [hok] at hfl2
    first
    | (obtain rfl : fl = 0 := hfl2)
    | (obtain rfl : fl = 1 := hfl2)
    rw [hok] at x6
    go_wp2_with fail
    clear x0 x1 x2 x3 x4 x5 x6 x7 x8 x9
    refine (HNM.out w2).mono ?_
    intro e w3 h3
    obtain ⟨A3, c3, rfl, hB3⟩ := HGO.out w3 e h3
    have BK3 := Lib.hid hB3
    clear h3 hB3 HGO HNM BK1 hok
    have x9 := BK3.out.cell 1 rfl 9 rfl
    go_wp2_with fail
    clear x9
    go_loopw [5, 39] (fun v i wr => ∃ (k N c' : Nat) (B : Option Addr), k ≤ n ∧ i = .int .i64 (k : Int) ∧ v = .slice B N c' ∧ N ≤ 80 + k * 2000000000000 ∧ Bank w wr [rowAcc B N c' (M.nums (M.lnums l) ++ M.ents (l.ents.take k))]) (fun _ i _ => n - (intOf i).toNat)
    case atStart => exact ⟨0, 80, c3, A3, by omega, rfl, rfl, by omega, by have h := BK3.out.sub (.cons_cons _ (.cons _ .slnil)); simpa [M.ents] using h⟩
    case round =>
      clear BK3
      obtain ⟨k, N, c', B, hk, rfl, rfl, hNk, hBk⟩ := hrel
      have BK := Lib.hid hBk
      clear hBk
      have k0 : (0 : Int) ≤ (k : Int) := by omega
      rcases Nat.lt_or_ge k n with h1 | h1
      · have i1 : (k : Int) < (n : Int) := by omega
        have hkl : k < l.ents.length := by rw [HN.out]; exact h1
        obtain ⟨b, o, rfl, A', m', c2, ⟨y0, y1, y2, y3, y4, y5⟩, hrd⟩ := HE.out.since BK.out.since k hkl
        obtain ⟨x, hx⟩ : ∃ x, x = l.ents[k] := ⟨_, rfl⟩
        rw [← hx] at y0 y1 y2 y3 y4 hrd
        have hdl : x.data.length ≤ 1000000000000 := by rw [hx]; exact HD.out _ (List.getElem_mem _)
        have hml : x.data.length = m' := hrd.len
        have hel : (M.ent x).length = 48 + m' := by rw [M.ent_length, hml]
        have HX := Lib.hid hx; have HRD := Lib.hid hrd; have HEL := Lib.hid hel
        have hm' : m' ≤ 1000000000000 := by omega
        clear hx hrd hdl hml hel
        go_wp2_with fail
        clear y0 y1 y2 y3 y4 y5
        have BK4 := Lib.hid (BK.out.alloc (.cells #[.int .i64 x.term, B8 x.kind, .int .i64 x.version, .int .i64 x.server, .bool x.good, .slice A' m' c2] 42))
        have HR4 := Lib.hid (HRD.out.below ((Below.refl _ _).alloc (Nat.le_refl _) (.cells #[.int .i64 x.term, B8 x.kind, .int .i64 x.version, .int .i64 x.server, .bool x.good, .slice A' m' c2] 42)))
        refine (wentry_any x.term (x.kind.toNat : Int) x.version x.server (M.flag x.good) x.kind x.good A' m' c2 x.data _ HR4.out hm' rfl rfl).mono ?_
        rintro e w5 ⟨g5, N5, c5, rfl, hN5, ho5, hb5⟩
        have BK5 := Lib.hid (BK4.out.madeB hb5 ho5)
        have hn5 : N5 ≤ 48 + m' := by rw [hN5]; exact Nat.le_of_eq HEL.out
        clear hN5 ho5 hb5 BK4 HR4
        go_wp2_with (at_builtin; refine wpList_append_bytes BK5.out rfl _ _ 22 rfl 5 infoByte Tryz.underlying22 1 B N c' (M.nums (M.lnums l) ++ M.ents (l.ents.take k)) rfl rfl _ _ _ (M.ent x) rfl (BK5.out.row 0 rfl) (by omega) ?_; intro A6 n6 c6 w6 hn6 hB6; have BK6 := Lib.hid hB6.drop; have hn6' := Nat.le_of_eq hn6; clear hn6 hB6)
        go_roundw
        case rel =>
          refine ⟨k + 1, n6, c6, A6, by omega, by go_num, rfl, by omega, ?_⟩
          have h := BK6.out
          rw [HX.out, List.append_assoc, ← M.ents_snoc, ← List.take_succ_eq_append_getElem hkl] at h
          exact h
        case measure => simp [intOf]; omega
      · have i1 : ¬ (k : Int) < (n : Int) := by omega
        have hkm : k = l.ents.length := by rw [HN.out]; omega
        have HFIN := Lib.hid (show LPut w l (.returned (.tuple #[.slice B N c', .int .i64 0])) wr from by
          have h := BK.out
          rw [hkm, List.take_length] at h
          refine ⟨B, N, c', by rw [(lput_good HR.out).2]; rfl, ?_, by rw [(lput_good HR.out).1]; exact h⟩
          rw [(lput_good HR.out).1]
          exact (h.row 0 rfl).len.symm)
        clear hkm
        go_wp2
        go_ret2
        exact HFIN.out
end Go.Proofs.YtdmpphioflcofaaGreat.K

/- The chapter's examples: barbicanlaw24.awake answers true. -/
namespace Go.Proofs.YtdmpphioflcofaaGreat.K
open Go Go.RowKit

def awV : M.Let := ⟨2#8, 1, 2, 3, 0, 0, true, 0, 0, []⟩
def awW : M.Let := ⟨2#8, 1, 2, 3, 1, 0, true, 0, 0, []⟩
def awA : M.Let := ⟨5#8, 1, 2, 0, 0, 0, false, 0, 0, []⟩
theorem aw_V : M.lputE awV = 0 := by decide
theorem aw_Vl : (M.lput awV).length = 80 := by decide
theorem aw_W : M.lputE awW = 4 := by decide
theorem aw_A : M.lputE awA = 4 := by decide
set_option maxHeartbeats 8000000 in
set_option maxRecDepth 100000 in
theorem awake24_any (w : World) : Calls Tryz.prog 5 #[] w (SaidB w true) := by
  have BK0 := Lib.hid (show Bank w _ [boxAcc w.heap.size 28 [.int .u8 2, .int .i64 1, .int .i64 2, .int .i64 3, .int .i64 0, .int .i64 0, .bool true, .int .i64 0, .int .i64 0, .slice none 0 0]] from (Bank.nil (Below.refl w.heap.size w)).box #[.int .u8 2, .int .i64 1, .int .i64 2, .int .i64 3, .int .i64 0, .int .i64 0, .bool true, .int .i64 0, .int .i64 0, .slice none 0 0] 28 (by simp))
  go_enter Tryz.func5, Tryz.ntmps5
  go_wp2_with fail
  generalize w.alloc (.cells #[.int .u8 2, .int .i64 1, .int .i64 2, .int .i64 3, .int .i64 0, .int .i64 0, .bool true, .int .i64 0, .int .i64 0, .slice none 0 0] 28) = w1 at *
  refine (show Calls Tryz.prog 13 #[.agg #[.int .u8 2, .int .i64 1, .int .i64 2, .int .i64 3, .int .i64 0, .int .i64 0, .bool true, .int .i64 0, .int .i64 0, .slice none 0 0]] w1 (LPut w1 awV) from lPut_any awV none 0 0 w1 rfl (by omega) (EntsRd.nil _ _) (fun _ h => by cases h)).mono ?_
  rintro e w2 ⟨A2, N2, c2, he, hN2, hB⟩
  obtain rfl : N2 = 80 := hN2.trans aw_Vl
  have he' : e = .returned (.tuple #[.slice A2 80 c2, .int .i64 0]) := he.trans (by rw [aw_V]; rfl)
  subst he'
  have BK2 := Lib.hid (BK0.out.call hB.since)
  have x4 := BK2.out.cell 0 rfl 4 rfl
  have f4 := BK2.out.free 0 rfl 4
  have BK3 := Lib.hid (BK2.out.boxSet 0 rfl 4 (.int .i64 1))
  have y0 := BK3.out.cell 0 rfl 0 rfl
  have y1 := BK3.out.cell 0 rfl 1 rfl
  have y2 := BK3.out.cell 0 rfl 2 rfl
  have y3 := BK3.out.cell 0 rfl 3 rfl
  have y4 := BK3.out.cell 0 rfl 4 rfl
  have y5 := BK3.out.cell 0 rfl 5 rfl
  have y6 := BK3.out.cell 0 rfl 6 rfl
  have y7 := BK3.out.cell 0 rfl 7 rfl
  have y8 := BK3.out.cell 0 rfl 8 rfl
  have y9 := BK3.out.cell 0 rfl 9 rfl
  clear he hN2 hB BK0 BK2
  go_wp2_with fail
  clear x4 f4 y0 y1 y2 y3 y4 y5 y6 y7 y8 y9
  generalize w2.setCell ⟨w.heap.size, 4, none⟩ (.int .i64 1) = w3 at *
  refine (show Calls Tryz.prog 13 #[.agg #[.int .u8 2, .int .i64 1, .int .i64 2, .int .i64 3, .int .i64 1, .int .i64 0, .bool true, .int .i64 0, .int .i64 0, .slice none 0 0]] w3 (LPut w3 awW) from lPut_any awW none 0 0 w3 rfl (by omega) (EntsRd.nil _ _) (fun _ h => by cases h)).mono ?_
  rintro e w4 ⟨A4, N4, c4, he, hN4, hB⟩
  have he' : e = .returned (.tuple #[.slice A4 N4 c4, .int .i64 4]) := he.trans (by rw [aw_W]; rfl)
  subst he'
  have BK4 := Lib.hid (BK3.out.call hB.since)
  clear he hN4 hB BK3
  go_wp2_with fail
  refine (show Calls Tryz.prog 13 #[.agg #[.int .u8 5, .int .i64 1, .int .i64 2, .int .i64 0, .int .i64 0, .int .i64 0, .bool false, .int .i64 0, .int .i64 0, .slice none 0 0]] w4 (LPut w4 awA) from lPut_any awA none 0 0 w4 rfl (by omega) (EntsRd.nil _ _) (fun _ h => by cases h)).mono ?_
  rintro e w5 ⟨A5, N5, c5, he, hN5, hB⟩
  have he' : e = .returned (.tuple #[.slice A5 N5 c5, .int .i64 4]) := he.trans (by rw [aw_A]; rfl)
  subst he'
  have HFIN := Lib.hid (BK4.out.call hB.since).since
  clear he hN5 hB BK4
  go_wp2_with fail
  go_ret
  exact ⟨rfl, HFIN.out⟩
end Go.Proofs.YtdmpphioflcofaaGreat.K

/- A slice that came in lies in memory that is there, also where nothing is read of it. -/
namespace Go.Proofs.YtdmpphioflcofaaGreat.K
open Go Go.RowKit Go.WideShapes Go.ChangeShapes

set_option maxRecDepth 100000 in
theorem okWide_lay {W : World} {r : Reach} {b0 : Nat} {t e : TypeId} {A : Option Addr} {n c : Nat} (ht : Tryz.prog.underlying t = some (.slice e)) (h : Value.okWide Tryz.prog W r b0 t (.slice A n c)) : ∀ a, A = some a → a.block < W.heap.size := by
  rintro a rfl
  simp only [Value.okWide, ht, Cell.okWide, Cell.ok] at h
  obtain ⟨_, _, _, _, row, cells, hs, _⟩ := h
  unfold World.shape? at hs
  cases hg : W.heap[a.block]? with
  | none => rw [hg] at hs; cases hs
  | some o => exact (Array.getElem?_eq_some_iff.1 hg).1
set_option maxRecDepth 100000 in
/-- a word that came in -/
theorem open_u32 {H : Type} {enc : TypeId × Value → H} {W : World} {base b0 : Nat} {sp : Nat → Bool} {held : Bool} {r : Reach} {v : Value} {d : DataW H} {p : List MemPlace} (hv : Value.okWide Tryz.prog W r b0 140 v) (h : DataW.Trod enc Tryz.prog W base sp held 140 v d p) : ∃ x : BitVec 32, v = W32 x := by
  obtain ⟨n, rfl, _, _, hw⟩ := open_int Tryz.underlying140 hv h
  have h' : 0 ≤ n ∧ n < 4294967296 := by
    simp [Lit.wf, IntKind.min, IntKind.max, IntKind.bits, IntKind.signed] at hw
    omega
  refine ⟨BitVec.ofInt 32 n, ?_⟩
  simp only [W32, BitVec.toNat_ofInt, Value.int.injEq, true_and]
  omega
end Go.Proofs.YtdmpphioflcofaaGreat.K

/- barbicankit's bag as an account of a bank: lists of bytes are put into it. -/
namespace Go.Proofs.YtdmpphioflcofaaGreat.K
open Go Go.RowKit

/-- a list of slices as an account -/
def lstAcc (v : Value) (n : Nat) (t : TypeId) (xs : List Value) : Acc := ⟨v, n, t, 1, xs⟩
def PutPost (w0 : World) (L : List Acc) (i j g q : Nat) (cs : List Value) (t : TypeId) (n : Nat) (xs : List Value) (e : Ending) (w' : World) : Prop :=
  ∃ A' c', e = .returned (.tuple #[]) ∧ Bank w0 w' ((L.set j (lstAcc (.slice A' (n + 1) c') (n + 1) t xs)).set i (boxAcc g 79 (cs.set q (.slice A' (n + 1) c'))))
set_option maxHeartbeats 4000000 in
set_option maxRecDepth 100000 in
theorem putBytesB_any {w0 : World} {L : List Acc} (g i j : Nat) (cs : List Value) (A5 : Option Addr) (n5 c5 : Nat) (xs : List Value) (A : Option Addr) (n c : Nat) (w : World) (hB : Bank w0 w L) (hi : L[i]? = some (boxAcc g 79 cs)) (hj : L[j]? = some (lstAcc (.slice A5 n5 c5) n5 22 xs))
    (hij : i ≠ j) (hcs : cs.length = 21) (h5 : cs[5]? = some (.slice A5 n5 c5)) (hn : n5 ≤ 1000000) :
    Calls Tryz.prog 85 #[.pointer (some ⟨g, 0, none⟩), .slice A n c] w (PutPost w0 L i j g 5 cs 22 n5 (xs ++ [.slice A n c])) := by
  have c50 := hB.cell i hi 5 h5
  have HB := Lib.hid hB; have HI := Lib.hid hi; have HJ := Lib.hid hj
  have hlt : i < L.length := (List.getElem?_eq_some_iff.1 hi).1
  clear hB hi hj
  go_enter Tryz.func85, Tryz.ntmps85
  go_wp2_with (first
    | (at_builtin; refine wpList_append_bankG (HB.out.alloc _) rfl (.tmp 8) (.tmp 10) 63 rfl 22 (.slice none 0 0) 1 24 infoBytes Tryz.underlying63 rfl (by decide) j A5 n5 c5 xs rfl HJ.out ⟨w.heap.size, 0, none⟩ 1 1 [.slice A n c] rfl rfl (cell_last _ _ _) (by intro u hu; simp at hu; subst hu; rfl) (by unfold maxLen; omega) (by omega) ?_; intro A' n' c' w1 hn' hB1 _ _; have hi1 : (L.set j (lstAcc (.slice A' n' c') n' 22 (xs ++ [.slice A n c])))[i]? = some (boxAcc g 79 cs) := (by rw [List.getElem?_set_ne (Ne.symm hij)]; exact HI.out); have d5 := hB1.cell i hi1 5 h5; have f5 := hB1.free i hi1 5; have BK2 := Lib.hid (Bank.boxSet hB1 i hi1 5 (.slice A' n' c')); have HN := Lib.hid hn'; clear hB1 hn' hi1)
    | (with_reducible refine wpList_store_one rfl 63 (.tmp 13) (.tmp 11) rfl ⟨g, 5, none⟩ _ _ rfl rfl rfl (by kernel_rfl) d5 f5 ?_))
  go_end0
  obtain rfl := HN.out
  exact ⟨A', c', rfl, BK2.out⟩
theorem set4 {α : Type} (L : List α) (i j : Nat) (a b c d : α) (h : i ≠ j) : (((L.set j a).set i b).set j c).set i d = (L.set j c).set i d := by
  rw [List.set_comm _ _ h, List.set_set, List.set_set]
end Go.Proofs.YtdmpphioflcofaaGreat.K
