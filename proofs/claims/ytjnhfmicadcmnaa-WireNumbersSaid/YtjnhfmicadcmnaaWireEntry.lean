/- The contract of wire.Entry. -/
import Derived.Test.YtjnhfmicadcmnaaWireBytes
import Derived.Deep.RegionHeld3
namespace Go.Proofs.Ytjnhfmicadcmnaa.K
open Go Go.RowKit

theorem truth_any (b : Bool) (w : World) : Calls Try.prog 39 #[.bool b] w fun e w' => e = .returned (.int .i64 (M.flag b)) ∧ w = w' := by
  cases b
  · go_enter Try.func39, Try.ntmps39
    go_wp2
    go_ret
    exact ⟨rfl, rfl⟩
  · go_enter Try.func39, Try.ntmps39
    go_wp2
    go_ret
    exact ⟨rfl, rfl⟩
theorem conv_B8_int {P : Program} (w : World) (src dst : TypeId) (x : BitVec 8) (hs : P.underlying src = some (.int .u8)) (hd : P.underlying dst = some (.int .i64)) : (convert src dst (B8 x)).run P w = .ok (.int .i64 (x.toNat : Int)) w := by
  have hx := x.isLt
  have h : IntKind.i64.wrap (x.toNat : Int) = (x.toNat : Int) := IntWalk.i64_in _ (by omega)
  simp [convert, run_underlying hs, run_underlying hd, Conv.intToInt, B8, h]
/-- an entry as a value; its Data lies at A -/
def entV (e : M.Ent) (A : Option Addr) (n c : Nat) : Value := .agg #[.int .i64 e.term, B8 e.kind, .int .i64 e.version, .int .i64 e.server, .bool e.good, .slice A n c]
def entCells (e : M.Ent) (A : Option Addr) (n c : Nat) : Array Value := #[.int .i64 e.term, B8 e.kind, .int .i64 e.version, .int .i64 e.server, .bool e.good, .slice A n c]
abbrev sixRows (a b c d e f : Rw) (xa xb xc xd xe xf : List (BitVec 8)) : List (Rw × List (BitVec 8)) := [(a, xa), (b, xb), (c, xc), (d, xd), (e, xe), (f, xf)]
theorem six_mem {P : Rw × List (BitVec 8) → Prop} {a b c d e f : Rw} {xa xb xc xd xe xf : List (BitVec 8)} (h1 : P (a, xa)) (h2 : P (b, xb)) (h3 : P (c, xc)) (h4 : P (d, xd)) (h5 : P (e, xe)) (h6 : P (f, xf)) : ∀ p ∈ sixRows a b c d e f xa xb xc xd xe xf, P p := by
  intro p hp
  simp only [List.mem_cons, List.mem_nil_iff, or_false] at hp
  rcases hp with rfl | rfl | rfl | rfl | rfl | rfl <;> assumption

set_option maxHeartbeats 2000000 in
set_option maxRecDepth 100000 in
theorem wentry_any (t k v s g : Int) (K : BitVec 8) (G : Bool) (A : Option Addr) (n c : Nat) (bs : List (BitVec 8)) (w : World) (hr : RowRd w ⟨A, n, c⟩ bs) (hn2 : n ≤ 1000000000000) (hk : k = (K.toNat : Int)) (hg : g = M.flag G) :
    Calls Try.prog 13 #[.agg #[.int .i64 t, B8 K, .int .i64 v, .int .i64 s, .bool G, .slice A n c]] w fun e w' => ∃ g N c', e = .returned (.slice (some ⟨g, 0, none⟩) N c') ∧ N = (M.ent ⟨t, K, v, s, G, bs⟩).length ∧ w'.ownsRow w.heap.size 5 1 (.slice (some ⟨g, 0, none⟩) N c') N (bv (M.ent ⟨t, K, v, s, G, bs⟩)) ∧ Below w.heap.size w w' := by
  have hcv := fun w => conv_B8_int (P := Try.prog) w 23 3 K Try.underlying23 Try.underlying3
  rw [← hk] at hcv
  have htr : ∀ w, Calls Try.prog 39 #[.bool G] w fun e w' => e = .returned (.int .i64 g) ∧ w = w' := fun w => by rw [hg]; exact truth_any G w
  have hr0 : RowRd (w.alloc (.cells #[.int .i64 t, B8 K, .int .i64 v, .int .i64 s, .bool G, .slice A n c] 25)) ⟨A, n, c⟩ bs := hr.below ((Below.refl _ _).alloc (Nat.le_refl _) _)
  have HR := Lib.hid hr0; have HK := Lib.hid hk; have HG := Lib.hid hg; have HTR := Lib.hid htr
  have hlb : bs.length = n := hr.len
  have HLB := Lib.hid hlb
  clear hr hk hg htr hr0 hlb
  go_enter Try.func13, Try.ntmps13
  go_wp2_with fail
  have x0 : (w.alloc (.cells #[.int .i64 t, B8 K, .int .i64 v, .int .i64 s, .bool G, .slice A n c] 25)).cell? ⟨w.heap.size, 0, none⟩ = some (.int .i64 t) := by rw [World.cell?_alloc_new]; rfl
  have x1 : (w.alloc (.cells #[.int .i64 t, B8 K, .int .i64 v, .int .i64 s, .bool G, .slice A n c] 25)).cell? ⟨w.heap.size, 1, none⟩ = some (B8 K) := by rw [World.cell?_alloc_new]; rfl
  have x2 : (w.alloc (.cells #[.int .i64 t, B8 K, .int .i64 v, .int .i64 s, .bool G, .slice A n c] 25)).cell? ⟨w.heap.size, 2, none⟩ = some (.int .i64 v) := by rw [World.cell?_alloc_new]; rfl
  have x3 : (w.alloc (.cells #[.int .i64 t, B8 K, .int .i64 v, .int .i64 s, .bool G, .slice A n c] 25)).cell? ⟨w.heap.size, 3, none⟩ = some (.int .i64 s) := by rw [World.cell?_alloc_new]; rfl
  have x4 : (w.alloc (.cells #[.int .i64 t, B8 K, .int .i64 v, .int .i64 s, .bool G, .slice A n c] 25)).cell? ⟨w.heap.size, 4, none⟩ = some (.bool G) := by rw [World.cell?_alloc_new]; rfl
  have x5 : (w.alloc (.cells #[.int .i64 t, B8 K, .int .i64 v, .int .i64 s, .bool G, .slice A n c] 25)).cell? ⟨w.heap.size, 5, none⟩ = some (.slice A n c) := by rw [World.cell?_alloc_new]; rfl
  have hb0 : Below w.heap.size w (w.alloc (.cells #[.int .i64 t, B8 K, .int .i64 v, .int .i64 s, .bool G, .slice A n c] 25)) := (Below.refl _ _).alloc (Nat.le_refl _) _
  have hs0 : (w.alloc (.cells #[.int .i64 t, B8 K, .int .i64 v, .int .i64 s, .bool G, .slice A n c] 25)).heap.size = w.heap.size + 1 := by simp
  have HB0 := Lib.hid hb0
  clear hb0
  generalize w.alloc (.cells #[.int .i64 t, B8 K, .int .i64 v, .int .i64 s, .bool G, .slice A n c] 25) = w0 at *
  have hs0' : w.heap.size < w0.heap.size := by omega
  clear hs0
  go_region_held3 (fun w' => w'.cell? ⟨w.heap.size, 0, none⟩ = some (.int .i64 t) ∧ w'.cell? ⟨w.heap.size, 1, none⟩ = some (B8 K) ∧ w'.cell? ⟨w.heap.size, 2, none⟩ = some (.int .i64 v) ∧ w'.cell? ⟨w.heap.size, 3, none⟩ = some (.int .i64 s) ∧ w'.cell? ⟨w.heap.size, 4, none⟩ = some (.bool G) ∧ w'.cell? ⟨w.heap.size, 5, none⟩ = some (.slice A n c))
    (first
      | (go_split_ands; refine ⟨?_, ?_, ?_, ?_, ?_, ?_⟩ <;> assumption)
      | (go_split_ands; refine ⟨?_, ?_, ?_, ?_, ?_, ?_⟩ <;> (rw [hb7.cell (by simp; omega)]; assumption))
      | (go_split_ands; refine ⟨?_, ?_, ?_, ?_, ?_, ?_⟩ <;> (rw [hb6.cell (by show w.heap.size < _; omega)]; assumption))
      | (go_split_ands; refine ⟨?_, ?_, ?_, ?_, ?_, ?_⟩ <;> (rw [hb5.cell (by show w.heap.size < _; omega)]; assumption))
      | (go_split_ands; refine ⟨?_, ?_, ?_, ?_, ?_, ?_⟩ <;> (rw [hb4.cell (by show w.heap.size < _; omega)]; assumption))
      | (go_split_ands; refine ⟨?_, ?_, ?_, ?_, ?_, ?_⟩ <;> (rw [hb3.cell (by show w.heap.size < _; omega)]; assumption))
      | (go_split_ands; refine ⟨?_, ?_, ?_, ?_, ?_, ?_⟩ <;> (rw [hb2.cell (by show w.heap.size < _; omega)]; assumption))
      | (go_split_ands; refine ⟨?_, ?_, ?_, ?_, ?_, ?_⟩ <;> (rw [hb1.cell (by show w.heap.size < _; omega)]; assumption))
      | go_keep)
    (first
      | (go_at_call 11; ((with_reducible refine (wnum_any t _).mono ?_); rintro e w1 ⟨g1, rfl, ho1, hb1'⟩; have hb1 := below_of_drew hb1'; have hs1 := hb1.size; clear hb1'))
      | (go_at_call 11; ((with_reducible refine (wnum_any k _).mono ?_); rintro e w2 ⟨g2, rfl, ho2, hb2⟩; have hs2 := hb2.size))
      | (go_at_call 11; ((with_reducible refine (wnum_any v _).mono ?_); rintro e w3 ⟨g3, rfl, ho3, hb3⟩; have hs3 := hb3.size))
      | (go_at_call 11; ((with_reducible refine (wnum_any s _).mono ?_); rintro e w4 ⟨g4, rfl, ho4, hb4⟩; have hs4 := hb4.size))
      | (go_at_call 39; ((with_reducible refine (HTR.out _).mono ?_); rintro e wt ⟨rfl, rfl⟩))
      | (go_at_call 11; ((with_reducible refine (wnum_any g _).mono ?_); rintro e w5 ⟨g5, rfl, ho5, hb5⟩; have hs5 := hb5.size))
      | (go_at_call 12; ((with_reducible refine (wbytes_any A n c bs _ ?_ ?_).mono ?_); (exact ((((HR.out.below hb1).below hb2).below hb3).below hb4).below hb5); (omega); rintro e w6 ⟨g6, N6, c6, rfl, hN6, ho6, hb6⟩; have hs6 := hb6.size; have HN6 := Lib.hid hN6; clear hN6))
      | (go_at_call 17; ((with_reducible refine (join_any (some ⟨w6.heap.size, 0, none⟩) 6 6 (rowsOf (sixRows ⟨some ⟨g1, 0, none⟩, 8, 8⟩ ⟨some ⟨g2, 0, none⟩, 8, 8⟩ ⟨some ⟨g3, 0, none⟩, 8, 8⟩ ⟨some ⟨g4, 0, none⟩, 8, 8⟩ ⟨some ⟨g5, 0, none⟩, 8, 8⟩ ⟨some ⟨g6, 0, none⟩, N6, c6⟩ (M.num t) (M.num k) (M.num v) (M.num s) (M.num g) (M.blob bs))) (bytesAt (sixRows ⟨some ⟨g1, 0, none⟩, 8, 8⟩ ⟨some ⟨g2, 0, none⟩, 8, 8⟩ ⟨some ⟨g3, 0, none⟩, 8, 8⟩ ⟨some ⟨g4, 0, none⟩, 8, 8⟩ ⟨some ⟨g5, 0, none⟩, 8, 8⟩ ⟨some ⟨g6, 0, none⟩, N6, c6⟩ (M.num t) (M.num k) (M.num v) (M.num s) (M.num g) (M.blob bs))) _ ?_ ?_ ?_).mono ?_); (refine parts_of (sixRows ⟨some ⟨g1, 0, none⟩, 8, 8⟩ ⟨some ⟨g2, 0, none⟩, 8, 8⟩ ⟨some ⟨g3, 0, none⟩, 8, 8⟩ ⟨some ⟨g4, 0, none⟩, 8, 8⟩ ⟨some ⟨g5, 0, none⟩, 8, 8⟩ ⟨some ⟨g6, 0, none⟩, N6, c6⟩ (M.num t) (M.num k) (M.num v) (M.num s) (M.num g) (M.blob bs)) rfl (six_mem ?_ ?_ ?_ ?_ ?_ ?_); (exact ((((((RowRd.of_row ho1).below hb2).below hb3).below hb4).below hb5).below hb6)); (exact (((((RowRd.of_row ho2).below hb3).below hb4).below hb5).below hb6)); (exact ((((RowRd.of_row ho3).below hb4).below hb5).below hb6)); (exact (((RowRd.of_row ho4).below hb5).below hb6)); (exact ((RowRd.of_row ho5).below hb6)); (exact (RowRd.of_row ho6))); (omega); (rw [show (6 : Nat) = (sixRows ⟨some ⟨g1, 0, none⟩, 8, 8⟩ ⟨some ⟨g2, 0, none⟩, 8, 8⟩ ⟨some ⟨g3, 0, none⟩, 8, 8⟩ ⟨some ⟨g4, 0, none⟩, 8, 8⟩ ⟨some ⟨g5, 0, none⟩, 8, 8⟩ ⟨some ⟨g6, 0, none⟩, N6, c6⟩ (M.num t) (M.num k) (M.num v) (M.num s) (M.num g) (M.blob bs)).length from rfl, joined_all]; have := HN6.out; simp [M.num_length, M.blob_length]; have := HLB.out; omega); rintro e w7 ⟨A7, N7, c7, rfl, hN7, ho7, hb7⟩; have HN7 := Lib.hid hN7; clear hN7)))
  have hT : (List.map (·.2) (sixRows ⟨some ⟨g1, 0, none⟩, 8, 8⟩ ⟨some ⟨g2, 0, none⟩, 8, 8⟩ ⟨some ⟨g3, 0, none⟩, 8, 8⟩ ⟨some ⟨g4, 0, none⟩, 8, 8⟩ ⟨some ⟨g5, 0, none⟩, 8, 8⟩ ⟨some ⟨g6, 0, none⟩, N6, c6⟩ (M.num t) (M.num k) (M.num v) (M.num s) (M.num g) (M.blob bs))).flatten = M.ent ⟨t, K, v, s, G, bs⟩ := by
    rw [HK.out, HG.out]; simp [M.ent]
  have hN7 := HN7.out
  rw [show (6 : Nat) = (sixRows ⟨some ⟨g1, 0, none⟩, 8, 8⟩ ⟨some ⟨g2, 0, none⟩, 8, 8⟩ ⟨some ⟨g3, 0, none⟩, 8, 8⟩ ⟨some ⟨g4, 0, none⟩, 8, 8⟩ ⟨some ⟨g5, 0, none⟩, 8, 8⟩ ⟨some ⟨g6, 0, none⟩, N6, c6⟩ (M.num t) (M.num k) (M.num v) (M.num s) (M.num g) (M.blob bs)).length from rfl, joined_all, hT] at hN7 ho7
  have hlb := HLB.out
  have hN7' : 48 ≤ N7 := by rw [hN7]; simp [M.ent, M.num_length, M.blob_length]; omega
  obtain ⟨g7, c8, e, _, _⟩ := ho7.form (by omega)
  simp only [Value.slice.injEq, true_and] at e
  obtain ⟨rfl, rfl⟩ := e
  have h06 := ((((((hb1.trans (hb2.mono hb1.size)).trans (hb3.mono (by omega))).trans (hb4.mono (by omega))).trans (hb5.mono (by omega))).trans (hb6.mono (by omega)))).mono (Nat.le_of_lt hs0')
  have hw6 : w.heap.size ≤ w6.heap.size := by omega
  have ho8 := row_weaken ho7 (base' := w.heap.size) (by simp; omega)
  have h8 := HB0.out.trans ((h06.alloc hw6 (.cells ((sixRows ⟨some ⟨g1, 0, none⟩, 8, 8⟩ ⟨some ⟨g2, 0, none⟩, 8, 8⟩ ⟨some ⟨g3, 0, none⟩, 8, 8⟩ ⟨some ⟨g4, 0, none⟩, 8, 8⟩ ⟨some ⟨g5, 0, none⟩, 8, 8⟩ ⟨some ⟨g6, 0, none⟩, N6, c6⟩ (M.num t) (M.num k) (M.num v) (M.num s) (M.num g) (M.blob bs)).map fun p => p.1.v).toArray 22)).trans (hb7.mono (by simp; omega)))
  have HO8 := Lib.hid ho8; have H8 := Lib.hid h8; have HN8 := Lib.hid hN7
  clear ho1 ho2 ho3 ho4 ho5 ho6 ho7 hb1 hb2 hb3 hb4 hb5 hb6 hb7 h06 ho8 h8 hN7 hT x0 x1 x2 x3 x4 x5
  go_wp2
  go_ret
  exact ⟨g7, N7, c7, rfl, HN8.out, HO8.out, H8.out⟩
end Go.Proofs.Ytjnhfmicadcmnaa.K
