/- Merged: WireEntry, StoMath, StoMath2, HeldL, Side, MapOne, Lay, StoSmall. -/
import Derived.Test.YtfpjmeknjhhakaaSq7
import Derived.Deep.RegionHeld3
import Derived.OrdersHeld
import Derived.Deep.RegionHeld
import Derived.Maps.Own
import Derived.StringKeys
import Derived.Maps.RangeRun
import Derived.Laws.IdiomRangeMap
set_option linter.unusedVariables false
/- The contract of wire.Entry. -/
namespace Go.Proofs.Ytfpjmeknjhhakaa.K
open Go Go.RowKit

theorem truth_any (b : Bool) (w : World) : Calls Try.prog 120 #[.bool b] w fun e w' => e = .returned (.int .i64 (M.flag b)) ∧ w = w' := by
  cases b
  · go_enter Try.func120, Try.ntmps120
    go_wp2
    go_ret
    exact ⟨rfl, rfl⟩
  · go_enter Try.func120, Try.ntmps120
    go_wp2
    go_ret
    exact ⟨rfl, rfl⟩
theorem conv_B8_int {P : Program} (w : World) (src dst : TypeId) (x : BitVec 8) (hs : P.underlying src = some (.int .u8)) (hd : P.underlying dst = some (.int .i64)) : (convert src dst (B8 x)).run P w = .ok (.int .i64 (x.toNat : Int)) w := by
  have hx := x.isLt
  have h : IntKind.i64.wrap (x.toNat : Int) = (x.toNat : Int) := IntWalk.i64_in _ (by omega)
  simp [convert, run_underlying hs, run_underlying hd, Conv.intToInt, B8, h]
/-- an entry as a value; its Data lies at A -/
def entV (e : M.Ent) (A : Option Addr) (n c : Nat) : Value := .agg #[.int .i64 e.term, B8 e.kind, .int .i64 e.version, .int .i64 e.server, .bool e.good, .slice A n c]
def entCells (e : M.Ent) (A : Option Addr) (n c : Nat) : Array Value := #[.int .i64 e.term, B8 e.kind, .int .i64 e.version, .int .i64 e.server, .bool e.good, .slice A n c]
abbrev sixRows (a b c d e f : Rw) (xa xb xc xd xe xf : List (BitVec 8)) : List (Rw × List (BitVec 8)) := [(a, xa), (b, xb), (c, xc), (d, xd), (e, xe), (f, xf)]
theorem six_mem {P : Rw × List (BitVec 8) → Prop} {a b c d e f : Rw} {xa xb xc xd xe xf : List (BitVec 8)} (h1 : P (a, xa)) (h2 : P (b, xb)) (h3 : P (c, xc)) (h4 : P (d, xd)) (h5 : P (e, xe)) (h6 : P (f, xf)) : ∀ p ∈ sixRows a b c d e f xa xb xc xd xe xf, P p := by
  intro p hp
  simp only [List.mem_cons, List.mem_nil_iff, or_false] at hp
  rcases hp with rfl | rfl | rfl | rfl | rfl | rfl <;> assumption

set_option maxHeartbeats 2000000 in
set_option maxRecDepth 100000 in
theorem wentry_any (t k v s g : Int) (K : BitVec 8) (G : Bool) (A : Option Addr) (n c : Nat) (bs : List (BitVec 8)) (w : World) (hr : RowRd w ⟨A, n, c⟩ bs) (hn2 : n ≤ 1000000000000) (hk : k = (K.toNat : Int)) (hg : g = M.flag G) :
    Calls Try.prog 71 #[.agg #[.int .i64 t, B8 K, .int .i64 v, .int .i64 s, .bool G, .slice A n c]] w fun e w' => ∃ g N c', e = .returned (.slice (some ⟨g, 0, none⟩) N c') ∧ N = (M.ent ⟨t, K, v, s, G, bs⟩).length ∧ w'.ownsRow w.heap.size 5 1 (.slice (some ⟨g, 0, none⟩) N c') N (bv (M.ent ⟨t, K, v, s, G, bs⟩)) ∧ Below w.heap.size w w' := by
  have hcv := fun w => conv_B8_int (P := Try.prog) w 79 3 K Try.underlying79 Try.underlying3
  rw [← hk] at hcv
  have htr : ∀ w, Calls Try.prog 120 #[.bool G] w fun e w' => e = .returned (.int .i64 g) ∧ w = w' := fun w => by rw [hg]; exact truth_any G w
  have hr0 : RowRd (w.alloc (.cells #[.int .i64 t, B8 K, .int .i64 v, .int .i64 s, .bool G, .slice A n c] 81)) ⟨A, n, c⟩ bs := hr.below ((Below.refl _ _).alloc (Nat.le_refl _) _)
  have HR := Lib.hid hr0; have HK := Lib.hid hk; have HG := Lib.hid hg; have HTR := Lib.hid htr
  have hlb : bs.length = n := hr.len
  have HLB := Lib.hid hlb
  clear hr hk hg htr hr0 hlb
  go_enter Try.func71, Try.ntmps71
  go_wp2_with fail
  have x0 : (w.alloc (.cells #[.int .i64 t, B8 K, .int .i64 v, .int .i64 s, .bool G, .slice A n c] 81)).cell? ⟨w.heap.size, 0, none⟩ = some (.int .i64 t) := by rw [World.cell?_alloc_new]; rfl
  have x1 : (w.alloc (.cells #[.int .i64 t, B8 K, .int .i64 v, .int .i64 s, .bool G, .slice A n c] 81)).cell? ⟨w.heap.size, 1, none⟩ = some (B8 K) := by rw [World.cell?_alloc_new]; rfl
  have x2 : (w.alloc (.cells #[.int .i64 t, B8 K, .int .i64 v, .int .i64 s, .bool G, .slice A n c] 81)).cell? ⟨w.heap.size, 2, none⟩ = some (.int .i64 v) := by rw [World.cell?_alloc_new]; rfl
  have x3 : (w.alloc (.cells #[.int .i64 t, B8 K, .int .i64 v, .int .i64 s, .bool G, .slice A n c] 81)).cell? ⟨w.heap.size, 3, none⟩ = some (.int .i64 s) := by rw [World.cell?_alloc_new]; rfl
  have x4 : (w.alloc (.cells #[.int .i64 t, B8 K, .int .i64 v, .int .i64 s, .bool G, .slice A n c] 81)).cell? ⟨w.heap.size, 4, none⟩ = some (.bool G) := by rw [World.cell?_alloc_new]; rfl
  have x5 : (w.alloc (.cells #[.int .i64 t, B8 K, .int .i64 v, .int .i64 s, .bool G, .slice A n c] 81)).cell? ⟨w.heap.size, 5, none⟩ = some (.slice A n c) := by rw [World.cell?_alloc_new]; rfl
  have hb0 : Below w.heap.size w (w.alloc (.cells #[.int .i64 t, B8 K, .int .i64 v, .int .i64 s, .bool G, .slice A n c] 81)) := (Below.refl _ _).alloc (Nat.le_refl _) _
  have hs0 : (w.alloc (.cells #[.int .i64 t, B8 K, .int .i64 v, .int .i64 s, .bool G, .slice A n c] 81)).heap.size = w.heap.size + 1 := by simp
  have HB0 := Lib.hid hb0
  clear hb0
  generalize w.alloc (.cells #[.int .i64 t, B8 K, .int .i64 v, .int .i64 s, .bool G, .slice A n c] 81) = w0 at *
  have hs0' : w.heap.size < w0.heap.size := by omega
  clear hs0
  go_region_held3 (fun w' => w'.cell? ⟨w.heap.size, 0, none⟩ = some (.int .i64 t) ∧ w'.cell? ⟨w.heap.size, 1, none⟩ = some (B8 K) ∧ w'.cell? ⟨w.heap.size, 2, none⟩ = some (.int .i64 v) ∧ w'.cell? ⟨w.heap.size, 3, none⟩ = some (.int .i64 s) ∧ w'.cell? ⟨w.heap.size, 4, none⟩ = some (.bool G) ∧ w'.cell? ⟨w.heap.size, 5, none⟩ = some (.slice A n c))
    (first
      | (go_split_ands; refine ⟨?_, ?_, ?_, ?_, ?_, ?_⟩ <;> assumption)
      | (go_split_ands; refine ⟨?_, ?_, ?_, ?_, ?_, ?_⟩ <;> (rw [hb7.cell (by simp; omega)]; assumption))
      | (go_split_ands; refine ⟨?_, ?_, ?_, ?_, ?_, ?_⟩ <;> (rw [hb6.cell (by show w.heap.size < _; omega)]; assumption))
      | (go_split_ands; refine ⟨?_, ?_, ?_, ?_, ?_, ?_⟩ <;> (rw [hb5.cell (by show w.heap.size < _; omega)]; assumption))
      | (go_split_ands; refine ⟨?_, ?_, ?_, ?_, ?_, ?_⟩ <;> (rw [hb4.cell (by show w.heap.size < _; omega)]; assumption))
      | (go_split_ands; refine ⟨?_, ?_, ?_, ?_, ?_, ?_⟩ <;> (rw [hb3.cell (by show w.heap.size < _; omega)]; assumption))
      | (go_split_ands; refine ⟨?_, ?_, ?_, ?_, ?_, ?_⟩ <;> (rw [hb2.cell (by show w.heap.size < _; omega)]; assumption))
      | (go_split_ands; refine ⟨?_, ?_, ?_, ?_, ?_, ?_⟩ <;> (rw [hb1.cell (by show w.heap.size < _; omega)]; assumption))
      | go_keep)
    (first
      | (go_at_call 70; ((with_reducible refine (wnum_any t _).mono ?_); rintro e w1 ⟨g1, rfl, ho1, hb1'⟩; have hb1 := below_of_drew hb1'; have hs1 := hb1.size; clear hb1'))
      | (go_at_call 70; ((with_reducible refine (wnum_any k _).mono ?_); rintro e w2 ⟨g2, rfl, ho2, hb2⟩; have hs2 := hb2.size))
      | (go_at_call 70; ((with_reducible refine (wnum_any v _).mono ?_); rintro e w3 ⟨g3, rfl, ho3, hb3⟩; have hs3 := hb3.size))
      | (go_at_call 70; ((with_reducible refine (wnum_any s _).mono ?_); rintro e w4 ⟨g4, rfl, ho4, hb4⟩; have hs4 := hb4.size))
      | (go_at_call 120; ((with_reducible refine (HTR.out _).mono ?_); rintro e wt ⟨rfl, rfl⟩))
      | (go_at_call 70; ((with_reducible refine (wnum_any g _).mono ?_); rintro e w5 ⟨g5, rfl, ho5, hb5⟩; have hs5 := hb5.size))
      | (go_at_call 121; ((with_reducible refine (wbytes_any A n c bs _ ?_ ?_).mono ?_); (exact ((((HR.out.below hb1).below hb2).below hb3).below hb4).below hb5); (omega); rintro e w6 ⟨g6, N6, c6, rfl, hN6, ho6, hb6⟩; have hs6 := hb6.size; have HN6 := Lib.hid hN6; clear hN6))
      | (go_at_call 69; ((with_reducible refine (join_any (some ⟨w6.heap.size, 0, none⟩) 6 6 (rowsOf (sixRows ⟨some ⟨g1, 0, none⟩, 8, 8⟩ ⟨some ⟨g2, 0, none⟩, 8, 8⟩ ⟨some ⟨g3, 0, none⟩, 8, 8⟩ ⟨some ⟨g4, 0, none⟩, 8, 8⟩ ⟨some ⟨g5, 0, none⟩, 8, 8⟩ ⟨some ⟨g6, 0, none⟩, N6, c6⟩ (M.num t) (M.num k) (M.num v) (M.num s) (M.num g) (M.blob bs))) (bytesAt (sixRows ⟨some ⟨g1, 0, none⟩, 8, 8⟩ ⟨some ⟨g2, 0, none⟩, 8, 8⟩ ⟨some ⟨g3, 0, none⟩, 8, 8⟩ ⟨some ⟨g4, 0, none⟩, 8, 8⟩ ⟨some ⟨g5, 0, none⟩, 8, 8⟩ ⟨some ⟨g6, 0, none⟩, N6, c6⟩ (M.num t) (M.num k) (M.num v) (M.num s) (M.num g) (M.blob bs))) _ ?_ ?_ ?_).mono ?_); (refine parts_of (sixRows ⟨some ⟨g1, 0, none⟩, 8, 8⟩ ⟨some ⟨g2, 0, none⟩, 8, 8⟩ ⟨some ⟨g3, 0, none⟩, 8, 8⟩ ⟨some ⟨g4, 0, none⟩, 8, 8⟩ ⟨some ⟨g5, 0, none⟩, 8, 8⟩ ⟨some ⟨g6, 0, none⟩, N6, c6⟩ (M.num t) (M.num k) (M.num v) (M.num s) (M.num g) (M.blob bs)) rfl (six_mem ?_ ?_ ?_ ?_ ?_ ?_); (exact ((((((RowRd.of_row ho1).below hb2).below hb3).below hb4).below hb5).below hb6)); (exact (((((RowRd.of_row ho2).below hb3).below hb4).below hb5).below hb6)); (exact ((((RowRd.of_row ho3).below hb4).below hb5).below hb6)); (exact (((RowRd.of_row ho4).below hb5).below hb6)); (exact ((RowRd.of_row ho5).below hb6)); (exact (RowRd.of_row ho6))); (omega); (rw [show (6 : Nat) = (sixRows ⟨some ⟨g1, 0, none⟩, 8, 8⟩ ⟨some ⟨g2, 0, none⟩, 8, 8⟩ ⟨some ⟨g3, 0, none⟩, 8, 8⟩ ⟨some ⟨g4, 0, none⟩, 8, 8⟩ ⟨some ⟨g5, 0, none⟩, 8, 8⟩ ⟨some ⟨g6, 0, none⟩, N6, c6⟩ (M.num t) (M.num k) (M.num v) (M.num s) (M.num g) (M.blob bs)).length from rfl, joined_all]; have := HN6.out; simp [M.num_length, M.blob_length]; have := HLB.out; omega); rintro e w7 ⟨A7, N7, c7, rfl, hN7, ho7, hb7⟩; have HN7 := Lib.hid hN7; clear hN7)))
  have hT : (List.map (·.2) (sixRows ⟨some ⟨g1, 0, none⟩, 8, 8⟩ ⟨some ⟨g2, 0, none⟩, 8, 8⟩ ⟨some ⟨g3, 0, none⟩, 8, 8⟩ ⟨some ⟨g4, 0, none⟩, 8, 8⟩ ⟨some ⟨g5, 0, none⟩, 8, 8⟩ ⟨some ⟨g6, 0, none⟩, N6, c6⟩ (M.num t) (M.num k) (M.num v) (M.num s) (M.num g) (M.blob bs))).flatten = M.ent ⟨t, K, v, s, G, bs⟩ := by
    rw [HK.out, HG.out]; simp [M.ent]
  have hN7 := HN7.out
  rw [show (6 : Nat) = (sixRows ⟨some ⟨g1, 0, none⟩, 8, 8⟩ ⟨some ⟨g2, 0, none⟩, 8, 8⟩ ⟨some ⟨g3, 0, none⟩, 8, 8⟩ ⟨some ⟨g4, 0, none⟩, 8, 8⟩ ⟨some ⟨g5, 0, none⟩, 8, 8⟩ ⟨some ⟨g6, 0, none⟩, N6, c6⟩ (M.num t) (M.num k) (M.num v) (M.num s) (M.num g) (M.blob bs)).length from rfl, joined_all, hT] at hN7 ho7
  have hlb := HLB.out
  have hN7' : 48 ≤ N7 := by rw [hN7]; simp [M.ent, M.num_length, M.blob_length]; omega
  obtain ⟨g7, c8, e, _, _⟩ := ho7.form (by omega)
  simp only [Value.slice.injEq, true_and] at e
  obtain ⟨rfl, rfl⟩ := e
  have h06 := ((((((hb1.trans (hb2.mono hb1.size)).trans (hb3.mono (by omega))).trans (hb4.mono (by omega))).trans (hb5.mono (by omega))).trans (hb6.mono (by omega)))).mono (Nat.le_of_lt hs0')
  have hw6 : w.heap.size ≤ w6.heap.size := by omega
  have ho8 := row_weaken ho7 (base' := w.heap.size) (by simp; omega)
  have h8 := HB0.out.trans ((h06.alloc hw6 (.cells ((sixRows ⟨some ⟨g1, 0, none⟩, 8, 8⟩ ⟨some ⟨g2, 0, none⟩, 8, 8⟩ ⟨some ⟨g3, 0, none⟩, 8, 8⟩ ⟨some ⟨g4, 0, none⟩, 8, 8⟩ ⟨some ⟨g5, 0, none⟩, 8, 8⟩ ⟨some ⟨g6, 0, none⟩, N6, c6⟩ (M.num t) (M.num k) (M.num v) (M.num s) (M.num g) (M.blob bs)).map fun p => p.1.v).toArray 27)).trans (hb7.mono (by simp; omega)))
  have HO8 := Lib.hid ho8; have H8 := Lib.hid h8; have HN8 := Lib.hid hN7
  clear ho1 ho2 ho3 ho4 ho5 ho6 ho7 hb1 hb2 hb3 hb4 hb5 hb6 hb7 h06 ho8 h8 hN7 hT x0 x1 x2 x3 x4 x5
  go_wp2
  go_ret
  exact ⟨g7, N7, c7, rfl, HN8.out, HO8.out, H8.out⟩
end Go.Proofs.Ytfpjmeknjhhakaa.K

/- A store as plain Lean functions, and what is known of it. No program in sight. -/
namespace Go.Proofs.Ytfpjmeknjhhakaa.S
open Go.Proofs.Ytfpjmeknjhhakaa

abbrev B := BitVec 8
structure Cl where
  term : Int
  vote : Int
  applied : Int
  active : Int
deriving DecidableEq
def zeroCl : Cl := ⟨0, 0, 0, 0⟩
structure St where
  c : Cl
  l : List M.Ent
def zero : St := ⟨zeroCl, []⟩
def wi (n m : Int) : Bool := decide (0 ≤ n) && decide (n ≤ m)
def may (c : Cl) : Bool := wi c.term 1099511627776 && wi c.vote 7 && wi c.applied 1073741824 && wi c.active 1073741824
theorem may_in {c : Cl} (h : may c = true) : M.inI64 c.term ∧ M.inI64 c.vote ∧ M.inI64 c.applied ∧ M.inI64 c.active := by
  simp only [may, wi, Bool.and_eq_true, decide_eq_true_eq] at h
  unfold M.inI64
  omega
def cdata (c : Cl) : List B := M.num c.term ++ M.num c.vote ++ M.num c.applied ++ M.num c.active
theorem cdata_length (c : Cl) : (cdata c).length = 32 := by simp [cdata, M.num_length]
def kept (c : Cl) : F.Fr := ⟨1, cdata c⟩
def edata (i : Int) (e : M.Ent) : List B := M.num i ++ M.ent e
theorem edata_length (i : Int) (e : M.Ent) : (edata i e).length = 56 + e.data.length := by simp [edata, M.num_length, M.ent_length]; omega
def put (i : Int) (e : M.Ent) : F.Fr := ⟨2, edata i e⟩
/-- four numbers -/
def rd4 (s : M.Rdr) : Cl × M.Rdr :=
  let a := M.rdNumber s; let b := M.rdNumber a.2; let c := M.rdNumber b.2; let d := M.rdNumber c.2
  (⟨a.1, b.1, c.1, d.1⟩, d.2)
def sset (s : St) (d : List B) : Option St := if (rd4 (some d)).2 = some [] ∧ may (rd4 (some d)).1 = true then some ⟨(rd4 (some d)).1, s.l⟩ else none
/-- an index and an entry -/
def rdIE (s : M.Rdr) : Int × M.Ent × M.Rdr := ((M.rdNumber s).1, M.rdEntry (M.rdNumber s).2)
def sstand (s : St) (d : List B) : Option St :=
  if (rdIE (some d)).2.2 = some [] ∧ 1 ≤ (rdIE (some d)).1 ∧ (rdIE (some d)).1 ≤ s.l.length + 1 then some ⟨s.c, s.l.take ((rdIE (some d)).1 - 1).toNat ++ [(rdIE (some d)).2.1]⟩ else none
/-- a frame is done -/
def sdo (s : St) (f : F.Fr) : Option St := if f.kind = 1 then sset s f.data else if f.kind = 2 then sstand s f.data else none
def sdos (s : St) : List F.Fr → Option St
  | [] => some s
  | f :: l => (sdo s f).bind fun s' => sdos s' l
theorem sdos_append (s : St) (a b : List F.Fr) : sdos s (a ++ b) = (sdos s a).bind fun s' => sdos s' b := by
  induction a generalizing s with
  | nil => rfl
  | cons f a ih =>
    simp only [List.cons_append, sdos]
    cases sdo s f with
    | none => rfl
    | some s' => simp only [Option.bind_some]; exact ih s'
theorem rd4_cdata (c : Cl) (h : may c = true) : rd4 (some (cdata c)) = (c, some []) := by
  obtain ⟨h1, h2, h3, h4⟩ := may_in h
  have e1 : cdata c = M.num c.term ++ (M.num c.vote ++ (M.num c.applied ++ (M.num c.active ++ []))) := by simp [cdata]
  simp only [rd4, e1, M.rdNumber_num _ _ h1, M.rdNumber_num _ _ h2, M.rdNumber_num _ _ h3, M.rdNumber_num _ _ h4]
theorem sdo_kept (s : St) (c : Cl) (h : may c = true) : sdo s (kept c) = some ⟨c, s.l⟩ := by
  simp [sdo, kept, sset, rd4_cdata c h, h]
theorem rdIE_edata (i : Int) (e : M.Ent) (hi : M.inI64 i) (he : e.Ok) : rdIE (some (edata i e)) = (i, e, some []) := by
  have e1 : edata i e = M.num i ++ (M.ent e ++ []) := by simp [edata]
  simp only [rdIE, e1, M.rdNumber_num _ _ hi, M.rdEntry_ent _ _ he]
theorem sdo_put (s : St) (i : Int) (e : M.Ent) (he : e.Ok) (h1 : 1 ≤ i) (h2 : i ≤ s.l.length + 1) (hi : M.inI64 i) : sdo s (put i e) = some ⟨s.c, s.l.take (i - 1).toNat ++ [e]⟩ := by
  simp [sdo, put, sstand, rdIE_edata i e hi he, h1, h2]
/-- entries from an index on -/
def puts (i : Int) : List M.Ent → List F.Fr
  | [] => []
  | e :: l => put i e :: puts (i + 1) l
theorem puts_length (i : Int) (l : List M.Ent) : (puts i l).length = l.length := by
  induction l generalizing i with
  | nil => rfl
  | cons e l ih => simp [puts, ih]
theorem puts_append (i : Int) (a b : List M.Ent) : puts i (a ++ b) = puts i a ++ puts (i + a.length) b := by
  induction a generalizing i with
  | nil => simp [puts]
  | cons e a ih =>
    simp only [List.cons_append, puts, ih, List.length_cons]
    rw [show i + 1 + (a.length : Int) = i + ((a.length + 1 : Nat) : Int) by omega]
theorem sdos_puts (l : List M.Ent) (hl : ∀ e ∈ l, e.Ok) : ∀ (s : St) (i : Nat), 1 ≤ i → i ≤ s.l.length + 1 → i + l.length ≤ 1000000000000 → sdos s (puts i l) = some ⟨s.c, if l = [] then s.l else s.l.take (i - 1) ++ l⟩ := by
  induction l with
  | nil => intro s i _ _ _; simp [puts, sdos]
  | cons e l ih =>
    intro s i h1 h2 h3
    have h4 : i + 1 + l.length ≤ 1000000000000 := by rw [List.length_cons] at h3; omega
    have h5 := sdo_put s i e (hl e (List.mem_cons_self ..)) (by omega) (by omega) ⟨by omega, by omega⟩
    rw [show ((i : Int) - 1).toNat = i - 1 by omega] at h5
    simp only [puts, sdos, h5, Option.bind_some]
    have hlen : (s.l.take (i - 1) ++ [e]).length = i := by simp; omega
    have h6 := ih (fun e he => hl e (List.mem_cons_of_mem _ he)) ⟨s.c, s.l.take (i - 1) ++ [e]⟩ (i + 1) (by omega) (by show i + 1 ≤ _ + 1; rw [hlen]; exact Nat.le_refl _) h4
    rw [show ((i : Int) + 1) = ((i + 1 : Nat) : Int) by omega, h6]
    simp only [List.cons_ne_nil, if_false, Option.some.injEq, St.mk.injEq, true_and]
    split
    · rename_i h; rw [h]
    · rw [show i + 1 - 1 = i by omega, List.take_of_length_le (by omega), List.append_assoc]; rfl
theorem kept_err (c : Cl) : F.errOf (kept c) = 0 := (F.errOf_ok _).2 ⟨by simp [kept], by simp [kept], by simp [kept, cdata_length]⟩
theorem put_err (i : Int) (e : M.Ent) (h : e.data.length ≤ 200000) : F.errOf (put i e) = 0 := (F.errOf_ok _).2 ⟨by simp [put], by simp [put], by simp only [put, edata_length]; omega⟩
theorem puts_err (i : Int) (l : List M.Ent) (h : ∀ e ∈ l, e.data.length ≤ 200000) : F.perr (puts i l) = 0 := by
  rw [F.perr_zero]
  induction l generalizing i with
  | nil => intro f hf; cases hf
  | cons e l ih =>
    intro f hf
    rcases List.mem_cons.1 hf with rfl | hf
    · exact put_err i e (h e (List.mem_cons_self ..))
    · exact ih (i + 1) (fun e he => h e (List.mem_cons_of_mem _ he)) f hf
/-- what a file's bytes make: the store, how many are whole frames; or nothing: it is spoilt -/
def sread (b : List B) : Option (St × Nat) := if (F.scan b).2.2 = true then none else (sdos zero (F.scan b).1).map fun s => (s, (F.scan b).2.1)
theorem sread_put (fs : List F.Fr) (s : St) (h : F.perr fs = 0) (hs : sdos zero fs = some s) : sread (F.pbytes fs) = some (s, (F.pbytes fs).length) := by
  have h1 := F.scan_put fs h []
  rw [List.append_nil, F.scan_nil] at h1
  simp [sread, h1, hs]
theorem sdos_take {s s' : St} {fs : List F.Fr} (h : sdos s fs = some s') (k : Nat) : ∃ t, sdos s (fs.take k) = some t := by
  have h2 := sdos_append s (fs.take k) (fs.drop k)
  rw [List.take_append_drop, h] at h2
  cases hx : sdos s (fs.take k) with
  | none => rw [hx] at h2; cases h2
  | some t => exact ⟨t, rfl⟩
end Go.Proofs.Ytfpjmeknjhhakaa.S

/- A file's bytes cut by a crash, or with a byte turned. No program in sight. -/
namespace Go.Proofs.Ytfpjmeknjhhakaa.S
open Go.Proofs.Ytfpjmeknjhhakaa

theorem fsum_bits (p l l' : List B) (hl : l.length = l'.length) (h : ∀ i, i < 8 * l.length → F.bitAt l i = F.bitAt l' i) : F.fsum (p ++ l) = F.fsum (p ++ l') := by
  unfold F.fsum
  rw [F.crc_append, F.crc_append, F.crc_feed _ l, F.crc_feed _ l', F.bits_eq, F.bits_eq, ← hl]
  congr 2
  exact List.map_congr_left fun i hi => h i (List.mem_range.1 hi)
theorem bitAt_set (l : List B) (k : Nat) (hk : k < l.length) (y : B) (i : Nat) : F.bitAt (l.set k (l.getD k 0 ^^^ y)) i = xor (F.bitAt l i) (decide (i / 8 = k) && y.getLsbD (i % 8)) := by
  unfold F.bitAt
  by_cases h : i / 8 = k
  · subst h
    have e1 : (l.set (i / 8) (l.getD (i / 8) 0 ^^^ y)).getD (i / 8) 0 = l.getD (i / 8) 0 ^^^ y := by
      simp [List.getD_eq_getElem?_getD, hk]
    rw [e1]
    simp [BitVec.getLsbD_xor]
  · have e1 : (l.set k (l.getD k 0 ^^^ y)).getD (i / 8) 0 = l.getD (i / 8) 0 := by
      simp only [List.getD_eq_getElem?_getD]
      rw [List.getElem?_set_ne (fun e => h e.symm)]
    rw [e1]
    simp [h]
theorem fsum_byte (p l : List B) (k : Nat) (hk : k < l.length) (h4 : 4 ≤ l.length) (y : B) (hy : y ≠ 0#8) : F.fsum (p ++ l.set k (l.getD k 0 ^^^ y)) ≠ F.fsum (p ++ l) := by
  obtain ⟨a, ha⟩ : ∃ a, a = min (8 * k) (8 * l.length - 32) := ⟨_, rfl⟩
  obtain ⟨t, ht⟩ : ∃ t : BitVec 32, t = y.setWidth 32 <<< (8 * k - a) := ⟨_, rfl⟩
  have hb : ∀ j, j < 32 → t.getLsbD j = (decide (8 * k - a ≤ j) && y.getLsbD (j - (8 * k - a))) := fun j hj => by
    rw [ht, BitVec.getLsbD_shiftLeft, BitVec.getLsbD_setWidth]
    by_cases h1 : j < 8 * k - a
    · have h2 : ¬ 8 * k - a ≤ j := by omega
      simp [hj, h1, h2]
    · have h2 : 8 * k - a ≤ j := by omega
      have h3 : j - (8 * k - a) < 32 := by omega
      simp [hj, h1, h2, h3]
  have htn : t ≠ 0#32 := fun h0 => hy (by
    apply BitVec.eq_of_getLsbD_eq
    intro i hi
    have h1 := hb (8 * k - a + i) (by omega)
    rw [h0] at h1
    simp at h1
    simp [h1])
  have e := fsum_bits p (l.set k (l.getD k 0 ^^^ y)) (F.turn l a t 32) (by rw [List.length_set, F.turn_length]) (fun i hi => by
    rw [List.length_set] at hi
    rw [bitAt_set l k hk y i, F.bitAt_turn l a t 32 i (by omega)]
    congr 1
    by_cases h1 : a ≤ i ∧ i < a + 32
    · rw [hb (i - a) (by omega)]
      by_cases h2 : i / 8 = k
      · have h3 : 8 * k - a ≤ i - a := by omega
        simp [h1, h2, h3, show i - a - (8 * k - a) = i % 8 by omega]
      · by_cases h3 : 8 * k - a ≤ i - a
        · have h5 : y.getLsbD (i - a - (8 * k - a)) = false := BitVec.getLsbD_of_ge _ _ (by omega)
          simp [h1, h2, h5]
        · simp [h1, h2, h3]
    · have h2 : ¬ i / 8 = k := by omega
      simp [h1, h2])
  rw [e]
  exact F.fsum_turn p l a t (by omega) htn
/-- how many frames are whole in so many bytes -/
def whole (fs : List F.Fr) (cut : Nat) : Nat := match fs with
  | [] => 0
  | f :: l => if 9 + f.data.length ≤ cut then whole l (cut - (9 + f.data.length)) + 1 else 0
theorem whole_le (fs : List F.Fr) (cut : Nat) : whole fs cut ≤ fs.length := by
  induction fs generalizing cut with
  | nil => exact Nat.le_refl _
  | cons f l ih =>
    rw [whole]
    split
    · have := ih (cut - (9 + f.data.length)); rw [List.length_cons]; omega
    · exact Nat.zero_le _
theorem whole_spec (fs : List F.Fr) (cut : Nat) : (F.pbytes (fs.take (whole fs cut))).length ≤ cut ∧ ((hl : whole fs cut < fs.length) → cut < (F.pbytes (fs.take (whole fs cut))).length + 9 + (fs[whole fs cut]).data.length) := by
  induction fs generalizing cut with
  | nil => exact ⟨Nat.zero_le _, fun h => absurd h (Nat.not_lt_zero _)⟩
  | cons f l ih =>
    by_cases h : 9 + f.data.length ≤ cut
    · have e : whole (f :: l) cut = whole l (cut - (9 + f.data.length)) + 1 := by rw [whole, if_pos h]
      obtain ⟨h1, h2⟩ := ih (cut - (9 + f.data.length))
      have h3 := F.one_length f
      simp only [e, List.take_succ_cons, F.pbytes_cons, List.length_append]
      refine ⟨by omega, fun hl => ?_⟩
      have h4 := h2 (by rw [List.length_cons] at hl; omega)
      simp only [List.getElem_cons_succ]
      omega
    · have e : whole (f :: l) cut = 0 := by rw [whole, if_neg h]
      simp only [e, List.take_zero]
      refine ⟨Nat.zero_le _, fun hl => ?_⟩
      simp only [List.getElem_cons_zero]
      show cut < 0 + 9 + _
      omega
theorem scan_whole (fs : List F.Fr) (h : F.perr fs = 0) (cut : Nat) : F.scan ((F.pbytes fs).take cut) = (fs.take (whole fs cut), (F.pbytes (fs.take (whole fs cut))).length, false) :=
  F.scan_cut fs h cut _ (whole_le fs cut) (whole_spec fs cut).1 (whole_spec fs cut).2
theorem whole_ge (a b : List F.Fr) (cut : Nat) (h : (F.pbytes a).length ≤ cut) : a.length ≤ whole (a ++ b) cut := by
  induction a generalizing cut with
  | nil => exact Nat.zero_le _
  | cons f a ih =>
    rw [F.pbytes_cons, List.length_append, F.one_length] at h
    rw [List.cons_append, whole, if_pos (by omega), List.length_cons]
    have := ih (cut - (9 + f.data.length)) (by omega)
    omega
/-- a file cut by a crash: what it makes is what some of the frames make, all that were safe among them -/
theorem sread_crash (a b : List F.Fr) (s : St) (h : F.perr (a ++ b) = 0) (hs : sdos zero (a ++ b) = some s) (cut : Nat) (hc : (F.pbytes a).length ≤ cut) :
    ∃ j t, j ≤ b.length ∧ sdos zero (a ++ b.take j) = some t ∧ sread ((F.pbytes (a ++ b)).take cut) = some (t, (F.pbytes (a ++ b.take j)).length) ∧ (F.pbytes (a ++ b.take j)).length ≤ cut := by
  have h1 := whole_ge a b cut hc
  have h2 := whole_le (a ++ b) cut
  rw [List.length_append] at h2
  have e : (a ++ b).take (whole (a ++ b) cut) = a ++ b.take (whole (a ++ b) cut - a.length) := by
    rw [List.take_append, List.take_of_length_le h1]
  obtain ⟨t, ht⟩ := sdos_take hs (whole (a ++ b) cut)
  have h3 := (whole_spec (a ++ b) cut).1
  have h4 := scan_whole (a ++ b) h cut
  rw [e] at ht h3 h4
  exact ⟨_, t, by omega, ht, by simp [sread, h4, ht], h3⟩
/-- a byte within a frame's data turned -/
theorem sread_turned (a : List F.Fr) (f : F.Fr) (b : List F.Fr) (h : F.perr (a ++ f :: b) = 0) (k : Nat) (hk : k < f.data.length) (h4 : 4 ≤ f.data.length) (y : B) (hy : y ≠ 0#8) :
    (F.scan ((F.pbytes (a ++ f :: b)).set ((F.pbytes a).length + 9 + k) ((F.pbytes (a ++ f :: b)).getD ((F.pbytes a).length + 9 + k) 0 ^^^ y))).2.2 = true := by
  have hz := (F.perr_zero _).1 h
  have ha : F.perr a = 0 := (F.perr_zero _).2 fun g hg => hz g (List.mem_append_left _ hg)
  have hf := hz f (List.mem_append_right _ (List.mem_cons_self ..))
  have e0 : F.pbytes (a ++ f :: b) = F.pbytes a ++ (F.five f ++ (F.be4 (F.fsum (F.five f ++ f.data)) ++ f.data) ++ F.pbytes b) := by
    rw [F.pbytes_append, F.pbytes_cons, F.one]
  have l5 : (F.five f).length = 5 := rfl
  have l4 : ∀ n, (F.be4 n).length = 4 := fun _ => rfl
  have eg : (F.pbytes (a ++ f :: b)).getD ((F.pbytes a).length + 9 + k) 0 = f.data.getD k 0 := by
    rw [e0]
    simp only [List.getD_eq_getElem?_getD]
    rw [List.getElem?_append_right (by omega), List.getElem?_append_left (by simp only [List.length_append, l5, l4]; omega), List.getElem?_append_right (by rw [l5]; omega), List.getElem?_append_right (by rw [l5, l4]; omega)]
    rw [l5, l4, show (F.pbytes a).length + 9 + k - (F.pbytes a).length - 5 - 4 = k by omega]
  rw [eg, e0, List.set_append_right _ _ (by omega), List.set_append_left _ _ (by simp only [List.length_append, l5, l4]; omega), List.set_append_right _ _ (by rw [l5]; omega), List.set_append_right _ _ (by rw [l5, l4]; omega)]
  rw [l5, l4, show (F.pbytes a).length + 9 + k - (F.pbytes a).length - 5 - 4 = k by omega]
  rw [F.scan_spoilt a ha f hf _ (List.length_set ..) (fsum_byte _ _ k hk h4 y hy)]
end Go.Proofs.Ytfpjmeknjhhakaa.S

/- Loads that are taken first in a drawn region which later writes their cells: the condition on the world may hang on what has come up. Plain lemmas over any program (the base's wpAnyH with S by what is listed). -/
namespace Go.Proofs.Ytfpjmeknjhhakaa.K
open Go

section
variable {P : Program} {ops : Array Oper} {Q : Exit → Act → World → Prop} {md : Region.Mode} {S : Array Bool → World → Prop}
/-- what has come up has come up behind what it waits for -/
def ShutL (md : Region.Mode) (ops : Array Oper) (l : Array Bool) : Prop := ∀ j oj, ops[j]? = some oj → l.getD j false = true → ∀ e ∈ oj.after, Region.binds md e = true → l.getD e.on false = true
theorem ShutL.start (n : Nat) : ShutL md ops (Array.replicate n false) := fun j oj _ h => by
  exfalso
  rw [Array.getD_eq_getD_getElem?] at h
  rcases Nat.lt_or_ge j n with h1 | h1
  · rw [Array.getElem?_replicate, if_pos h1] at h; simp at h
  · rw [Array.getElem?_replicate, if_neg (by omega)] at h; simp at h
theorem getD_set_same {l : Array Bool} {i : Nat} (h : i < l.size) (d : Bool) : (l.setIfInBounds i true).getD i d = true := by
  simp [Array.getD_eq_getD_getElem?, h]
theorem getD_mono {l : Array Bool} {i j : Nat} (h : l.getD j false = true) : (l.setIfInBounds i true).getD j false = true := by
  by_cases hij : i = j
  · subst hij
    have : i < l.size := by
      rcases Nat.lt_or_ge i l.size with h1 | h1
      · exact h1
      · rw [Array.getD_eq_getD_getElem?, Array.getElem?_eq_none h1] at h; simp at h
    exact getD_set_same this _
  · rw [getD_set_ne false hij]; exact h
theorem ShutL.set {l : Array Bool} {i : Nat} (h : ShutL md ops l) (hi : i ∈ Region.ready md ops l) : ShutL md ops (l.setIfInBounds i true) := fun j oj hj hl e he hb => by
  by_cases hij : i = j
  · subst hij
    obtain ⟨_, o, ho, hall⟩ := mem_ready.1 hi
    rw [hj] at ho
    cases ho
    exact getD_mono (hall e he hb)
  · rw [getD_set_ne false hij] at hl
    exact getD_mono (h j oj hj hl e he hb)
/-- whatever order is picked, and S holds behind every operation, of what has come up then -/
def wpAnyL (P : Program) (md : Region.Mode) (ops : Array Oper) (Q : Exit → Act → World → Prop) (S : Array Bool → World → Prop) : Nat → Array Bool → Act → World → Prop
  | 0, listed, a, w => Region.ready md ops listed = [] ∧ Q .normal a w
  | fuel + 1, listed, a, w =>
    (Region.ready md ops listed = [] → Q .normal a w) ∧
    ∀ i ∈ Region.ready md ops listed, wpOp P ops Q i (fun a' w' => S (listed.setIfInBounds i true) w' ∧ wpAnyL P md ops Q S fuel (listed.setIfInBounds i true) a' w') a w
theorem wpAny_of_L : ∀ (fuel : Nat) (listed : Array Bool) (a : Act) (w : World), wpAnyL P md ops Q S fuel listed a w → wpAny P md ops Q fuel listed a w
  | 0, _, _, _, h => h
  | fuel + 1, _, _, _, h => ⟨h.1, fun i hi => wpOp_mono (fun a' w' h' => wpAny_of_L fuel _ a' w' h'.2) (h.2 i hi)⟩
theorem wpAnyL_first {i : Nat} {oi : Oper} {v : Value} {S0 : World → Prop} (hi : ops[i]? = some oi) (hsel : ∀ (j : Nat) (o : Oper) cs b, ops[j]? = some o → o.op ≠ .select cs b)
    (hQ : ∀ c a w, Q (.panic c) (a.put oi.dst v) w → Q (.panic c) a w) (hm : ∀ l w, S (l.setIfInBounds i true) w ↔ S l w) (h0 : ∀ l w, ShutL md ops l → l.getD i true = false → S l w → S0 w) :
    ∀ (fuel : Nat) (listed : Array Bool) (a : Act) (w : World), ShutL md ops listed →
      (∀ j oj, ops[j]? = some oj → j ≠ i → listed.getD j true = false → (∀ e ∈ oj.after, Region.binds md e = true → e.on ≠ i) → oi.apart ops oj = true) →
      i ∈ Region.ready md ops listed → YieldsIf P ops S0 oi v a → S listed w →
      wpAnyL P md ops Q S fuel (listed.setIfInBounds i true) (a.put oi.dst v) w → wpAnyL P md ops Q S (fuel + 1) listed a w := by
  intro fuel
  induction fuel with
  | zero =>
    intro listed a w hsh _ hr hy hS H
    refine ⟨fun h => (by rw [h] at hr; cases hr), fun j hj => ?_⟩
    by_cases hji : j = i
    · subst hji; exact hy.wpOp hi (h0 _ _ hsh (mem_ready.1 hr).1 hS) ⟨(hm _ _).2 hS, H⟩
    · have := ready_mono hj hji
      rw [H.1] at this
      cases this
  | succ fuel ih =>
    intro listed a w hsh hfree hr hy hS H
    refine ⟨fun h => (by rw [h] at hr; cases hr), fun j hj => ?_⟩
    by_cases hji : j = i
    · subst hji; exact hy.wpOp hi (h0 _ _ hsh (mem_ready.1 hr).1 hS) ⟨(hm _ _).2 hS, H⟩
    · have h1 := H.2 j (ready_mono hj hji)
      obtain ⟨hjun, oj, hoj, hall⟩ := mem_ready.1 hj
      have hnot : ∀ e ∈ oj.after, Region.binds md e = true → e.on ≠ i := fun e he hb heq => by
        have h1 := hall e he hb
        have h0 := (mem_ready.1 hr).1
        rw [heq] at h1
        rcases Nat.lt_or_ge i listed.size with h' | h'
        · simp [h'] at h0 h1; rw [h0] at h1; cases h1
        · simp [Array.getElem?_eq_none h'] at h1
      have h2 := wpOp_putIf hoj (hfree j oj hoj hji hjun hnot) (fun cs b => hsel i oi cs b hi) (fun cs b => hsel j oj cs b hoj) hQ hy h1
      have hfree' : ∀ k ok, ops[k]? = some ok → k ≠ i → (listed.setIfInBounds j true).getD k true = false →
          (∀ e ∈ ok.after, Region.binds md e = true → e.on ≠ i) → oi.apart ops ok = true := fun k ok hk hki hun hno => by
        refine hfree k ok hk hki ?_ hno
        by_cases hjk : j = k
        · subst hjk; exact hjun
        · rw [getD_set_ne true hjk] at hun; exact hun
      refine wpOp_mono (fun a' w' h3 => ?_) h2
      have h4 := h3.2
      rw [Array.setIfInBounds_comm _ _ (Ne.symm hji)] at h4
      have h5 := (hm _ _).1 h4.1
      exact ⟨h5, ih (listed.setIfInBounds j true) a' w' (hsh.set hj) hfree' (ready_mono hr (Ne.symm hji)) h3.1 h5 h4.2⟩
/-- take number i first -/
theorem wpAnyL_take {S0 : World → Prop} {i : Nat} {oi : Oper} {v : Value} {fuel : Nat} {listed : Array Bool} {a : Act} {w : World} (hi : ops[i]? = some oi)
    (hs : Region.noSelect ops = true) (hf : Region.free md ops listed i = true) (hr : (Region.ready md ops listed).contains i = true)
    (hQ : ∀ c a w, Q (.panic c) (a.put oi.dst v) w → Q (.panic c) a w) (hm : ∀ l w, S (l.setIfInBounds i true) w ↔ S l w) (h0 : ∀ l w, ShutL md ops l → l.getD i true = false → S l w → S0 w)
    (hsh : ShutL md ops listed) (hy : YieldsIf P ops S0 oi v a) (hS : S listed w)
    (h : ShutL md ops (listed.setIfInBounds i true) → S (listed.setIfInBounds i true) w → wpAnyL P md ops Q S fuel (listed.setIfInBounds i true) (a.put oi.dst v) w) : wpAnyL P md ops Q S (fuel + 1) listed a w :=
  wpAnyL_first hi (Region.noSelect_spec hs) hQ hm h0 fuel listed a w hsh (Region.free_spec hi hf) (by simpa using hr) hy hS (h (hsh.set (by simpa using hr)) ((hm _ _).2 hS))
/-- but one may come up -/
theorem wpAnyL_one {i : Nat} {o : Oper} {fuel : Nat} {listed : Array Bool} {a : Act} {w : World} (hsh : ShutL md ops listed) (hr : Region.ready md ops listed = [i]) (ho : ops[i]? = some o)
    (h : ∀ K' : Act → World → Prop, Shut (∀ a w, S (listed.setIfInBounds i true) w → (ShutL md ops (listed.setIfInBounds i true) → S (listed.setIfInBounds i true) w → wpAnyL P md ops Q S fuel (listed.setIfInBounds i true) a w) → K' a w) → if Region.wanted o (yielded ops a.tmps) = true then Oper.wp P o a w K' Q else K' (a.put o.dst undef) w) :
    wpAnyL P md ops Q S (fuel + 1) listed a w :=
  ⟨fun h0 => (by rw [hr] at h0; cases h0), fun j hj => by
    rw [hr] at hj
    obtain rfl := List.mem_singleton.1 hj
    exact wpOp_step ho (fun K' hK => h K' (fun a w hS hW => hK a w ⟨hS, hW (hsh.set (by rw [hr]; exact List.mem_singleton.2 rfl)) hS⟩))⟩
theorem wpAnyL_done {listed : Array Bool} {a : Act} {w : World} (hr : Region.ready md ops listed = []) (h : Q .normal a w) : ∀ fuel, wpAnyL P md ops Q S fuel listed a w
  | 0 => ⟨hr, h⟩
  | _ + 1 => ⟨fun _ => h, by rw [hr]; simp⟩
/-- the beginning -/
theorem wp_region_L {id : Nat} {a : Act} {w : World} (S : Array Bool → World → Prop) (hm : P.follows .mixedOrders = true)
    (h : ShutL .any ops (Array.replicate ops.size false) → wpAnyL P .any ops Q S ops.size (Array.replicate ops.size false) a w.drew) : (Code.region id ops true).wp P Q a w :=
  wp_region_any hm (wpAny_of_L _ _ _ _ (h (ShutL.start _)))
/-- the same, behind a structure: so that no elaborator reduces what is left -/
structure WL (P : Program) (md : Region.Mode) (ops : Array Oper) (Q : Exit → Act → World → Prop) (S : Array Bool → World → Prop) (fuel : Nat) (listed : Array Bool) (a : Act) (w : World) : Prop where
  out : wpAnyL P md ops Q S fuel listed a w
theorem WL.take {S0 : World → Prop} {i : Nat} {oi : Oper} {v : Value} {fuel : Nat} {listed : Array Bool} {a : Act} {w : World} (hi : ops[i]? = some oi)
    (hs : Region.noSelect ops = true) (hf : Region.free md ops listed i = true) (hr : (Region.ready md ops listed).contains i = true)
    (hQ : ∀ c a w, Q (.panic c) (a.put oi.dst v) w → Q (.panic c) a w) (hm : ∀ l w, S (l.setIfInBounds i true) w ↔ S l w) (h0 : ∀ l w, ShutL md ops l → l.getD i true = false → S l w → S0 w)
    (hsh : ShutL md ops listed) (hy : YieldsIf P ops S0 oi v a) (hS : S listed w)
    (h : ShutL md ops (listed.setIfInBounds i true) → S (listed.setIfInBounds i true) w → WL P md ops Q S fuel (listed.setIfInBounds i true) (a.put oi.dst v) w) : WL P md ops Q S (fuel + 1) listed a w :=
  ⟨wpAnyL_take hi hs hf hr hQ hm h0 hsh hy hS (fun h1 h2 => (h h1 h2).out)⟩
theorem WL.one {i : Nat} {o : Oper} {fuel : Nat} {listed : Array Bool} {a : Act} {w : World} (hsh : ShutL md ops listed) (hr : Region.ready md ops listed = [i]) (ho : ops[i]? = some o)
    (h : ∀ K' : Act → World → Prop, Shut (∀ a w, S (listed.setIfInBounds i true) w → (ShutL md ops (listed.setIfInBounds i true) → S (listed.setIfInBounds i true) w → WL P md ops Q S fuel (listed.setIfInBounds i true) a w) → K' a w) → if Region.wanted o (yielded ops a.tmps) = true then Oper.wp P o a w K' Q else K' (a.put o.dst undef) w) :
    WL P md ops Q S (fuel + 1) listed a w :=
  ⟨wpAnyL_one hsh hr ho (fun K' hK => h K' (fun a w hS hW => hK a w hS (fun h1 h2 => (hW h1 h2).out)))⟩
theorem WL.done {listed : Array Bool} {a : Act} {w : World} (hr : Region.ready md ops listed = []) (h : Q .normal a w) (fuel : Nat) : WL P md ops Q S fuel listed a w := ⟨wpAnyL_done hr h fuel⟩
theorem WL.region {id : Nat} {a : Act} {w : World} (S : Array Bool → World → Prop) (hm : P.follows .mixedOrders = true)
    (h : ShutL .any ops (Array.replicate ops.size false) → WL P .any ops Q S ops.size (Array.replicate ops.size false) a w.drew) : (Code.region id ops true).wp P Q a w :=
  wp_region_L S hm (fun h1 => (h h1).out)
/-- C until operation j has come up, D throughout -/
def SApp (j : Nat) (C D : World → Prop) (l : Array Bool) (w : World) : Prop := (l.getD j false = false → C w) ∧ D w
theorem SApp.intro {j : Nat} {C D : World → Prop} {l : Array Bool} {w : World} (h : l.getD j false = false → C w) (h2 : D w) : SApp j C D l w := ⟨h, h2⟩
theorem SApp.hm {i j : Nat} {C D : World → Prop} (hij : i ≠ j) : ∀ (l : Array Bool) w, SApp j C D (l.setIfInBounds i true) w ↔ SApp j C D l w := fun l w => by
  unfold SApp
  rw [getD_set_ne false hij]
theorem SApp.any {i j : Nat} {C D : World → Prop} : ∀ (l : Array Bool) w, ShutL md ops l → l.getD i true = false → SApp j C D l w → True := fun _ _ _ _ _ => trivial
theorem SApp.both {i j : Nat} {C D : World → Prop} (h : (ops[j]?.map fun o => o.after.any fun e => Region.binds md e && e.on == i) = some true) : ∀ (l : Array Bool) w, ShutL md ops l → l.getD i true = false → SApp j C D l w → C w ∧ D w := fun l w hl hi hS => by
  refine ⟨hS.1 ?_, hS.2⟩
  cases hj : l.getD j false with
  | false => rfl
  | true =>
    exfalso
    cases ho : ops[j]? with
    | none => rw [ho] at h; cases h
    | some o =>
      rw [ho] at h
      simp only [Option.map_some, Option.some.injEq] at h
      obtain ⟨e, he, h2⟩ := Array.any_eq_true'.1 h
      rw [Bool.and_eq_true] at h2
      have h3 := hl j o ho hj e he h2.1
      rw [show e.on = i by simpa using h2.2] at h3
      rw [Array.getD_eq_getD_getElem?] at hi h3
      cases hx : l[i]? with
      | none => rw [hx] at hi; simp at hi
      | some b => rw [hx] at hi h3; simp at hi h3; rw [hi] at h3; cases h3
/-- one waits for the next, all along -/
def pathB (md : Region.Mode) (ops : Array Oper) : Nat → List Nat → Bool
  | _, [] => true
  | j, k :: ks => ((ops[j]?.map fun o => o.after.any fun e => Region.binds md e && e.on == k) == some true) && pathB md ops k ks
theorem ShutL.path {l : Array Bool} (hl : ShutL md ops l) : ∀ (ks : List Nat) (j : Nat), pathB md ops j ks = true → l.getD j false = true → l.getD (ks.getLastD j) false = true
  | [], j, _, h => h
  | k :: ks, j, hp, h => by
    simp only [pathB, Bool.and_eq_true, beq_iff_eq] at hp
    obtain ⟨h1, h2⟩ := hp
    have h3 : l.getD k false = true := by
      cases ho : ops[j]? with
      | none => rw [ho] at h1; cases h1
      | some o =>
        rw [ho] at h1
        simp only [Option.map_some, Option.some.injEq] at h1
        obtain ⟨e, he, h4⟩ := Array.any_eq_true'.1 h1
        rw [Bool.and_eq_true] at h4
        have h5 := hl j o ho h e he h4.1
        rw [show e.on = k by simpa using h4.2] at h5
        exact h5
    have h6 := ShutL.path hl ks k h2 h3
    cases ks with
    | nil => exact h6
    | cons a b => exact h6
theorem SApp.far {i j : Nat} {C D : World → Prop} (ks : List Nat) (h : pathB md ops j ks = true) (hi' : ks.getLastD j = i) : ∀ (l : Array Bool) w, ShutL md ops l → l.getD i true = false → SApp j C D l w → C w ∧ D w := fun l w hl hi hS => by
  refine ⟨hS.1 ?_, hS.2⟩
  cases hj : l.getD j false with
  | false => rfl
  | true =>
    exfalso
    have h3 := hl.path ks j h hj
    rw [hi'] at h3
    rw [Array.getD_eq_getD_getElem?] at hi h3
    cases hx : l[i]? with
    | none => rw [hx] at hi; simp at hi
    | some b => rw [hx] at hi h3; simp at hi h3; rw [hi] at h3; cases h3
theorem SApp.right {i j : Nat} {C D : World → Prop} : ∀ (l : Array Bool) w, ShutL md ops l → l.getD i true = false → SApp j C D l w → D w := fun _ _ _ _ h => h.2
end
end Go.Proofs.Ytfpjmeknjhhakaa.K

/- A block of another kind (a map's, a reader's) beside a bank: none of the bank's, and made by the call. Plain lemmas over any program. -/
namespace Go.Proofs.Ytfpjmeknjhhakaa.K
open Go Go.RowKit

structure Side (w0 w : World) (R : Nat) (ob : Obj) (L : List Acc) : Prop where
  bank : Bank w0 w L
  at' : w.heap[R]? = some ob
  base : w0.heap.size ≤ R
  away : ∀ p ∈ L, p.v.ownBlock ≠ some R
section
variable {w0 w w' : World} {R : Nat} {ob ob' : Obj} {L L' : List Acc}
theorem Side.lt (h : Side w0 w R ob L) : R < w.heap.size := (Array.getElem?_eq_some_iff.1 h.at').1
theorem Side.since (h : Side w0 w R ob L) : Since w0 w := h.bank.since
/-- the bank did a step that wrote no more than one of its own rows -/
theorem Side.step (h : Side w0 w R ob L) (hB : Bank w0 w' L') {row : Option Nat} (hg : w.grownBy w' row) (hrow : row ≠ some R) (hL : ∀ p ∈ L', p.v.ownBlock = some R → False) : Side w0 w' R ob L' :=
  ⟨hB, (hg.block R h.lt (fun e => hrow e.symm)).trans h.at', h.base, fun p hp e => hL p hp e⟩
theorem Side.call (h : Side w0 w R ob L) (hb : Below w.heap.size w w') : Side w0 w' R ob L :=
  ⟨h.bank.call hb, (hb.block R h.lt).trans h.at', h.base, h.away⟩
theorem Side.drew (h : Side w0 w R ob L) : Side w0 w.drew R ob L := ⟨h.bank.drew, h.at', h.base, h.away⟩
theorem Side.sub (h : Side w0 w R ob L) (hs : L'.Sublist L) : Side w0 w R ob L' := ⟨h.bank.sub hs, h.at', h.base, fun p hp => h.away p (hs.subset hp)⟩
theorem Side.perm (h : Side w0 w R ob L) (hp : L.Perm L') : Side w0 w R ob L' :=
  ⟨⟨h.bank.since, fun p hm => h.bank.own p (hp.mem_iff.2 hm), (List.Perm.pairwise_iff (fun {_ _} h => Apartness.symm h) hp).1 h.bank.sep⟩, h.at', h.base, fun p hm => h.away p (hp.mem_iff.2 hm)⟩
/-- a callee made something -/
theorem Side.made (h : Side w0 w R ob L) (hb : Below w.heap.size w w') {e : TypeId} {size n : Nat} {v : Value} {xs : List Value} (ho : w'.ownsRow w.heap.size e size v n xs) : Side w0 w' R ob (⟨v, n, e, size, xs⟩ :: L) := by
  have h1 := h.call hb
  refine ⟨h.bank.made hb ho, h1.at', h.base, fun p hp e => ?_⟩
  rcases List.mem_cons.1 hp with rfl | hp
  · have h2 := (ho.lt R e).1
    have h3 := h.lt
    omega
  · exact h.away p hp e
theorem Side.none (h : Side w0 w R ob L) (e : TypeId) (size : Nat) : Side w0 w R ob (⟨.slice none 0 0, 0, e, size, []⟩ :: L) := by
  refine ⟨h.bank.none e size, h.at', h.base, fun p hp e => ?_⟩
  rcases List.mem_cons.1 hp with rfl | hp
  · cases e
  · exact h.away p hp e
theorem Side.box (h : Side w0 w R ob L) (cs : Array Value) (t : TypeId) (hs : cs.size ≤ 1000000) : Side w0 (w.alloc (.cells cs t)) R ob (boxAcc w.heap.size t cs.toList :: L) := by
  have h1 := h.call ((Below.refl _ _).alloc (Nat.le_refl _) (.cells cs t))
  refine ⟨h.bank.box cs t hs, h1.at', h.base, fun p hp e => ?_⟩
  rcases List.mem_cons.1 hp with rfl | hp
  · have e2 : R = w.heap.size := by simpa [boxAcc, Value.ownBlock] using e.symm
    have h3 := h.lt
    omega
  · exact h.away p hp e
/-- a cell of a box is written -/
theorem Side.boxSet (h : Side w0 w R ob L) (i : Nat) {g : Nat} {t : TypeId} {vs : List Value} (hi : L[i]? = some (boxAcc g t vs)) (j : Nat) (v : Value) : Side w0 (w.setCell ⟨g, j, Option.none⟩ v) R ob (L.set i (boxAcc g t (vs.set j v))) := by
  have ha := h.away _ (List.mem_of_getElem? hi)
  refine h.step (h.bank.boxSet i hi j v) (grownBy_setCell w g j v) ha fun p hp e => ?_
  rcases List.mem_or_eq_of_mem_set hp with hp | rfl
  · exact h.away p hp e
  · exact ha e
/-- an account was put anew -/
theorem Side.put (h : Side w0 w R ob L) (i : Nat) {p p' : Acc} (hi : L[i]? = some p) (hB : Bank w0 w' (L.set i p')) (hg : w.grownBy w' p.v.ownBlock) (hb : p'.v.ownBlock = p.v.ownBlock ∨ p'.v.ownBlock = some w.heap.size) : Side w0 w' R ob (L.set i p') := by
  have ha := h.away _ (List.mem_of_getElem? hi)
  refine h.step hB hg ha fun q hq e => ?_
  rcases List.mem_or_eq_of_mem_set hq with hq | rfl
  · exact h.away q hq e
  · rcases hb with hb | hb
    · exact ha (hb.symm.trans e)
    · rw [hb] at e
      have h3 := h.lt
      have h4 := Option.some.inj e
      omega
/-- another block, none of the bank's and not this one, was written -/
theorem Side.other (h : Side w0 w R ob L) {X : Nat} (hg : w.grownBy w' (some X)) (hX : w0.heap.size ≤ X) (hL : ∀ p ∈ L, p.v.ownBlock ≠ some X) (hR : X ≠ R) : Side w0 w' R ob L :=
  h.step (h.bank.other hg hX hL) hg (fun e => hR (Option.some.inj e)) h.away
/-- the block itself is written -/
theorem Side.over (h : Side w0 w R ob L) (hg : w.grownBy w' (some R)) (ho : w'.heap[R]? = some ob') : Side w0 w' R ob' L :=
  ⟨h.bank.other hg h.base h.away, ho, h.base, h.away⟩
theorem Side.start (h : Bank w0 w L) (hb : Below w.heap.size w w') (hR : w.heap.size ≤ R) (ho : w'.heap[R]? = some ob) : Side w0 w' R ob L :=
  ⟨h.call hb, ho, Nat.le_trans h.since.size hR, fun p hp e => by have := (h.lt hp e).2; omega⟩
end
end Go.Proofs.Ytfpjmeknjhhakaa.K

/- Laws for a map of texts that holds nothing or one thing, and for a map that a literal makes with int keys. Over any program. -/
namespace Go.Proofs.Ytfpjmeknjhhakaa.K
open Go Go.RowKit Go.Maps Go.WideMaps

/-- one text's entry, or none -/
def oneEs (s : ByteArray) : Option Value → Array MapEntry
  | none => #[]
  | some v => #[{ key := .string s, val := v, born := 0 }]
def oneClock : Option Value → Nat
  | none => 0
  | some _ => 1
/-- block g is such a map -/
def IsOne (w : World) (g : Nat) (s : ByteArray) (o : Option Value) : Prop := w.heap[g]? = some (.map (oneEs s o) (oneClock o))
theorem IsOne.lt {w : World} {g : Nat} {s : ByteArray} {o : Option Value} (h : IsOne w g s o) : g < w.heap.size := (Array.getElem?_eq_some_iff.1 h).1
theorem IsOne.eq {w w' : World} {g : Nat} {s : ByteArray} {o : Option Value} (h : IsOne w g s o) (hb : w'.heap[g]? = w.heap[g]?) : IsOne w' g s o := hb.trans h
theorem IsOne.made (w : World) (s : ByteArray) : IsOne (w.alloc (.map #[] 0)) w.heap.size s none := heap_alloc_new w _
section
variable {P : Program} {t k e : TypeId} {w : World} {g : Nat} {s : ByteArray}
theorem sameNow_str (s : ByteArray) : Instr.sameNow .string (.string s) (.string s) = some true := by
  have h := (MapKept.bytes_beq s s).2 rfl
  simp [Instr.sameNow, h]
theorem look_one (ht : P.underlying t = some (.map k e)) (hk : P.underlying k = some .string) (hs : s.size ≤ maxLen) {v : Value} (h : IsOne w g s (some v)) :
    (Instr.lookup t (.map (some g)) (.string s) false).run P w = .ok v w := by
  have hf : Instr.findNow .string (.string s) (oneEs s (some v)).toList 0 = some (some (0, v)) := by simp [oneEs, Instr.findNow, sameNow_str]
  simp [Instr.lookup, run_underlying ht, MapKept.run_getObj_map h, (string_keyed hk).check _ _ (keyOf_string_mk hk hs), Instr.findKey, run_underlying hk, hf, Result.andThen]
theorem look_nothing (ht : P.underlying t = some (.map k e)) (hk : P.underlying k = some .string) (hs : s.size ≤ maxLen) {z : Value} (hz : (zeroValue e).run P w = .ok z w) (h : IsOne w g s none) :
    (Instr.lookup t (.map (some g)) (.string s) false).run P w = .ok z w := by
  have hf : Instr.findNow .string (.string s) (oneEs s none).toList 0 = some none := rfl
  simp [Instr.lookup, run_underlying ht, MapKept.run_getObj_map h, (string_keyed hk).check _ _ (keyOf_string_mk hk hs), Instr.findKey, run_underlying hk, hf, hz, Result.andThen]
theorem put_first (ht : P.underlying t = some (.map k e)) (hk : P.underlying k = some .string) (hs : s.size ≤ maxLen) (v : Value) (h : IsOne w g s none) :
    (Instr.mapUpdate t (.map (some g)) (.string s) v).run P w = .ok () (Go.ChangeMaps.setBlock w g (.map (oneEs s (some v)) 1)) := by
  have hf : Instr.findNow .string (.string s) (oneEs s none).toList 0 = some none := rfl
  simp [Instr.mapUpdate, run_underlying ht, MapKept.run_getObj_map h, (string_keyed hk).check _ _ (keyOf_string_mk hk hs), Instr.findKey, run_underlying hk, hf, MapKept.run_setObj_map _ h, Result.andThen]
  rfl
theorem setBlock_same {w : World} {g : Nat} {o : Obj} (h : w.heap[g]? = some o) : Go.ChangeMaps.setBlock w g o = w := by
  have h1 : w.heap.setIfInBounds g o = w.heap := by
    apply Array.ext_getElem?
    intro i
    rw [Array.getElem?_setIfInBounds]
    split
    · rename_i e; subst e; rw [if_pos (Array.getElem?_eq_some_iff.1 h).1, h]
    · rfl
  show ({ w with heap := w.heap.setIfInBounds g o } : World) = w
  rw [h1]
theorem put_again (ht : P.underlying t = some (.map k e)) (hk : P.underlying k = some .string) (hs : s.size ≤ maxLen) (v : Value) (h : IsOne w g s (some v)) :
    (Instr.mapUpdate t (.map (some g)) (.string s) v).run P w = .ok () w := by
  have hf : Instr.findNow .string (.string s) (oneEs s (some v)).toList 0 = some (some (0, v)) := by simp [oneEs, Instr.findNow, sameNow_str]
  have hst : (Instr.keyThatStays (.string s) (.string s)).run P w = .ok (.string s) w := by 
    have h := (MapKept.bytes_beq s s).2 rfl
    simp [Instr.keyThatStays, Instr.sameBits, h]
  have h2 := setBlock_same h
  simp [Instr.mapUpdate, run_underlying ht, MapKept.run_getObj_map h, (string_keyed hk).check _ _ (keyOf_string_mk hk hs), Instr.findKey, run_underlying hk, hf, Result.andThen]
  have e1 : (((oneEs s (some v))[0]?).map (·.key)).getD (.string s) = .string s := rfl
  simp [oneEs, hst]
  rw [MapKept.run_setObj_map _ h]
  exact congrArg (Result.ok ()) h2
/-- a range begins -/
theorem range_one (ht : P.underlying t = some (.map k e)) {o : Option Value} (h : IsOne w g s o) :
    (Instr.range t (.map (some g))).run P w = .ok (.pointer (some ⟨w.heap.size, 0, none⟩)) (w.alloc (.mapIter (some g) (oneClock o) #[] (oneClock o))) := run_range_map w t k e g _ _ ht h
/-- nothing comes -/
theorem next_none {r : Nat} {ty : TypeId} {seen : Array Nat} {c : Nat} (hr : w.heap[r]? = some (.mapIter (some g) 0 seen c)) (h : IsOne w g s none) :
    (Instr.next (.pointer (some ⟨r, 0, none⟩)) false ty).run P w = .ok (.tuple #[.bool false]) w := by
  rcases run_next_at (P := P) w ty r g 0 c seen (oneEs s none) 0 hr h (fun x hx => by cases hx) (Nat.zero_le _) with ⟨_, h2⟩ | ⟨e, he, _⟩
  · exact h2
  · simp [Go.leftOf, oneEs] at he
/-- the one comes -/
theorem next_one {r : Nat} {ty : TypeId} {v : Value} (hr : w.heap[r]? = some (.mapIter (some g) 1 #[] 1)) (h : IsOne w g s (some v)) :
    (Instr.next (.pointer (some ⟨r, 0, none⟩)) false ty).run P w = .ok (.tuple #[.bool true, .string s, v]) (Go.ChangeMaps.setBlock w r (.mapIter (some g) 1 #[0] 1)) := by
  have hrun : (Instr.next (.pointer (some ⟨r, 0, none⟩)) false ty).run P w = .ok (.tuple #[.bool true, .string s, v]) (Go.ChangeMaps.setBlock w r (.mapIter (some g) 1 ((#[] : Array Nat).push 0) 1)) := by
    have h' : w.heap[g]? = some (.map (oneEs s (some v)) 1) := h
    simp only [Instr.next, getObj, Sem.run_bind, Sem.run, hr, h', Result.andThen]
    simp [oneEs, choose, Sem.run, Question.forced, run_setObj_at hr, Result.andThen]
  exact hrun
/-- and no more -/
theorem next_over {r : Nat} {ty : TypeId} {v : Value} (hr : w.heap[r]? = some (.mapIter (some g) 1 #[0] 1)) (h : IsOne w g s (some v)) :
    (Instr.next (.pointer (some ⟨r, 0, none⟩)) false ty).run P w = .ok (.tuple #[.bool false]) w := by
  rcases run_next_at (P := P) w ty r g 1 1 #[0] (oneEs s (some v)) 1 hr h (fun x hx => by simp [oneEs] at hx; subst hx; exact Nat.zero_lt_one) (Nat.le_refl _) with ⟨_, h2⟩ | ⟨e, he, _⟩
  · exact h2
  · simp [Go.leftOf, oneEs] at he
theorem entry_one {r : Nat} {v : Value} (hr : w.heap[r]? = some (.mapIter (some g) 1 #[0] 1)) (h : IsOne w g s (some v)) :
    (Instr.entry (.pointer (some ⟨r, 0, none⟩))).run P w = .ok (.tuple #[.string s, v]) w :=
  run_entry_at w r g 1 #[] (oneEs s (some v)) 1 { key := .string s, val := v, born := 0 } hr h (by simp [oneEs]) (by simp [oneEs])
end
theorem setBlock_allocQ (w : World) (o o' : Obj) : Go.ChangeMaps.setBlock (w.alloc o) w.heap.size o' = w.alloc o' := by
  have h : (w.heap.push o).setIfInBounds w.heap.size o' = w.heap.push o' := by
    apply Array.toList_inj.1
    rw [Array.toList_setIfInBounds, Array.toList_push, Array.toList_push, List.set_append_right _ _ (by simp)]
    simp
  exact congrArg (fun x => ({ w with heap := x } : World)) h
/-- a map that a literal makes: a key is laid -/
theorem put_mapQ {P : Program} {t k e : TypeId} {q : IntKind} (ht : P.underlying t = some (.map k e)) (hk : P.underlying k = some (.int q)) (w : World) (es : Array MapEntry) (c : Nat) (n : Int) (v : Value) (hn : (Lit.int q n).wf = true) (hf : Instr.findNow (.int q) (.int q n) es.toList 0 = some none) :
    (Instr.mapUpdate t (.map (some w.heap.size)) (.int q n) v).run P (w.alloc (.map es c)) = .ok () (w.alloc (.map (es.push { key := .int q n, val := v, born := c }) (c + 1))) := by
  have hb := (MapKept.heap_alloc w (.map es c)).1
  simp [Instr.mapUpdate, run_underlying ht, MapKept.run_getObj_map hb, (int_keyed hk).check _ false (keyOf_int_mk hk hn), Instr.findKey, run_underlying hk, hf, MapKept.run_setObj_map _ hb, Result.andThen]
  exact setBlock_allocQ _ _ _
theorem look_mapQ {P : Program} {t k e : TypeId} {q : IntKind} (ht : P.underlying t = some (.map k e)) (hk : P.underlying k = some (.int q)) {w : World} {g : Nat} {es : Array MapEntry} {c : Nat} (hb : w.heap[g]? = some (.map es c)) (n : Int) (i : Nat) (v : Value) (hn : (Lit.int q n).wf = true) (hf : Instr.findNow (.int q) (.int q n) es.toList 0 = some (some (i, v))) :
    (Instr.lookup t (.map (some g)) (.int q n) true).run P w = .ok (.tuple #[v, .bool true]) w := by
  simp [Instr.lookup, run_underlying ht, MapKept.run_getObj_map hb, (int_keyed hk).check _ _ (keyOf_int_mk hk hn), Instr.findKey, run_underlying hk, hf, Result.andThen]
theorem look_noneQ {P : Program} {t k e : TypeId} {q : IntKind} (ht : P.underlying t = some (.map k e)) (hk : P.underlying k = some (.int q)) {w : World} {g : Nat} {es : Array MapEntry} {c : Nat} (hb : w.heap[g]? = some (.map es c)) (n : Int) (z : Value) (hz : (zeroValue e).run P w = .ok z w) (hn : (Lit.int q n).wf = true) (hf : Instr.findNow (.int q) (.int q n) es.toList 0 = some none) :
    (Instr.lookup t (.map (some g)) (.int q n) true).run P w = .ok (.tuple #[z, .bool false]) w := by
  simp [Instr.lookup, run_underlying ht, MapKept.run_getObj_map hb, (int_keyed hk).check _ _ (keyOf_int_mk hk hn), Instr.findKey, run_underlying hk, hf, hz, Result.andThen]
end Go.Proofs.Ytfpjmeknjhhakaa.K

/- A slice that came in lies in memory that is there, also where nothing is read of it. -/
namespace Go.Proofs.Ytfpjmeknjhhakaa.K
open Go Go.RowKit Go.WideShapes Go.ChangeShapes

set_option maxRecDepth 100000 in
theorem okWide_lay {W : World} {r : Reach} {b0 : Nat} {t e : TypeId} {A : Option Addr} {n c : Nat} (ht : Try.prog.underlying t = some (.slice e)) (h : Value.okWide Try.prog W r b0 t (.slice A n c)) : ∀ a, A = some a → a.block < W.heap.size := by
  rintro a rfl
  simp only [Value.okWide, ht, Cell.okWide, Cell.ok] at h
  obtain ⟨_, _, _, _, row, cells, hs, _⟩ := h
  unfold World.shape? at hs
  cases hg : W.heap[a.block]? with
  | none => rw [hg] at hs; cases hs
  | some o => exact (Array.getElem?_eq_some_iff.1 hg).1
set_option maxRecDepth 100000 in
/-- a word that came in -/
theorem open_u32 {H : Type} {enc : TypeId × Value → H} {W : World} {base b0 : Nat} {sp : Nat → Bool} {held : Bool} {r : Reach} {v : Value} {d : DataW H} {p : List MemPlace} (hv : Value.okWide Try.prog W r b0 40 v) (h : DataW.Trod enc Try.prog W base sp held 40 v d p) : ∃ x : BitVec 32, v = W32 x := by
  obtain ⟨n, rfl, _, _, hw⟩ := open_int Try.underlying40 hv h
  have h' : 0 ≤ n ∧ n < 4294967296 := by
    simp [Lit.wf, IntKind.min, IntKind.max, IntKind.bits, IntKind.signed] at hw
    omega
  refine ⟨BitVec.ofInt 32 n, ?_⟩
  simp only [W32, BitVec.toNat_ofInt, Value.int.injEq, true_and]
  omega
end Go.Proofs.Ytfpjmeknjhhakaa.K

/- How long a store's entries may be. No program in sight. -/
namespace Go.Proofs.Ytfpjmeknjhhakaa.S
open Go.Proofs.Ytfpjmeknjhhakaa

def rlen : M.Rdr → Nat
  | none => 0
  | some l => l.length
theorem rdNumber_len (s : M.Rdr) : rlen (M.rdNumber s).2 ≤ rlen s := by
  cases s with
  | none => exact Nat.le_refl _
  | some l =>
    unfold M.rdNumber
    simp only
    split
    · exact Nat.zero_le _
    · simp [rlen]
theorem rdBytes_len (s : M.Rdr) : (M.rdBytes s).1.length ≤ rlen s := by
  have h := rdNumber_len s
  unfold M.rdBytes
  cases hx : M.rdNumber s with
  | mk n t =>
    rw [hx] at h
    cases t with
    | none => simp
    | some l =>
      simp only
      split
      · simp
      · rw [List.length_take]
        have h2 : l.length ≤ rlen s := h
        omega
theorem rdEntry_len (s : M.Rdr) : (M.rdEntry s).1.data.length ≤ rlen s := by
  unfold M.rdEntry
  simp only
  split
  · simp [M.zeroEnt]
  · refine Nat.le_trans (rdBytes_len _) ?_
    exact Nat.le_trans (rdNumber_len _) (Nat.le_trans (rdNumber_len _) (Nat.le_trans (rdNumber_len _) (Nat.le_trans (rdNumber_len _) (rdNumber_len _))))
/-- entries of no more than so many bytes -/
def Small (m : Nat) (s : St) : Prop := ∀ e ∈ s.l, e.data.length ≤ m
theorem sdo_small {m : Nat} {s t : St} {f : F.Fr} (h : sdo s f = some t) (hs : Small m s) (hf : f.data.length ≤ m) : Small m t := by
  unfold sdo at h
  split at h
  · unfold sset at h
    split at h
    · cases h; exact hs
    · cases h
  · split at h
    · unfold sstand at h
      split at h
      · cases h
        intro e he
        rcases List.mem_append.1 he with he | he
        · exact hs e (List.mem_of_mem_take he)
        · rw [List.mem_singleton] at he
          subst he
          refine Nat.le_trans (rdEntry_len _) (Nat.le_trans (rdNumber_len _) hf)
      · cases h
    · cases h
theorem sdos_small {m : Nat} : ∀ (fs : List F.Fr) {s t : St}, sdos s fs = some t → Small m s → (∀ f ∈ fs, f.data.length ≤ m) → Small m t
  | [], s, t, h, hs, _ => by cases h; exact hs
  | f :: fs, s, t, h, hs, hf => by
    unfold sdos at h
    cases hx : sdo s f with
    | none => rw [hx] at h; cases h
    | some u =>
      rw [hx] at h
      exact sdos_small fs h (sdo_small hx hs (hf f (List.mem_cons_self ..))) (fun g hg => hf g (List.mem_cons_of_mem _ hg))
theorem zero_small (m : Nat) : Small m zero := fun _ h => by cases h
/-- frames that were scanned -/
theorem scan_frames (b : List B) : ∀ f ∈ (F.scan b).1, 0 ≤ f.kind ∧ f.kind ≤ 255 ∧ f.data.length ≤ 262144 := fun f hf => (F.errOf_ok f).1 ((F.perr_zero _).1 (F.scan_back b.length b (Nat.le_refl _)).1 f hf)
theorem sread_small {b : List B} {s : St} {u : Nat} (h : sread b = some (s, u)) : Small 262144 s := by
  unfold sread at h
  split at h
  · cases h
  · cases hx : sdos zero (F.scan b).1 with
    | none => rw [hx] at h; cases h
    | some t =>
      rw [hx] at h
      cases h
      exact sdos_small _ hx (zero_small _) (fun f hf => (scan_frames b f hf).2.2)
end Go.Proofs.Ytfpjmeknjhhakaa.S
