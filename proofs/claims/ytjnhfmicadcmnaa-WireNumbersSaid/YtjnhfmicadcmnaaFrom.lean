/- Contracts told from a world in the past: what was read there is read here, if nothing of it has changed. -/
import Derived.Test.YtjnhfmicadcmnaaWireAwake
import Derived.Test.YtjnhfmicadcmnaaKitEntry
import Derived.Test.YtjnhfmicadcmnaaRefEntry
import Derived.Test.YtjnhfmicadcmnaaLit
import Derived.Deep.RegionHeld3
import Derived.Deep.DeepCutAuto
namespace Go.Proofs.Ytjnhfmicadcmnaa.K
open Go Go.RowKit

theorem num_made (n : Int) (w : World) : Calls Try.prog 11 #[.int .i64 n] w (Made w (M.num n)) :=
  (wnum_any n w).mono fun e w' ⟨g, he, ho, hb⟩ => ⟨g, 8, 8, he, rfl, ho, hb⟩
theorem rnum_made (n : Int) (w : World) : Calls Try.prog 14 #[.int .i64 n] w (Made w (M.num n)) :=
  (rnum_any n w).mono fun e w' ⟨g, c, he, ho, hb⟩ => ⟨g, 8, c, he, rfl, ho, hb⟩
theorem bytes_made {w0 : World} {A : Option Addr} {n c : Nat} {bs : List (BitVec 8)} (hr : RowRd w0 ⟨A, n, c⟩ bs) (hn : n ≤ 1000000000000) {w : World} (h : Since w0 w) : Calls Try.prog 12 #[.slice A n c] w (Made w (M.blob bs)) :=
  (wbytes_any A n c bs w (h.row hr) (by omega)).mono fun e w' ⟨g, N, c', he, hN, ho, hb⟩ => ⟨g, N, c', he, by rw [M.blob_length, hr.len]; exact hN, ho, hb⟩
theorem rbytes_made {w0 : World} {A : Option Addr} {n c : Nat} {bs : List (BitVec 8)} (hr : RowRd w0 ⟨A, n, c⟩ bs) (hn : n ≤ 1000000000000) {w : World} (h : Since w0 w) : Calls Try.prog 15 #[.slice A n c] w (Made w (M.blob bs)) :=
  (rbytes_any A n c bs w (h.row hr) (by omega)).mono fun e w' ⟨g, N, c', he, hN, ho, hb⟩ => ⟨g, N, c', he, by rw [M.blob_length, hr.len]; exact hN, ho, hb⟩
theorem entry_made {w0 : World} {e : M.Ent} {A : Option Addr} {n c : Nat} (hr : RowRd w0 ⟨A, n, c⟩ e.data) (hn : n ≤ 1000000000000) {w : World} (h : Since w0 w) : Calls Try.prog 13 #[.agg #[.int .i64 e.term, B8 e.kind, .int .i64 e.version, .int .i64 e.server, .bool e.good, .slice A n c]] w (Made w (M.ent e)) :=
  (wentry_any e.term _ e.version e.server _ e.kind e.good A n c e.data w (h.row hr) hn rfl rfl).mono fun _ _ ⟨g, N, c', he, hN, ho, hb⟩ => ⟨g, N, c', he, hN, ho, hb⟩
theorem rentry_made {w0 : World} {e : M.Ent} {A : Option Addr} {n c : Nat} (hr : RowRd w0 ⟨A, n, c⟩ e.data) (hn : n ≤ 1000000000000) {w : World} (h : Since w0 w) : Calls Try.prog 16 #[.agg #[.int .i64 e.term, B8 e.kind, .int .i64 e.version, .int .i64 e.server, .bool e.good, .slice A n c]] w (Made w (M.ent e)) :=
  (rentry_any e.term _ e.version e.server e.kind e.good A n c e.data w (h.row hr) hn rfl).mono fun _ _ ⟨g, N, c', he, hN, ho, hb⟩ => ⟨g, N, c', he, hN, ho, hb⟩
/-- the cells of a boxed entry, in a world -/
abbrev BoxE (w : World) (b : Nat) (t v s : Int) (K : BitVec 8) (G : Bool) (A : Option Addr) (n c : Nat) : Prop :=
  w.cell? ⟨b, 0, none⟩ = some (.int .i64 t) ∧ w.cell? ⟨b, 1, none⟩ = some (B8 K) ∧ w.cell? ⟨b, 2, none⟩ = some (.int .i64 v) ∧ w.cell? ⟨b, 3, none⟩ = some (.int .i64 s) ∧ w.cell? ⟨b, 4, none⟩ = some (.bool G) ∧ w.cell? ⟨b, 5, none⟩ = some (.slice A n c)
theorem boxE_of {w : World} {b : Nat} {t v s : Int} {K : BitVec 8} {G : Bool} {A : Option Addr} {n c : Nat} (h : w.heap[b]? = some (.cells (entL t v s K G A n c).toArray 25 (0, 0))) : BoxE w b t v s K G A n c :=
  ⟨block_cell h rfl, block_cell h rfl, block_cell h rfl, block_cell h rfl, block_cell h rfl, block_cell h rfl⟩
theorem boxE_since {w0 w : World} {b : Nat} {t v s : Int} {K : BitVec 8} {G : Bool} {A : Option Addr} {n c : Nat} (h : w0.heap[b]? = some (.cells (entL t v s K G A n c).toArray 25 (0, 0))) (hs : Since w0 w) : BoxE w b t v s K G A n c := boxE_of (hs.at h)

/-- an entry's block that was made ahead of what was called since -/
def ZeroAt (w : World) (X : Nat) : Prop := w.heap[X]? = some (.cells (entL 0 0 0 0#8 false none 0 0).toArray 25 (0, 0))
theorem ZeroAt.new (w : World) : ZeroAt (w.alloc (.cells #[.int .i64 0, .int .u8 0, .int .i64 0, .int .i64 0, .bool false, .slice none 0 0] 25)) w.heap.size := heap_alloc_new w _
theorem ZeroAt.since {w w' : World} {X : Nat} (h : ZeroAt w X) (hb : Below w.heap.size w w') : ZeroAt w' X := Since.at hb h
theorem ZeroAt.cells {w : World} {X : Nat} (h : ZeroAt w X) : w.cell? ⟨X, 0, none⟩ = some (.int .i64 0) ∧ w.cell? ⟨X, 1, none⟩ = some (.int .u8 0) ∧ w.cell? ⟨X, 2, none⟩ = some (.int .i64 0) ∧ w.cell? ⟨X, 3, none⟩ = some (.int .i64 0) ∧ w.cell? ⟨X, 4, none⟩ = some (.bool false) ∧ w.cell? ⟨X, 5, none⟩ = some (.slice none 0 0) :=
  ⟨block_cell h rfl, block_cell h rfl, block_cell h rfl, block_cell h rfl, block_cell h rfl, block_cell h rfl⟩
theorem ZeroAt.free {w : World} {X : Nat} (h : ZeroAt w X) : w.frozen? ⟨X, 0, none⟩ = false ∧ w.frozen? ⟨X, 1, none⟩ = false ∧ w.frozen? ⟨X, 2, none⟩ = false ∧ w.frozen? ⟨X, 3, none⟩ = false ∧ w.frozen? ⟨X, 4, none⟩ = false ∧ w.frozen? ⟨X, 5, none⟩ = false :=
  ⟨frozen_of_row w X 0 _ _ h, frozen_of_row w X 1 _ _ h, frozen_of_row w X 2 _ _ h, frozen_of_row w X 3 _ _ h, frozen_of_row w X 4 _ _ h, frozen_of_row w X 5 _ _ h⟩
theorem Since.set6 {w0 w : World} (h : Since w0 w) {X : Nat} (hX : w0.heap.size ≤ X) (a b c d e f : Value) : Since w0 ((((((w.setCell ⟨X, 0, none⟩ a).setCell ⟨X, 1, none⟩ b).setCell ⟨X, 2, none⟩ c).setCell ⟨X, 3, none⟩ d).setCell ⟨X, 4, none⟩ e).setCell ⟨X, 5, none⟩ f) :=
  Since.set (Since.set (Since.set (Since.set (Since.set (Since.set h hX 0 a) hX 1 b) hX 2 c) hX 3 d) hX 4 e) hX 5 f
theorem set6_other {w : World} {X g : Nat} (h : X ≠ g) (a b c d e f : Value) : ((((((w.setCell ⟨X, 0, none⟩ a).setCell ⟨X, 1, none⟩ b).setCell ⟨X, 2, none⟩ c).setCell ⟨X, 3, none⟩ d).setCell ⟨X, 4, none⟩ e).setCell ⟨X, 5, none⟩ f).heap[g]? = w.heap[g]? := by
  rw [heap_setCell_other _ _ _ _ (by simp; omega), heap_setCell_other _ _ _ _ (by simp; omega), heap_setCell_other _ _ _ _ (by simp; omega), heap_setCell_other _ _ _ _ (by simp; omega), heap_setCell_other _ _ _ _ (by simp; omega), heap_setCell_other _ _ _ _ (by simp; omega)]
theorem set6_at {w : World} {X : Nat} (h : ZeroAt w X) (t v s : Int) (K : BitVec 8) (G : Bool) (A : Option Addr) (n c : Nat) : ((((((w.setCell ⟨X, 0, none⟩ (.int .i64 t)).setCell ⟨X, 1, none⟩ (B8 K)).setCell ⟨X, 2, none⟩ (.int .i64 v)).setCell ⟨X, 3, none⟩ (.int .i64 s)).setCell ⟨X, 4, none⟩ (.bool G)).setCell ⟨X, 5, none⟩ (.slice A n c)).heap[X]? = some (.cells (entL t v s K G A n c).toArray 25 (0, 0)) :=
  block_set (block_set (block_set (block_set (block_set (block_set h 0 _) 1 _) 2 _) 3 _) 4 _) 5 _
/-- a lent entry -/
def Lent2 (w0 : World) (t v s : Int) (K : BitVec 8) (G : Bool) (n : Nat) (bs : List (BitVec 8)) (e : Ending) (w' : World) : Prop := ∃ g, e = .returned (.agg #[.int .i64 t, B8 K, .int .i64 v, .int .i64 s, .bool G, .slice (some ⟨g, 0, none⟩) n (n + 12)]) ∧ w0.heap.size ≤ g ∧ w'.heap[g]? = some (.cells (bv (bs ++ marks 1 0 12)).toArray 5 (0, 0)) ∧ Since w0 w'
theorem lentE_from (w0 : World) (t v s : Int) (K : BitVec 8) (G : Bool) (A : Option Addr) (n c : Nat) (bs : List (BitVec 8)) (hr : RowRd w0 ⟨A, n, c⟩ bs) (hn2 : n ≤ 140737488000000) {w : World} (h : Since w0 w) :
    Calls Try.prog 10 #[.agg #[.int .i64 t, B8 K, .int .i64 v, .int .i64 s, .bool G, .slice A n c]] w (Lent2 w t v s K G n bs) :=
  (LentEntry_any t v s K G A n c bs w (h.row hr) hn2).mono fun e w' ⟨g, he, hg, hb, hbe⟩ => ⟨g, he, hg, hb, hbe⟩
/-- the same, an entry's block having been made just ahead -/
theorem lent_fromZ (w0 : World) (A : Option Addr) (n c : Nat) (bs : List (BitVec 8)) (hr : RowRd w0 ⟨A, n, c⟩ bs) (hn2 : n ≤ 140737488000000) {w : World} (h : Since w0 (w.alloc (.cells #[.int .i64 0, .int .u8 0, .int .i64 0, .int .i64 0, .bool false, .slice none 0 0] 25))) :
    Calls Try.prog 9 #[.slice A n c] (w.alloc (.cells #[.int .i64 0, .int .u8 0, .int .i64 0, .int .i64 0, .bool false, .slice none 0 0] 25)) fun e w' => Lent1 (w.alloc (.cells #[.int .i64 0, .int .u8 0, .int .i64 0, .int .i64 0, .bool false, .slice none 0 0] 25)) n bs e w' ∧ ZeroAt w' w.heap.size :=
  (lent_from w0 A n c bs hr hn2 h).mono fun e w' h => ⟨h, by obtain ⟨_, _, _, _, hb⟩ := h; exact (ZeroAt.new w).since hb⟩
theorem lent_fromZd (w0 : World) (A : Option Addr) (n c : Nat) (bs : List (BitVec 8)) (hr : RowRd w0 ⟨A, n, c⟩ bs) (hn2 : n ≤ 140737488000000) {w : World} (h : Since w0 (w.alloc (.cells #[.int .i64 0, .int .u8 0, .int .i64 0, .int .i64 0, .bool false, .slice none 0 0] 25)).drew) :
    Calls Try.prog 9 #[.slice A n c] (w.alloc (.cells #[.int .i64 0, .int .u8 0, .int .i64 0, .int .i64 0, .bool false, .slice none 0 0] 25)).drew fun e w' => Lent1 (w.alloc (.cells #[.int .i64 0, .int .u8 0, .int .i64 0, .int .i64 0, .bool false, .slice none 0 0] 25)).drew n bs e w' ∧ ZeroAt w' w.heap.size :=
  (lent_from w0 A n c bs hr hn2 h).mono fun e w' h => ⟨h, by obtain ⟨_, _, _, _, hb⟩ := h; exact (show ZeroAt (w.alloc (.cells #[.int .i64 0, .int .u8 0, .int .i64 0, .int .i64 0, .bool false, .slice none 0 0] 25)).drew w.heap.size from ZeroAt.new w).since hb⟩
theorem lentE_fromZ (w0 : World) (t v s : Int) (K : BitVec 8) (G : Bool) (A : Option Addr) (n c : Nat) (bs : List (BitVec 8)) (hr : RowRd w0 ⟨A, n, c⟩ bs) (hn2 : n ≤ 140737488000000) {w : World} (h : Since w0 (w.alloc (.cells #[.int .i64 0, .int .u8 0, .int .i64 0, .int .i64 0, .bool false, .slice none 0 0] 25))) :
    Calls Try.prog 10 #[.agg #[.int .i64 t, B8 K, .int .i64 v, .int .i64 s, .bool G, .slice A n c]] (w.alloc (.cells #[.int .i64 0, .int .u8 0, .int .i64 0, .int .i64 0, .bool false, .slice none 0 0] 25)) fun e w' => Lent2 (w.alloc (.cells #[.int .i64 0, .int .u8 0, .int .i64 0, .int .i64 0, .bool false, .slice none 0 0] 25)) t v s K G n bs e w' ∧ ZeroAt w' w.heap.size :=
  (lentE_from w0 t v s K G A n c bs hr hn2 h).mono fun e w' h => ⟨h, by obtain ⟨_, _, _, _, hb⟩ := h; exact (ZeroAt.new w).since hb⟩
end Go.Proofs.Ytjnhfmicadcmnaa.K
