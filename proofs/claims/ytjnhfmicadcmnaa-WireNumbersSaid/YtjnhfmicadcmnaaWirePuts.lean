/- The law WirePuts as a function: it answers true. -/
import Derived.Test.YtjnhfmicadcmnaaJoinLit
namespace Go.Proofs.Ytjnhfmicadcmnaa.K
open Go Go.RowKit

theorem le_blob {N n : Nat} {bs : List (BitVec 8)} (h : N = (M.blob bs).length) (hl : bs.length = n) (hn : n ≤ 20000) : N ≤ 20008 := by
  rw [h, M.blob_length, hl]; omega
theorem le_ent {N n : Nat} {e : M.Ent} (h : N = (M.ent e).length) (hl : e.data.length = n) (hn : n ≤ 20000) : N ≤ 20048 := by
  rw [h, M.ent_length, hl]; omega
/-- behind the lending -/
def Puts1 (w0 : World) (n1 : Nat) (bs : List (BitVec 8)) (e : M.Ent) (m : Nat) (s7 s8 : Value) (w : World) : Prop :=
  ∃ g1 g2 X, s7 = .slice (some ⟨g1, 0, none⟩) n1 (n1 + 12) ∧ s8 = .pointer (some ⟨X, 0, none⟩) ∧ w0.heap.size ≤ g1 ∧ w0.heap.size ≤ g2 ∧ w0.heap.size ≤ X ∧ w.heap[g1]? = some (.cells (bv (bs ++ marks 1 0 12)).toArray 5 (0, 0)) ∧
    w.heap[g2]? = some (.cells (bv (e.data ++ marks 1 0 12)).toArray 5 (0, 0)) ∧ w.heap[X]? = some (.cells (entL e.term e.version e.server e.kind e.good (some ⟨g2, 0, none⟩) m (m + 12)).toArray 25 (0, 0)) ∧ Since w0 w

theorem puts1_set {w0 w2 : World} {n1 m g1 g2 X : Nat} {bs : List (BitVec 8)} {e : M.Ent} (hs : Since w0 w2) (hz : ZeroAt w2 X) (h1 : w2.heap[g1]? = some (.cells (bv (bs ++ marks 1 0 12)).toArray 5 (0, 0))) (h2 : w2.heap[g2]? = some (.cells (bv (e.data ++ marks 1 0 12)).toArray 5 (0, 0)))
    (hX : w0.heap.size ≤ X) (l1 : w0.heap.size ≤ g1) (l2 : w0.heap.size ≤ g2) (x1 : X ≠ g1) (x2 : X ≠ g2) :
    Puts1 w0 n1 bs e m (.slice (some ⟨g1, 0, none⟩) n1 (n1 + 12)) (.pointer (some ⟨X, 0, none⟩)) ((((((w2.setCell ⟨X, 0, none⟩ (.int .i64 e.term)).setCell ⟨X, 1, none⟩ (B8 e.kind)).setCell ⟨X, 2, none⟩ (.int .i64 e.version)).setCell ⟨X, 3, none⟩ (.int .i64 e.server)).setCell ⟨X, 4, none⟩ (.bool e.good)).setCell ⟨X, 5, none⟩ (.slice (some ⟨g2, 0, none⟩) m (m + 12))) :=
  ⟨g1, g2, X, rfl, rfl, l1, l2, hX, (set6_other x1 _ _ _ _ _ _).trans h1, (set6_other x2 _ _ _ _ _ _).trans h2, set6_at hz _ _ _ _ _ _ _ _, Since.set6 hs hX _ _ _ _ _ _⟩
/-- a row that reads -/
def ReadsRow (w0 : World) (bs : List (BitVec 8)) (s : Value) (w : World) : Prop := ∃ A N c, s = .slice A N c ∧ RowRd w ⟨A, N, c⟩ bs ∧ Since w0 w
set_option maxHeartbeats 4000000 in
set_option maxRecDepth 100000 in
theorem wputs_any (n : Int) (A : Option Addr) (n1 c1 : Nat) (bs : List (BitVec 8)) (e : M.Ent) (B : Option Addr) (m d : Nat) (w : World) (hb : RowRd w ⟨A, n1, c1⟩ bs) (he : RowRd w ⟨B, m, d⟩ e.data) (hn : n1 ≤ 9223372036854775807) (hm : m ≤ 9223372036854775807) :
    Calls Try.prog 3 #[.int .i64 n, .slice A n1 c1, .agg #[.int .i64 e.term, B8 e.kind, .int .i64 e.version, .int .i64 e.server, .bool e.good, .slice B m d]] w fun e w' => e = .returned (.bool true) ∧ Below w.heap.size w w' := by
  have h0 := (Below.refl w.heap.size w).alloc (Nat.le_refl _) (.cells (entL e.term e.version e.server e.kind e.good B m d).toArray 25)
  have hbox := heap_alloc_new w (.cells (entL e.term e.version e.server e.kind e.good B m d).toArray 25)
  have hc5 : (w.alloc (.cells (entL e.term e.version e.server e.kind e.good B m d).toArray 25)).cell? ⟨w.heap.size, 5, none⟩ = some (.slice B m d) := block_cell hbox rfl
  have hbx := boxE_of hbox
  have HB := Lib.hid (hb.below h0); have HE := Lib.hid (he.below h0); have H0 := Lib.hid h0; have HBOX := Lib.hid hbox; have HBX := Lib.hid hbx
  clear hb he h0 hbox hbx
  by_cases hbig : 20000 < n1 ∨ 20000 < m
  · clear HB HE HBOX HBX
    by_cases h1 : 20000 < n1
    · have e1 : (20000 : Int) < (n1 : Int) := by omega
      go_enter Try.func3, Try.ntmps3
      go_wp2_with fail
      refine (awake_any _).mono ?_
      rintro e w1 ⟨rfl, hb⟩
      have SZ := Lib.hid (H0.out.trans (hb.mono H0.out.size))
      clear hb
      go_wp2
      go_ret
      exact ⟨rfl, SZ.out⟩
    · have e1 : ¬ (20000 : Int) < (n1 : Int) := by omega
      have d1 : decide ((20000 : Int) < (n1 : Int)) = false := by simpa using e1
      have e2 : (20000 : Int) < (m : Int) := by omega
      go_enter Try.func3, Try.ntmps3
      go_wp2_with fail
      refine (awake_any _).mono ?_
      rintro e w1 ⟨rfl, hb⟩
      have SZ := Lib.hid (H0.out.trans (hb.mono H0.out.size))
      clear hb
      go_wp2
      go_ret
      exact ⟨rfl, SZ.out⟩
  · have hs1 : ¬ (20000 : Int) < (n1 : Int) := by omega
    have hs2 : ¬ (20000 : Int) < (m : Int) := by omega
    have hd1 : decide ((20000 : Int) < (n1 : Int)) = false := by simpa using hs1
    have hd2 : decide ((20000 : Int) < (m : Int)) = false := by simpa using hs2
    go_enter Try.func3, Try.ntmps3
    go_upto_region 3 with fail
    change Code.wp _ _ _ _ (w.alloc (.cells (entL e.term e.version e.server e.kind e.good B m d).toArray 25))
    generalize hw0 : w.alloc (.cells (entL e.term e.version e.server e.kind e.good B m d).toArray 25) = w0 at *
    have hz0 : w.heap.size < w0.heap.size := by rw [← hw0]; simp
    clear hw0
    go_cut [7, 8] (fun s7 s8 wx => Puts1 w0 n1 bs e m s7 s8 wx)
    case first =>
      have hsd : Since w0 w0.drew := Since.drew (Below.refl _ _)
      have hsa : Since w0 (w0.alloc (.cells #[.int .i64 0, .int .u8 0, .int .i64 0, .int .i64 0, .bool false, .slice none 0 0] 25)).drew := Since.drew (Since.alloc (Below.refl _ _) _)
      go_region_held3 (fun w' => Since w0 w' ∧ w'.cell? ⟨w.heap.size, 0, none⟩ = some (.int .i64 e.term) ∧ w'.cell? ⟨w.heap.size, 1, none⟩ = some (B8 e.kind) ∧ w'.cell? ⟨w.heap.size, 2, none⟩ = some (.int .i64 e.version) ∧ w'.cell? ⟨w.heap.size, 3, none⟩ = some (.int .i64 e.server) ∧ w'.cell? ⟨w.heap.size, 4, none⟩ = some (.bool e.good) ∧ w'.cell? ⟨w.heap.size, 5, none⟩ = some (.slice B m d))
        (first
          | with_reducible exact ⟨hsd, boxE_since HBOX.out (hsd)⟩
          | with_reducible exact ⟨hse2, boxE_since HBOX.out (hse2)⟩
          | with_reducible exact ⟨hse1, boxE_since HBOX.out (hse1)⟩
          | with_reducible exact ⟨Since.alloc hse2 _, boxE_since HBOX.out (Since.alloc hse2 _)⟩
          | with_reducible exact ⟨Since.alloc hse1 _, boxE_since HBOX.out (Since.alloc hse1 _)⟩
          | with_reducible exact ⟨Since.set6 hse2 (by omega) _ _ _ _ _ _, boxE_since HBOX.out (Since.set6 hse2 (by omega) _ _ _ _ _ _)⟩
          | with_reducible exact ⟨hsa, boxE_since HBOX.out (hsa)⟩)
        (first
          | (go_at_call 9; go_split_ands; ((with_reducible refine (lent_fromZ w0 A n1 c1 bs HB.out (by omega) (by assumption)).mono ?_); rintro e w1 ⟨⟨g1, rfl, hg1, hb1, hbe1⟩, hz1'⟩; have hse1 := Since.add (by assumption) hbe1; have hzz1 := hse1.size))
          | (go_at_call 9; go_split_ands; ((with_reducible refine (lent_fromZd w0 A n1 c1 bs HB.out (by omega) (by assumption)).mono ?_); rintro e w1 ⟨⟨g1, rfl, hg1, hb1, hbe1⟩, hz1'⟩; have hse1 := Since.add (by assumption) hbe1; have hzz1 := hse1.size))
          | (go_at_call 9; go_split_ands; ((with_reducible refine (lent_from w0 A n1 c1 bs HB.out (by omega) (by assumption)).mono ?_); rintro e w1 ⟨g1, rfl, hg1, hb1, hbe1⟩; have hse1 := Since.add (by assumption) hbe1; have hzz1 := hse1.size))
          | (go_at_call 10; go_split_ands; ((with_reducible refine (lentE_fromZ w0 e.term e.version e.server e.kind e.good B m d e.data HE.out (by omega) (by assumption)).mono ?_); rintro e w2 ⟨⟨g2, rfl, hg2, hb2, hbe2⟩, hz2'⟩; have hse2 := Since.add (by assumption) hbe2; have hzz2 := hse2.size; obtain ⟨z0, z1, z2, z3, z4, z5⟩ := ZeroAt.cells hz2'; obtain ⟨y0, y1, y2, y3, y4, y5⟩ := ZeroAt.free hz2'))
          | (go_at_call 10; go_split_ands; ((with_reducible refine (lentE_from w0 e.term e.version e.server e.kind e.good B m d e.data HE.out (by omega) (by assumption)).mono ?_); rintro e w2 ⟨g2, rfl, hg2, hb2, hbe2⟩; have hse2 := Since.add (by assumption) hbe2; have hzz2 := hse2.size; have hz2' := ZeroAt.since hz1' hbe2; obtain ⟨z0, z1, z2, z3, z4, z5⟩ := ZeroAt.cells hz2'; obtain ⟨y0, y1, y2, y3, y4, y5⟩ := ZeroAt.free hz2'))
          | (go_at_call 10; go_split_ands; ((with_reducible refine (lentE_from w0 e.term e.version e.server e.kind e.good B m d e.data HE.out (by omega) (by assumption)).mono ?_); rintro e w2 ⟨g2, rfl, hg2, hb2, hbe2⟩; have hse2 := Since.add (by assumption) hbe2; have hzz2 := hse2.size)))
      · have h1 := Since.at hbe2 hb1
        have l2 : w0.heap.size ≤ g2 := Nat.le_trans hzz1 hg2
        have hfin : Puts1 w0 n1 bs e m (.slice (some ⟨g1, 0, none⟩) n1 (n1 + 12)) (.pointer (some ⟨w2.heap.size, 0, none⟩)) (w2.alloc (.cells (entL e.term e.version e.server e.kind e.good (some ⟨g2, 0, none⟩) m (m + 12)).toArray 25)) :=
          ⟨g1, g2, w2.heap.size, rfl, rfl, hg1, l2, hzz2, (heap_alloc_old _ _ (lt_of_row h1)).trans h1, (heap_alloc_old _ _ (lt_of_row hb2)).trans hb2, heap_alloc_new w2 _, Since.alloc hse2 _⟩
        have HFIN := Lib.hid hfin
        clear hfin h1
        go_wp2_with fail
        go_meet
        exact HFIN.out
      · have q1 := lt_of_row hb1
        have h1 := Since.at hbe2 ((heap_alloc_old w1 (.cells #[.int .i64 0, .int .u8 0, .int .i64 0, .int .i64 0, .bool false, .slice none 0 0] 25) q1).trans hb1)
        have hsz : (w1.alloc (.cells #[.int .i64 0, .int .u8 0, .int .i64 0, .int .i64 0, .bool false, .slice none 0 0] 25)).heap.size = w1.heap.size + 1 := by simp
        have HFIN := Lib.hid (puts1_set (n1 := n1) (m := m) hse2 hz2' h1 hb2 hzz1 hg1 (by omega) (by omega) (by omega))
        clear h1 hsz
        go_wp2_with fail
        go_meet
        exact HFIN.out
      · have h1 := Since.at hbe2 hb1
        have hsz : (w0.alloc (.cells #[.int .i64 0, .int .u8 0, .int .i64 0, .int .i64 0, .bool false, .slice none 0 0] 25)).drew.heap.size = w0.heap.size + 1 := by simp
        have hq := hbe1.size
        have HFIN := Lib.hid (puts1_set (n1 := n1) (m := m) hse2 hz2' h1 hb2 (Nat.le_refl _) (by omega) (by omega) (by omega) (by omega))
        clear h1 hsz
        go_wp2_with fail
        go_meet
        exact HFIN.out
    case rest =>
      obtain ⟨g1, g2, X, rfl, rfl, l1, l2, lX, hb1, hb2, hX, hs⟩ := hcut
      have HLB := Lib.hid (show bs.length = n1 from HB.out.len); have HLE := Lib.hid (show e.data.length = m from HE.out.len)
      have HIN := Lib.hid (lent_row hb1 HLB.out); have HXD := Lib.hid (lent_row hb2 HLE.out)
      have HX := Lib.hid hX; have HG1 := Lib.hid hb1; have HG2 := Lib.hid hb2; have HS := Lib.hid hs
      clear hb1 hb2 hX hs
      go_upto_region 4 with fail
      have hsd4 : Since wc wc.drew := Since.drew (Below.refl _ _)
      have hB := Bank.nil hsd4
      go_region_held3 (fun w' => Since wc w' ∧ w'.cell? ⟨X, 0, none⟩ = some (.int .i64 e.term) ∧ w'.cell? ⟨X, 1, none⟩ = some (B8 e.kind) ∧ w'.cell? ⟨X, 2, none⟩ = some (.int .i64 e.version) ∧ w'.cell? ⟨X, 3, none⟩ = some (.int .i64 e.server) ∧ w'.cell? ⟨X, 4, none⟩ = some (.bool e.good) ∧ w'.cell? ⟨X, 5, none⟩ = some (.slice (some ⟨g2, 0, none⟩) m (m + 12)))
        (first
          | with_reducible exact ⟨hB.since, boxE_since HX.out hB.since⟩)
        (first
          | (go_at_call 11; (with_reducible refine calls_bank hB ?_); intro hB; refine (num_made n _).mono ?_; rintro e w1 ⟨gp, Np, cp, rfl, hNp, hop, hbp⟩; have hB := hB.madeB hbp hop; have HNp := Lib.hid hNp; clear hNp)
          | (go_at_call 12; (with_reducible refine calls_bank hB ?_); intro hB; refine (bytes_made HIN.out (by omega) hB.since).mono ?_; rintro e w1 ⟨gq, Nq, cq, rfl, hNq, hoq, hbq⟩; have hB := hB.madeB hbq hoq; have HNq := Lib.hid hNq; clear hNq)
          | (go_at_call 13; (with_reducible refine calls_bank hB ?_); intro hB; refine (entry_made HXD.out (by omega) hB.since).mono ?_; rintro e w5 ⟨gr, Nr, cr, rfl, hNr, hor, hbr⟩; have hB := hB.madeB hbr hor; have HNr := Lib.hid hNr; clear hNr))
      have hnp : Np ≤ 8 := by have := HNp.out; rw [M.num_length] at this; omega
      have hnq : Nq ≤ 20008 := by have := HNq.out; rw [M.blob_length, HLB.out] at this; omega
      have hnr : Nr ≤ 20048 := by have := HNr.out; rw [M.ent_length, HLE.out] at this; omega
      have HBANK := Lib.hid hB
      have HS5 := Lib.hid (HS.out.trans (hB.since.mono HS.out.size))
      have HB5 := Lib.hid (Since.row HS5.out HB.out); have HE5 := Lib.hid (Since.row HS5.out HE.out); have HBOX5 := Lib.hid (Since.at HS5.out HBOX.out)
      clear hB
      go_upto_region 5 with fail
      go_cut [12] (fun s12 wx => ReadsRow w5 (M.num n ++ M.blob bs ++ M.ent e) s12 wx)
      case first =>
        have hB0 : Bank w5 w5 [] := Bank.nil (Below.refl _ _)
        have hB := hB0.drew
        go_region_held3 (fun w' => Since w5 w' ∧ w'.cell? ⟨w.heap.size, 0, none⟩ = some (.int .i64 e.term) ∧ w'.cell? ⟨w.heap.size, 1, none⟩ = some (B8 e.kind) ∧ w'.cell? ⟨w.heap.size, 2, none⟩ = some (.int .i64 e.version) ∧ w'.cell? ⟨w.heap.size, 3, none⟩ = some (.int .i64 e.server) ∧ w'.cell? ⟨w.heap.size, 4, none⟩ = some (.bool e.good) ∧ w'.cell? ⟨w.heap.size, 5, none⟩ = some (.slice B m d))
          (first
            | with_reducible exact ⟨hB.since, boxE_since HBOX5.out hB.since⟩
            | with_reducible exact ⟨(Bank.lit0 hB 5).since, boxE_since HBOX5.out (Bank.lit0 hB 5).since⟩
            | with_reducible exact ⟨(Bank.drew (Bank.lit0 hB0 5)).since, boxE_since HBOX5.out (Bank.drew (Bank.lit0 hB0 5)).since⟩)
          (first
            | (go_at_call 14; (first | ((with_reducible refine calls_bank (hB) ?_); intro hB) | ((with_reducible refine calls_bank (Bank.lit0 hB 5) ?_); intro hB) | ((with_reducible refine calls_bank (Bank.drew (Bank.lit0 hB0 5)) ?_); intro hB)); refine (rnum_made n _).mono ?_; rintro e w1 ⟨ga, Na, ca, rfl, hNa, hoa, hba⟩; have hB := hB.madeB hba hoa; have hna : Na ≤ 8 := Nat.le_of_eq (hNa.trans (M.num_length n)); clear hNa)
            | (go_at_call 15; (first | ((with_reducible refine calls_bank (hB) ?_); intro hB) | ((with_reducible refine calls_bank (Bank.lit0 hB 5) ?_); intro hB) | ((with_reducible refine calls_bank (Bank.drew (Bank.lit0 hB0 5)) ?_); intro hB)); refine (rbytes_made HB5.out (by omega) hB.since).mono ?_; rintro e w1 ⟨gb, Nb, cb, rfl, hNb, hob, hbb⟩; have hB := hB.madeB hbb hob; have hnb : Nb ≤ 20008 := le_blob hNb HLB.out (by omega); clear hNb)
            | (go_at_call 16; (first | ((with_reducible refine calls_bank (hB) ?_); intro hB) | ((with_reducible refine calls_bank (Bank.lit0 hB 5) ?_); intro hB) | ((with_reducible refine calls_bank (Bank.drew (Bank.lit0 hB0 5)) ?_); intro hB)); refine (rentry_made HE5.out (by omega) hB.since).mono ?_; rintro e w1 ⟨gc, Nc, cc, rfl, hNc, hoc, hbc⟩; have hB := hB.madeB hbc hoc; have hnc : Nc ≤ 20048 := le_ent hNc HLE.out (by omega); clear hNc)
            | ((first | ((with_reducible refine step_bank (hB) ?_); intro hB) | ((with_reducible refine step_bank (Bank.lit0 hB 5) ?_); intro hB) | ((with_reducible refine step_bank (Bank.drew (Bank.lit0 hB0 5)) ?_); intro hB)); (first
                | (refine step_append_bytes hB rfl _ _ 22 rfl 5 infoByte Try.underlying22 0 _ _ _ _ rfl rfl _ _ _ _ rfl (hB.row 1 rfl) (by omega) ?_)
                | (refine step_append_bytes hB rfl _ _ 22 rfl 5 infoByte Try.underlying22 0 _ _ _ _ rfl rfl _ _ _ _ rfl (hB.row 2 rfl) (by omega) ?_)
                | (refine step_append_bytes hB rfl _ _ 22 rfl 5 infoByte Try.underlying22 0 _ _ _ _ rfl rfl _ _ _ _ rfl (hB.row 3 rfl) (by omega) ?_)
                | (refine step_append_bytes hB rfl _ _ 22 rfl 5 infoByte Try.underlying22 1 _ _ _ _ rfl rfl _ _ _ _ rfl (hB.row 0 rfl) (by omega) ?_)
                | (refine step_append_bytes hB rfl _ _ 22 rfl 5 infoByte Try.underlying22 1 _ _ _ _ rfl rfl _ _ _ _ rfl (hB.row 2 rfl) (by omega) ?_)
                | (refine step_append_bytes hB rfl _ _ 22 rfl 5 infoByte Try.underlying22 1 _ _ _ _ rfl rfl _ _ _ _ rfl (hB.row 3 rfl) (by omega) ?_)
                | (refine step_append_bytes hB rfl _ _ 22 rfl 5 infoByte Try.underlying22 2 _ _ _ _ rfl rfl _ _ _ _ rfl (hB.row 0 rfl) (by omega) ?_)
                | (refine step_append_bytes hB rfl _ _ 22 rfl 5 infoByte Try.underlying22 2 _ _ _ _ rfl rfl _ _ _ _ rfl (hB.row 1 rfl) (by omega) ?_)
                | (refine step_append_bytes hB rfl _ _ 22 rfl 5 infoByte Try.underlying22 2 _ _ _ _ rfl rfl _ _ _ _ rfl (hB.row 3 rfl) (by omega) ?_)
                | (refine step_append_bytes hB rfl _ _ 22 rfl 5 infoByte Try.underlying22 3 _ _ _ _ rfl rfl _ _ _ _ rfl (hB.row 0 rfl) (by omega) ?_)
                | (refine step_append_bytes hB rfl _ _ 22 rfl 5 infoByte Try.underlying22 3 _ _ _ _ rfl rfl _ _ _ _ rfl (hB.row 1 rfl) (by omega) ?_)
                | (refine step_append_bytes hB rfl _ _ 22 rfl 5 infoByte Try.underlying22 3 _ _ _ _ rfl rfl _ _ _ _ rfl (hB.row 2 rfl) (by omega) ?_)); intro A' n' c' w' hn' hB; have hn'' := Nat.le_of_eq hn'; clear hn'; dsimp only [List.set] at hB))
        all_goals
          have hfin : ∃ A N c, Value.slice A' n' c' = .slice A N c ∧ RowRd w' ⟨A, N, c⟩ (M.num n ++ M.blob bs ++ M.ent e) ∧ Since w5 w' := ⟨_, _, _, rfl, by first | exact hB.row 3 rfl | exact hB.row 2 rfl, hB.since⟩
          have HFIN := Lib.hid hfin
          clear hfin hB
          go_wp2_with fail
          go_meet
          exact HFIN.out
      case rest =>
        obtain ⟨AW, NW, cW, rfl, hrw, hs6⟩ := hcut
        have S56 := hs6
        have HRW := Lib.hid hrw; have HS6 := Lib.hid hs6
        have BK6 := Lib.hid (HBANK.out.call hs6)
        have HB6 := Lib.hid (Since.row hs6 HB5.out); have HE6 := Lib.hid (Since.row hs6 HE5.out); have HBOX6 := Lib.hid (Since.at hs6 HBOX5.out)
        have HS06 := Lib.hid (HS5.out.trans (hs6.mono HS5.out.size))
        have S46 : Since _ wc := (HBANK.out.since).add hs6
        have HIN6 := Lib.hid (Since.row S46 HIN.out); have HXD6 := Lib.hid (Since.row S46 HXD.out); have HX6 := Lib.hid (Since.at S46 HX.out); have HG16 := Lib.hid (Since.at S46 HG1.out); have HG26 := Lib.hid (Since.at S46 HG2.out)
        clear S46 S56 hrw hs6 HBANK HS5 HB5 HE5 HBOX5 HIN HXD HX HG1 HG2 HS6 HB HE HBOX HBX
        go_wp2_with fail
        refine (lent_from wc _ Np cp (M.num n) (BK6.out.row 2 rfl) (by omega) (Below.refl _ _)).mono ?_
        rintro e wlp ⟨glp, rfl, hglp, hlp, hblp⟩
        have SLp := Lib.hid (Since.add (Below.refl wc.heap.size wc) hblp)
        have HLp := Lib.hid hlp; have HBLp := Lib.hid hblp
        clear hglp hlp hblp
        go_wp2_with fail
        refine (lent_from wc _ Nq cq (M.blob bs) (BK6.out.row 1 rfl) (by omega) (SLp.out)).mono ?_
        rintro e wlq ⟨glq, rfl, hglq, hlq, hblq⟩
        have SLq := Lib.hid (Since.add (SLp.out) hblq)
        have HLq := Lib.hid hlq; have HBLq := Lib.hid hblq
        clear hglq hlq hblq
        go_wp2_with fail
        refine (lent_from wc _ Nr cr (M.ent e) (BK6.out.row 0 rfl) (by omega) (SLq.out)).mono ?_
        rintro e wlr ⟨glr, rfl, hglr, hlr, hblr⟩
        have SLr := Lib.hid (Since.add (SLq.out) hblr)
        have HLr := Lib.hid hlr; have HBLr := Lib.hid hblr
        clear hglr hlr hblr
        have HLp' := Lib.hid (Since.at HBLr.out (Since.at HBLq.out HLp.out)); have HLq' := Lib.hid (Since.at HBLr.out HLq.out)
        have LP := Lib.hid (lent_row HLp'.out HNp.out.symm); have LQ := Lib.hid (lent_row HLq'.out HNq.out.symm); have LR := Lib.hid (lent_row HLr.out HNr.out.symm)
        have BK9 := Lib.hid (BK6.out.call SLr.out)
        have HB6' := Lib.hid (Since.row SLr.out HB6.out)
        have HE6' := Lib.hid (Since.row SLr.out HE6.out)
        have HIN6' := Lib.hid (Since.row SLr.out HIN6.out)
        have HXD6' := Lib.hid (Since.row SLr.out HXD6.out)
        have HRW' := Lib.hid (Since.row SLr.out HRW.out)
        have HBOX6' := Lib.hid (Since.at SLr.out HBOX6.out)
        have HX6' := Lib.hid (Since.at SLr.out HX6.out)
        have HG16' := Lib.hid (Since.at SLr.out HG16.out)
        have HG26' := Lib.hid (Since.at SLr.out HG26.out)
        have Rp := Lib.hid (BK9.out.row 2 rfl)
        have Rq := Lib.hid (BK9.out.row 1 rfl)
        have Rr := Lib.hid (BK9.out.row 0 rfl)
        have HS09 := Lib.hid (HS06.out.trans (SLr.out.mono HS06.out.size))
        clear HLp HLq HBLp HBLq HBLr SLp SLq SLr BK6 HB6 HE6 HIN6 HXD6 HRW HBOX6 HX6 HG16 HG26 HS06
        generalize wlr = w9 at *
        clear wlq
        have hfl : flat [(⟨some ⟨glp, 0, none⟩, Np, Np + 12⟩, M.num n), (⟨some ⟨glq, 0, none⟩, Nq, Nq + 12⟩, M.blob bs), (⟨none, 0, 0⟩, []), (⟨some ⟨glr, 0, none⟩, Nr, Nr + 12⟩, M.ent e)] = M.num n ++ M.blob bs ++ M.ent e := by simp [flat]
        have HFL := Lib.hid hfl; clear hfl
        go_wp2_with fail
        refine (join_lit [(⟨some ⟨glp, 0, none⟩, Np, Np + 12⟩, M.num n), (⟨some ⟨glq, 0, none⟩, Nq, Nq + 12⟩, M.blob bs), (⟨none, 0, 0⟩, []), (⟨some ⟨glr, 0, none⟩, Nr, Nr + 12⟩, M.ent e)] w9 _ 4 4 rfl rfl (fun p hp => ?_) (by simp) ?_).mono ?_
        · simp only [List.mem_cons, List.mem_nil_iff, or_false] at hp
          rcases hp with rfl | rfl | rfl | rfl
          · exact LP.out
          · exact LQ.out
          · exact ⟨Rd.of_nil _ _, rfl, fun _ => rfl⟩
          · exact LR.out
        · rw [HFL.out, List.length_append, List.length_append, M.num_length, M.blob_length, M.ent_length, HLB.out, HLE.out]; omega
        rintro e w10 ⟨A10, N10, c10, rfl, hN, ho, hb⟩
        rw [HFL.out] at ho hN
        have hbs := (Below.refl w9.heap.size w9).alloc (Nat.le_refl _) (.cells #[.slice (some ⟨glp, 0, none⟩) Np (Np + 12), .slice (some ⟨glq, 0, none⟩) Nq (Nq + 12), .slice none 0 0, .slice (some ⟨glr, 0, none⟩) Nr (Nr + 12)] 22)
        have S10 := Lib.hid (Since.add hbs hb); have BK10 := Lib.hid ((BK9.out.call hbs).madeB hb ho); have RALL := Lib.hid (RowRd.of_row ho); have HN10 := Lib.hid hN
        clear hN ho hb hbs BK9 HFL
        go_wp2_with fail
        refine (rnum_made n _).mono ?_
        rintro e w11 ⟨g11, N11, c11, rfl, hN, ho, hb⟩
        have S11 := Lib.hid (Since.add S10.out hb); have Rn1 := Lib.hid (RowRd.of_row ho); have HN11 := Lib.hid hN; have BK11 := Lib.hid (BK10.out.call hb)
        clear hN ho hb BK10
        go_wp2_with fail
        refine (same_made (BK11.out.row 3 rfl) Rn1.out (by omega) (Below.refl _ _)).mono ?_
        rintro e w12 ⟨rfl, hb⟩
        have S12 := Lib.hid (Since.add S11.out hb); have BK12 := Lib.hid (BK11.out.call hb)
        clear hb BK11
        go_wp2_with fail
        refine (rbytes_made (Since.row S12.out HB6'.out) (by omega) (Below.refl _ _)).mono ?_
        rintro e w13 ⟨g13, N13, c13, rfl, hN, ho, hb⟩
        have S13 := Lib.hid (Since.add S12.out hb); have Rn2 := Lib.hid (RowRd.of_row ho); have HN13 := Lib.hid hN; have BK13 := Lib.hid (BK12.out.call hb)
        clear hN ho hb BK12
        go_wp2_with fail
        refine (same_made (BK13.out.row 2 rfl) Rn2.out (by omega) (Below.refl _ _)).mono ?_
        rintro e w14 ⟨rfl, hb⟩
        have S14 := Lib.hid (Since.add S13.out hb); have BK14 := Lib.hid (BK13.out.call hb)
        clear hb BK13
        obtain ⟨q0, q1, q2, q3, q4, q5⟩ := boxE_since HBOX6'.out S14.out
        obtain ⟨y0, y1, y2, y3, y4, y5⟩ := boxE_since HX6'.out S14.out
        go_wp2_with fail
        clear q0 q1 q2 q3 q4 q5 y0 y1 y2 y3 y4 y5
        refine (rentry_made (Since.row S14.out HE6'.out) (by omega) (Below.refl _ _)).mono ?_
        rintro e w15 ⟨g15, N15, c15, rfl, hN, ho, hb⟩
        have S15 := Lib.hid (Since.add S14.out hb); have Rn3 := Lib.hid (RowRd.of_row ho); have HN15 := Lib.hid hN; have BK15 := Lib.hid (BK14.out.call hb)
        clear hN ho hb BK14
        go_wp2_with fail
        refine (same_made (BK15.out.row 1 rfl) Rn3.out (by omega) (Below.refl _ _)).mono ?_
        rintro e w16 ⟨rfl, hb⟩
        have S16 := Lib.hid (Since.add S15.out hb); have BK16 := Lib.hid (BK15.out.call hb)
        clear hb BK15
        have hN10 : N10 ≤ 40064 := by have := HN10.out; rw [List.length_append, List.length_append, M.num_length, M.blob_length, M.ent_length, HLB.out, HLE.out] at this; omega
        go_wp2_with fail
        refine (same_made (BK16.out.row 0 rfl) (Since.row S16.out HRW'.out) (by omega) (Below.refl _ _)).mono ?_
        rintro e w17 ⟨rfl, hb⟩
        have S17 := Lib.hid (Since.add S16.out hb); have BK17 := Lib.hid (BK16.out.call hb)
        clear hb BK16
        go_wp2_with fail
        refine (kept_made HG16'.out HB6'.out (by omega) S17.out).mono ?_
        rintro e w18 ⟨rfl, hb⟩
        have S18 := Lib.hid (Since.add S17.out hb); have BK18 := Lib.hid (BK17.out.call hb)
        clear hb BK17
        obtain ⟨q0, q1, q2, q3, q4, q5⟩ := boxE_since HBOX6'.out S18.out
        obtain ⟨y0, y1, y2, y3, y4, y5⟩ := boxE_since HX6'.out S18.out
        go_wp2_with fail
        clear q0 q1 q2 q3 q4 q5 y0 y1 y2 y3 y4 y5
        refine (keptE_made HG26'.out HE6'.out (by omega) S18.out).mono ?_
        rintro e w19 ⟨rfl, hb⟩
        have S19 := Lib.hid (Since.add S18.out hb); have BK19 := Lib.hid (BK18.out.call hb)
        clear hb BK18
        go_wp2_with fail
        refine (kept_made HLp'.out Rp.out (by omega) S19.out).mono ?_
        rintro e w20 ⟨rfl, hb⟩
        have S20 := Lib.hid (Since.add S19.out hb); have BK20 := Lib.hid (BK19.out.call hb)
        clear hb BK19
        go_wp2_with fail
        refine (kept_made HLq'.out Rq.out (by omega) S20.out).mono ?_
        rintro e w21 ⟨rfl, hb⟩
        have S21 := Lib.hid (Since.add S20.out hb); have BK21 := Lib.hid (BK20.out.call hb)
        clear hb BK20
        go_wp2_with fail
        refine (kept_made HLr.out Rr.out (by omega) S21.out).mono ?_
        rintro e w22 ⟨rfl, hb⟩
        have S22 := Lib.hid (Since.add S21.out hb); have BK22 := Lib.hid (BK21.out.call hb)
        clear hb BK21
        go_wp2_with fail
        refine (join_none _).mono ?_
        rintro e w23 ⟨A23, N23, c23, rfl, hN, ho, hb⟩
        have S23 := Lib.hid (Since.add S22.out hb); have BK23 := Lib.hid (BK22.out.call hb)
        obtain rfl : N23 = 0 := hN
        clear ho hb BK22
        go_wp2_with fail
        refine (join_lit [(⟨some ⟨glq, 0, none⟩, Nq, Nq + 12⟩, M.blob bs)] w23 _ 1 1 rfl rfl (fun p hp => ?_) (by simp) ?_).mono ?_
        · obtain rfl := List.mem_singleton.1 hp
          exact Since.row S23.out LQ.out
        · show (M.blob bs ++ []).length ≤ _
          rw [List.append_nil, M.blob_length, HLB.out]; omega
        rintro e w24 ⟨A24, N24, c24, rfl, hN, ho, hb⟩
        have hbs := (Below.refl w23.heap.size w23).alloc (Nat.le_refl _) (.cells #[.slice (some ⟨glq, 0, none⟩) Nq (Nq + 12)] 22)
        have S24 := Lib.hid (Since.add S23.out (Since.add hbs hb)); have BK24 := Lib.hid ((BK23.out.call hbs).madeB hb ho); have HN24 := Lib.hid hN
        clear hN ho hb hbs BK23
        have hNj : N24 ≤ 20008 := by have h : N24 = (M.blob bs ++ []).length := HN24.out; rw [List.append_nil] at h; exact le_blob h HLB.out (by omega)
        go_wp2_with fail
        refine (bytes_made (Since.row S24.out HIN6'.out) (by omega) (Below.refl _ _)).mono ?_
        rintro e w25 ⟨g25, N25, c25, rfl, hN, ho, hb⟩
        have S25 := Lib.hid (Since.add S24.out hb); have Rn4 := Lib.hid (RowRd.of_row ho); have HN25 := Lib.hid hN; have BK25 := Lib.hid (BK24.out.madeB hb ho)
        clear hN ho hb BK24
        have hNb : N25 ≤ 20008 := le_blob HN25.out HLB.out (by omega)
        go_wp2_with fail
        refine (apart_lit [(⟨some ⟨gp, 0, none⟩, Np, cp⟩, M.num n), (⟨some ⟨gq, 0, none⟩, Nq, cq⟩, M.blob bs), (⟨some ⟨gr, 0, none⟩, Nr, cr⟩, M.ent e), (⟨A10, N10, c10⟩, M.num n ++ M.blob bs ++ M.ent e), (⟨A24, N24, c24⟩, flat [(⟨some ⟨glq, 0, none⟩, Nq, Nq + 12⟩, M.blob bs)]), (⟨some ⟨g25, 0, none⟩, N25, c25⟩, M.blob bs)] _ 6 6 rfl rfl BK25.out (by simp) (fun p hp => ?_)).mono ?_
        · simp only [List.mem_cons, List.mem_nil_iff, or_false] at hp
          rcases hp with rfl | rfl | rfl | rfl | rfl | rfl <;> (dsimp only; omega)
        rintro e w26 ⟨rfl, hb⟩
        have SF := Lib.hid (HS.out.trans (hb.mono HS.out.size))
        clear hb
        go_wp2_with fail
        refine (awake_any _).mono ?_
        rintro e wz ⟨rfl, hb⟩
        have SZ := Lib.hid (H0.out.trans ((Since.add SF.out hb).mono H0.out.size))
        clear hb
        go_wp2_with fail
        go_ret
        exact ⟨rfl, SZ.out⟩
end Go.Proofs.Ytjnhfmicadcmnaa.K
