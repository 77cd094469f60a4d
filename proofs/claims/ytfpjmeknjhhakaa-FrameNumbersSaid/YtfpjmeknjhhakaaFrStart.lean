/- The contract of frame.start. -/
import Derived.Test.YtfpjmeknjhhakaaFrFour
import Derived.Deep.RegionHeld3
import Derived.Deep.DeepCutAuto
namespace Go.Proofs.Ytfpjmeknjhhakaa.K
open Go Go.RowKit

/-- a frame's box -/
abbrev Box2 (w : World) (b : Nat) (k : Int) (A : Option Addr) (n c : Nat) : Prop := w.cell? ⟨b, 0, none⟩ = some (.int .i64 k) ∧ w.cell? ⟨b, 1, none⟩ = some (.slice A n c)
theorem box2_since {w w' : World} {b : Nat} {k : Int} {A : Option Addr} {n c : Nat} (h : Box2 w b k A n c) (hs : Since w w') : Box2 w' b k A n c :=
  ⟨(hs.cell (p := ⟨b, 0, none⟩) (block_lt_of_cell h.1)).trans h.1, (hs.cell (p := ⟨b, 1, none⟩) (block_lt_of_cell h.2)).trans h.2⟩
theorem kind_B8 (y : Int) : Value.int .u8 (IntKind.u8.wrap y) = B8 (BitVec.ofInt 8 y) := by
  have h : IntKind.u8.wrap y = ((BitVec.ofInt 8 y).toNat : Int) := by
    rw [IntKind.wrap_u8', BitVec.toNat_ofInt]; omega
  rw [B8, h]
theorem conv_kind {P : Program} (w : World) (src dst : TypeId) (y : Int) (hs : P.underlying src = some (.int .i64)) (hd : P.underlying dst = some (.int .u8)) : (convert src dst (.int .i64 y)).run P w = .ok (B8 (BitVec.ofInt 8 y)) w := by
  rw [← kind_B8]
  simp [convert, run_underlying hs, run_underlying hd, Conv.intToInt]
/-- a four's block reads as its bytes -/
theorem four_row {w : World} (x : F.W) (t : TypeId) : RowRd (w.alloc (.cells (bv (F.be4 x)).toArray t)) ⟨some ⟨w.heap.size, 0, none⟩, 4, 4⟩ (F.be4 x) :=
  ⟨Rd.of_block (heap_alloc_new w _) (by rfl), rfl, fun h => by cases h⟩
theorem four_lit (x : BitVec 32) (w : World) : Calls Try.prog 79 #[W32 x] w fun e w' => ∃ a b c d, F.be4 x = [a, b, c, d] ∧ e = .returned (.agg #[B8 a, B8 b, B8 c, B8 d]) ∧ Since w w' :=
  (four_any x w).mono fun e w' ⟨he, hs⟩ => ⟨_, _, _, _, rfl, he, hs⟩
/-- a four's block, still noughts -/
def Zero4 (w : World) (X : Nat) : Prop := w.heap[X]? = some (.cells [Value.int .u8 0, .int .u8 0, .int .u8 0, .int .u8 0].toArray 157 (0, 0))
theorem Zero4.new (w : World) : Zero4 (w.alloc (.cells #[.int .u8 0, .int .u8 0, .int .u8 0, .int .u8 0] 157)).drew w.heap.size := heap_alloc_new w _
theorem Zero4.since {w w' : World} {X : Nat} (h : Zero4 w X) (hs : Since w w') : Zero4 w' X := Since.at hs h
theorem Zero4.cells {w : World} {X : Nat} (h : Zero4 w X) : w.cell? ⟨X, 0, none⟩ = some (.int .u8 0) ∧ w.cell? ⟨X, 1, none⟩ = some (.int .u8 0) ∧ w.cell? ⟨X, 2, none⟩ = some (.int .u8 0) ∧ w.cell? ⟨X, 3, none⟩ = some (.int .u8 0) :=
  ⟨block_cell h rfl, block_cell h rfl, block_cell h rfl, block_cell h rfl⟩
theorem Zero4.free {w : World} {X : Nat} (h : Zero4 w X) : w.frozen? ⟨X, 0, none⟩ = false ∧ w.frozen? ⟨X, 1, none⟩ = false ∧ w.frozen? ⟨X, 2, none⟩ = false ∧ w.frozen? ⟨X, 3, none⟩ = false :=
  ⟨frozen_of_row w X 0 _ _ h, frozen_of_row w X 1 _ _ h, frozen_of_row w X 2 _ _ h, frozen_of_row w X 3 _ _ h⟩
theorem Zero4.set {w : World} {X : Nat} (h : Zero4 w X) (a b c d : BitVec 8) : RowRd ((((w.setCell ⟨X, 0, none⟩ (B8 a)).setCell ⟨X, 1, none⟩ (B8 b)).setCell ⟨X, 2, none⟩ (B8 c)).setCell ⟨X, 3, none⟩ (B8 d)) ⟨some ⟨X, 0, none⟩, 4, 4⟩ [a, b, c, d] :=
  ⟨Rd.of_block (block_set (block_set (block_set (block_set h 0 _) 1 _) 2 _) 3 _) rfl, rfl, fun h => by cases h⟩
theorem Since.set4 {w0 w : World} (h : Since w0 w) {X : Nat} (hX : w0.heap.size ≤ X) (a b c d : Value) : Since w0 ((((w.setCell ⟨X, 0, none⟩ a).setCell ⟨X, 1, none⟩ b).setCell ⟨X, 2, none⟩ c).setCell ⟨X, 3, none⟩ d) :=
  Since.set (Since.set (Since.set (Since.set h hX 0 a) hX 1 b) hX 2 c) hX 3 d
theorem own_somes' {w : World} {base : Nat} {e : TypeId} {A : Option Addr} {n c : Nat} {xs : List Value} (h : w.ownsRow base e 1 (.slice A n c) n xs) (hp : 0 < n) : ∃ g, A = some ⟨g, 0, none⟩ := by
  rcases h.2 with ⟨h0, _⟩ | ⟨g, cp, cur, h2, _⟩
  · simp at h0; omega
  · simp at h2; exact ⟨g, h2.1⟩
theorem more_first (A : Option Addr) (n c : Nat) (bs : List (BitVec 8)) (w : World) (hr : RowRd w ⟨A, n, c⟩ bs) (hn : n ≤ 9223372036854775807) :
    Calls Try.prog 50 #[.int .u32 4294967295, .slice A n c] w fun e w' => e = .returned (W32 (F.crc 4294967295#32 bs)) ∧ w = w' := more_any (~~~0#32) A n c bs w hr hn
theorem four_row' {w : World} (x : F.W) (a b c d : BitVec 8) (h : F.be4 x = [a, b, c, d]) (t : TypeId) : RowRd (w.alloc (.cells #[B8 a, B8 b, B8 c, B8 d] t)) ⟨some ⟨w.heap.size, 0, none⟩, 4, 4⟩ (F.be4 x) := by
  have := four_row (w := w) x t
  rw [h] at this ⊢
  exact this
set_option maxHeartbeats 4000000 in
set_option maxRecDepth 100000 in
theorem start_any (k : Int) (A : Option Addr) (n c : Nat) (bs : List (BitVec 8)) (w : World) (hr : RowRd w ⟨A, n, c⟩ bs) (hn : n ≤ 9223372036854775807) :
    Calls Try.prog 45 #[.agg #[.int .i64 k, .slice A n c]] w (Made w (F.five ⟨k, bs⟩ ++ F.be4 (F.fsum (F.five ⟨k, bs⟩ ++ bs)))) := by
  have hbx : Box2 (w.alloc (.cells #[.int .i64 k, .slice A n c] 36)) w.heap.size k A n c := ⟨by rw [World.cell?_alloc_new]; rfl, by rw [World.cell?_alloc_new]; rfl⟩
  have hs0 : Since w (w.alloc (.cells #[.int .i64 k, .slice A n c] 36)) := (Below.refl _ _).alloc (Nat.le_refl _) _
  have HBX := Lib.hid hbx; have HS0 := Lib.hid hs0; have HR := Lib.hid hr; have HL := Lib.hid (show bs.length = n from hr.len)
  have hcv := fun w (n : Nat) => conv_int_W32 (P := Try.prog) w 3 40 n Try.underlying3 Try.underlying40
  have hcv2 := fun w (y : Int) => conv_kind (P := Try.prog) w 3 5 y Try.underlying3 Try.underlying5
  clear hbx hs0 hr
  go_enter Try.func45, Try.ntmps45
  go_wp2_with fail
  refine (four_lit _ _).mono ?_
  rintro e w1 ⟨a, b, c', d, hfour, rfl, hs1⟩
  have S1 := Lib.hid (HS0.out.add hs1); have BX1 := Lib.hid (box2_since HBX.out hs1); have FO := Lib.hid hfour
  clear hs1 hfour HS0 HBX
  have RF := Lib.hid (four_row' (w := w1) _ a b c' d FO.out 157)
  have S2 := Lib.hid (S1.out.alloc (.cells #[B8 a, B8 b, B8 c', B8 d] 157)); have BX2 := Lib.hid (box2_since BX1.out ((Below.refl _ _).alloc (Nat.le_refl _) (.cells #[B8 a, B8 b, B8 c', B8 d] 157)))
  go_upto_region 2 with fail
  generalize w1.alloc (.cells #[B8 a, B8 b, B8 c', B8 d] 157) = w2 at *
  generalize w1.heap.size = X at *
  clear BX1 S1
  have hB := Bank.nil (Below.refl w2.heap.size w2)
  have hbd : Box2 w2.drew w.heap.size k A n c := BX2.out
  have hrd : RowRd (w2.alloc (.cells #[B8 (BitVec.ofInt 8 k)] 5)).drew ⟨some ⟨X, 0, none⟩, 4, 4⟩ (F.be4 (BitVec.ofNat 32 n)) := RF.out.below (Since.drew (Since.alloc (Below.refl _ _) _))
  have HBL := Lib.hid (box2_since BX2.out (Since.drew (Since.alloc (Below.refl w2.heap.size w2) (.cells #[B8 (BitVec.ofInt 8 k)] 5))))
  go_region_held3 (fun w' => Box2 w' w.heap.size k A n c)
    (first
      | with_reducible exact hbd
      | with_reducible exact HBL.out
      | with_reducible exact box2_since BX2.out hB.since
      | fail "keep")
    (first
      | (((with_reducible refine step_bank (Bank.drew (Bank.litV hB _ _ (by simp))) ?_); intro hB); refine step_append_bytes hB rfl _ _ 27 rfl 5 infoByte Try.underlying27 0 _ _ _ [BitVec.ofInt 8 k] rfl rfl _ _ _ _ rfl hrd (by omega) ?_; intro A' n' c' w3 hn' hB; have hn'' := Nat.le_of_eq hn'; clear hn'; dsimp only [List.set] at hB)
      | fail "arm")
  have BKA := Lib.hid hB
  clear hbd hrd HBL hB RF
  have RFI := Lib.hid (BKA.out.row 0 rfl)
  have HLF := Lib.hid (show [BitVec.ofInt 8 k] ++ F.be4 (BitVec.ofNat 32 n) = F.five ⟨k, bs⟩ by unfold F.five; rw [HL.out]; rfl)
  have BX3 := Lib.hid (box2_since BX2.out BKA.out.since)
  have R3 := Lib.hid (Since.row (S2.out.add BKA.out.since) HR.out)
  have HRF := Lib.hid (show RowRd w3 ⟨A', n', c'⟩ (F.five ⟨k, bs⟩) by rw [← HLF.out]; exact RFI.out)
  have BKB := Lib.hid (show Bank w2 w3 [⟨.slice A' n' c', n', 5, 1, bv (F.five ⟨k, bs⟩)⟩] by rw [← HLF.out]; exact BKA.out)
  clear BKA RFI HLF
  go_upto_region 3 with fail
  go_cut [5] (fun s5 wx => ∃ X5, s5 = .pointer (some ⟨X5, 0, none⟩) ∧ RowRd wx ⟨some ⟨X5, 0, none⟩, 4, 4⟩ (F.be4 (F.fsum (F.five ⟨k, bs⟩ ++ bs))) ∧ Since w3 wx)
  case first =>
    have hsd : Since w3 w3.drew := Since.drew (Below.refl _ _)
    have hsda : Since w3 (w3.alloc (.cells #[.int .u8 0, .int .u8 0, .int .u8 0, .int .u8 0] 157)).drew := Since.drew (Since.alloc (Below.refl _ _) _)
    have hbd := box2_since BX3.out hsd
    have hbda := box2_since BX3.out hsda
    have HN' := Lib.hid (show n' ≤ 9223372036854775807 by omega)
    have HSM := Lib.hid (F.crc_append 4294967295#32 (F.five ⟨k, bs⟩) bs)
    go_region_held3 (fun w' => Box2 w' w.heap.size k A n c)
      (first
        | with_reducible exact hbd
        | with_reducible exact box2_since BX3.out hs4
        | with_reducible exact hbda
        | with_reducible exact box2_since BX3.out (Since.set4 hs4 (Nat.le_refl _) _ _ _ _)
        | with_reducible exact box2_since BX3.out (Since.alloc hs4 _)
        | fail "keep")
      (first
        | (go_at_call 50; ((with_reducible refine (more_first A' n' c' (F.five ⟨k, bs⟩) _ (Since.row hsd HRF.out) HN'.out).mono ?_); rintro e w' ⟨rfl, rfl⟩))
        | (go_at_call 50; ((with_reducible refine (more_any (F.crc 4294967295#32 (F.five ⟨k, bs⟩)) A n c bs _ (Since.row hsd R3.out) hn).mono ?_); rintro e w' ⟨rfl, rfl⟩; rw [← HSM.out]))
        | (go_at_call 79; ((with_reducible refine (four_lit _ _).mono ?_); rintro e w4 ⟨a4, b4, c4, d4, hfour4, rfl, hs4'⟩; (first | have hs4 := Since.add hsd hs4' | (have hs4 := Since.add hsda hs4'; have hz4 := Zero4.since (Zero4.new w3) hs4'; obtain ⟨z0, z1, z2, z3⟩ := Zero4.cells hz4; obtain ⟨y0, y1, y2, y3⟩ := Zero4.free hz4)); have HF4 := Lib.hid hfour4; clear hfour4))
        | (go_at_call 50; ((with_reducible refine (more_first A' n' c' (F.five ⟨k, bs⟩) _ (Since.row hsda HRF.out) HN'.out).mono ?_); rintro e w' ⟨rfl, rfl⟩))
        | (go_at_call 50; ((with_reducible refine (more_any (F.crc 4294967295#32 (F.five ⟨k, bs⟩)) A n c bs _ (Since.row hsda R3.out) hn).mono ?_); rintro e w' ⟨rfl, rfl⟩; rw [← HSM.out]))
        | fail "arm")
    all_goals
      have hfin : (∃ X5, Value.pointer (some ⟨w4.heap.size, 0, none⟩) = .pointer (some ⟨X5, 0, none⟩) ∧ RowRd (w4.alloc (.cells #[B8 a4, B8 b4, B8 c4, B8 d4] 157)) ⟨some ⟨X5, 0, none⟩, 4, 4⟩ (F.be4 (F.fsum (F.five ⟨k, bs⟩ ++ bs))) ∧ Since w3 (w4.alloc (.cells #[B8 a4, B8 b4, B8 c4, B8 d4] 157))) :=
        ⟨_, rfl, four_row' _ _ _ _ _ HF4.out _, hs4.alloc _⟩
      have HFIN := Lib.hid hfin
      have hfin2 : (∃ z : Zero4 w4 w3.heap.size, True) → ∃ X5, Value.pointer (some ⟨w3.heap.size, 0, none⟩) = .pointer (some ⟨X5, 0, none⟩) ∧ RowRd ((((w4.setCell ⟨w3.heap.size, 0, none⟩ (B8 a4)).setCell ⟨w3.heap.size, 1, none⟩ (B8 b4)).setCell ⟨w3.heap.size, 2, none⟩ (B8 c4)).setCell ⟨w3.heap.size, 3, none⟩ (B8 d4)) ⟨some ⟨X5, 0, none⟩, 4, 4⟩ (F.be4 (F.fsum (F.five ⟨k, bs⟩ ++ bs))) ∧ Since w3 ((((w4.setCell ⟨w3.heap.size, 0, none⟩ (B8 a4)).setCell ⟨w3.heap.size, 1, none⟩ (B8 b4)).setCell ⟨w3.heap.size, 2, none⟩ (B8 c4)).setCell ⟨w3.heap.size, 3, none⟩ (B8 d4)) :=
        fun ⟨z, _⟩ => ⟨_, rfl, by rw [show F.be4 (F.fsum (F.five ⟨k, bs⟩ ++ bs)) = [a4, b4, c4, d4] from HF4.out]; exact z.set a4 b4 c4 d4, Since.set4 hs4 (Nat.le_refl _) _ _ _ _⟩
      have HFIN2 := Lib.hid hfin2
      clear hfin hfin2
      first
        | (go_wp2_with fail; go_meet; exact HFIN.out)
        | (go_wp2_with fail; go_meet; exact HFIN2.out ⟨hz4, trivial⟩)
  case rest =>
    obtain ⟨X5, rfl, hr5, hs5⟩ := hcut
    have BK5 := Lib.hid (BKB.out.call hs5); have R5 := Lib.hid hr5
    clear hr5 hs5 BKB
    go_wp2_with (at_builtin; refine wpList_append_bytes BK5.out rfl _ _ 27 rfl 5 infoByte Try.underlying27 0 _ _ _ _ rfl rfl _ _ _ _ rfl R5.out (by omega) ?_; intro A6 n6 c6 w6 hn6 hB6; dsimp only [List.set] at hB6; have B6 := Lib.hid hB6; have hn6' := Lib.hid hn6; clear hB6 hn6)
    have ho6 := B6.out.at 0 rfl
    have hs6 := S2.out.trans ((B6.out.since).mono S2.out.size)
    have hl5 : n' = 5 := (HRF.out.len).symm
    obtain ⟨g6, rfl⟩ := own_somes' ho6 (by have := hn6'.out; omega)
    have HFIN := Lib.hid (show Made w (F.five ⟨k, bs⟩ ++ F.be4 (F.fsum (F.five ⟨k, bs⟩ ++ bs))) (.returned (.slice (some ⟨g6, 0, none⟩) n6 c6)) w6 from ⟨g6, n6, c6, rfl, by rw [hn6'.out, hl5]; rfl, row_base ho6 S2.out.size, hs6⟩)
    clear ho6 hs6 hl5
    go_wp2
    go_ret
    exact HFIN.out
end Go.Proofs.Ytfpjmeknjhhakaa.K
