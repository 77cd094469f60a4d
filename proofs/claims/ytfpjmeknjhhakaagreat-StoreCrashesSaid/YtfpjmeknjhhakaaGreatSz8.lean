/- Merged: StoLift, FrWords, FrSum, FrFour, FrStart, FrCatch, FrPutS, FrPut, FrNumber, FrNextS, FrNext, FrScanS. -/
import Derived.Test.YtfpjmeknjhhakaaGreatSz7
import Derived.WalkLawsBesides
import Derived.Deep.RegionHeld3
import Derived.Deep.DeepCutAuto
import Derived.Laws.Pointers
import Derived.Deep.RegionLaw
import Derived.Deep.QuietTactic
import Derived.BigQuiet
import Derived.StillTailTactics
import Derived.RangeFuncNested
import Derived.RangeFuncBound
import Derived.RangeFuncCalls
import Derived.RangeFuncLeaves
import Derived.Shelf.Abstract
import Derived.Shelf.RegionOpen
import Derived.WalkKit
import Derived.OwnWalkIn
import Derived.TacticsInMore
import Derived.LoopNIn
import Derived.LoopIn
set_option linter.unusedVariables false
/- A disk and its store: what a frame that is done makes of them. -/
namespace Go.Proofs.YtfpjmeknjhhakaaGreat.K
open Go Go.RowKit Go.Maps

theorem bank_underS {w0 w w' : World} {L L' : List Acc} (h : Bank w0 w L) (h' : Bank w w' L') : Bank w0 w' (L' ++ L) := by
  have h1 := h.call h'.since
  refine ⟨h1.since, fun p hp => ?_, List.pairwise_append.2 ⟨h'.sep, h1.sep, fun p hp q hq b hb1 hb2 => ?_⟩⟩
  · rcases List.mem_append.1 hp with hp | hp
    · exact row_base (h'.own p hp) h.since.size
    · exact h1.own p hp
  · have h3 := (h'.lt hp hb1).1
    have h4 := (h.lt hq hb2).2
    omega
theorem Side.under {w0 w w' : World} {R : Nat} {ob : Obj} {L L' : List Acc} (h : Side w0 w R ob L) (h' : Bank w w' L') : Side w0 w' R ob (L' ++ L) := by
  refine ⟨bank_underS h.bank h', (h'.since.block R h.lt).trans h.at', h.base, fun p hp e => ?_⟩
  rcases List.mem_append.1 hp with hp | hp
  · have h3 := (h'.lt hp e).1
    have h4 := h.lt
    omega
  · exact h.away p hp e
theorem Dk.under {w0 w w' : World} {D R : Nat} {room : Int} {o : Option Fil} {L L' : List Acc} (h : Dk w0 w D R room o L) (h' : Bank w w' L') : Dk w0 w' D R room o (L' ++ L) := by
  refine (h.side.under h').perm ?_
  refine (List.perm_middle).trans (.cons _ ?_)
  rw [← List.append_assoc, ← List.append_assoc]
  exact List.Perm.append_right _ List.perm_append_comm
/-- a store's accounts, ahead of the rest -/
def StL (Z D : Nat) (c : S.Cl) (A : Option Addr) (cE : Nat) (xs : List EV) (L : List Acc) : List Acc := stAcc Z D c A xs.length cE :: evsAcc A xs.length cE xs :: (evRows xs ++ L)
/-- a disk and its store -/
def SK (w0 w : World) (D R : Nat) (room : Int) (o : Option Fil) (Z : Nat) (c : S.Cl) (A : Option Addr) (cE : Nat) (xs : List EV) (L : List Acc) : Prop := Dk w0 w D R room o (StL Z D c A cE xs L)
section
variable {w0 w w' : World} {D R : Nat} {room : Int} {o : Option Fil} {Z : Nat} {c : S.Cl} {A : Option Addr} {cE : Nat} {xs : List EV} {L : List Acc}
theorem SK.dk (h : SK w0 w D R room o Z c A cE xs L) : Dk w0 w D R room o (StL Z D c A cE xs L) := h
theorem SK.box (h : SK w0 w D R room o Z c A cE xs L) : StBox w Z D c A xs.length cE := (h.dk.boxAt 0 rfl).2
theorem SK.own (h : SK w0 w D R room o Z c A cE xs L) : w.ownsRow 0 62 6 (.slice A xs.length cE) xs.length (xs.flatMap EV.cells) := row_base (h.dk.side.bank.at _ (h.dk.at 1 rfl)) (Nat.zero_le _)
theorem SK.rd (h : SK w0 w D R room o Z c A cE xs L) : EntsRd w A (xs.map EV.e) :=
  evs_rd (n := xs.length) (c := cE) h.dk.rest (.tail _ (.head _)) (fun x hx => .tail _ (.tail _ (List.mem_append_left _ (List.mem_map.2 ⟨x, by simpa using hx, rfl⟩)))) rfl
theorem SK.call (h : SK w0 w D R room o Z c A cE xs L) (hb : Below w.heap.size w w') : SK w0 w' D R room o Z c A cE xs L := h.dk.call hb
theorem SK.drew (h : SK w0 w D R room o Z c A cE xs L) : SK w0 w.drew D R room o Z c A cE xs L := h.dk.drew
theorem SK.since (h : SK w0 w D R room o Z c A cE xs L) : Since w0 w := h.dk.since
theorem evRows_take (xs : List EV) (q : Nat) : (evRows (xs.take q)).Sublist (evRows xs) := ((List.take_sublist q xs).reverse).map _
/-- behind a frame -/
theorem SK.done {f : F.Fr} {e : Ending} (h : SK w0 w D R room o Z c A cE xs L) (hp : DoPost w Z c xs f e w') :
    (S.sdo ⟨c, xs.map EV.e⟩ f = none ∧ e = .returned (.bool false) ∧ SK w0 w' D R room o Z c A cE xs L) ∨
    (∃ c' A' cE' xs', S.sdo ⟨c, xs.map EV.e⟩ f = some ⟨c', xs'.map EV.e⟩ ∧ xs'.length ≤ xs.length + 1 ∧ e = .returned (.bool true) ∧ SK w0 w' D R room o Z c' A' cE' xs' L) := by
  rcases hp with ⟨h1, he, hs⟩ | ⟨c', w1, h1, he, hs, rfl⟩ | ⟨w1, q, A', cE', en, B, m, cB, h1, hq, he, hB, rfl⟩
  · exact .inl ⟨h1, he, h.call hs⟩
  · refine .inr ⟨c', A, cE, xs, h1, by omega, he, ?_⟩
    exact (((((h.call hs).dk.boxSet 0 rfl 1 (.int .i64 c'.term)).boxSet 0 rfl 2 (.int .i64 c'.vote)).boxSet 0 rfl 3 (.int .i64 c'.applied)).boxSet 0 rfl 4 (.int .i64 c'.active))
  · have hl : (xs.take q ++ [⟨en, B, m, cB⟩] : List EV).length = q + 1 := by simp; omega
    refine .inr ⟨c, A', cE', _, h1, by omega, he, ?_⟩
    have h2 : Dk w0 (w1.setCell ⟨Z, 5, none⟩ (.slice A' (q + 1) cE')) D R room o ([evsAcc A' (q + 1) cE' (xs.take q ++ [⟨en, B, m, cB⟩]), rowAcc B m cB en.data] ++ stAcc Z D c A' (q + 1) cE' :: (evsAcc A xs.length cE xs :: (evRows xs ++ L))) := (h.dk.under hB).boxSet 2 rfl 5 (.slice A' (q + 1) cE')
    have h3 := (h2.perm (L' := stAcc Z D c A' (q + 1) cE' :: ([evsAcc A' (q + 1) cE' (xs.take q ++ [⟨en, B, m, cB⟩]), rowAcc B m cB en.data] ++ (evsAcc A xs.length cE xs :: (evRows xs ++ L)))) List.perm_middle).sub (L' := stAcc Z D c A' (q + 1) cE' :: evsAcc A' (q + 1) cE' (xs.take q ++ [⟨en, B, m, cB⟩]) :: ((rowAcc B m cB en.data :: evRows (xs.take q)) ++ L)) (.cons_cons _ (.cons_cons _ (.cons_cons _ (.cons _ ((evRows_take xs q).append (List.Sublist.refl _))))))
    show Dk w0 _ D R room o (stAcc Z D c A' _ cE' :: evsAcc A' _ cE' _ :: (evRows _ ++ L))
    rw [hl, evRows_snoc]
    exact h3
end
end Go.Proofs.YtfpjmeknjhhakaaGreat.K

/- More laws on opaque words: unary minus, comparisons with constants, conversions. -/
namespace Go.Proofs.YtfpjmeknjhhakaaGreat.K
open Go Go.RowKit

theorem wrap_u32' (n : Int) : IntKind.u32.wrap n = n % 4294967296 := by simp [IntKind.wrap, IntKind.bits, IntKind.signed]
theorem W32_neg (x : BitVec 32) : Op.unary .neg (W32 x) = pure (W32 (-x)) := by
  have h : IntKind.u32.wrap (0 - (x.toNat : Int)) = ((-x).toNat : Int) := by
    rw [wrap_u32', BitVec.toNat_neg]
    have := x.isLt
    omega
  show Op.intArith .sub .u32 0 (x.toNat : Int) = _
  simp [Op.intArith]
  exact congrArg (fun z => (pure (Value.int .u32 z) : Sem Value)) (by simpa using h)
attribute [go_sem] W32_neg
section
variable {P : Program} (w : World) (src dst : TypeId)
theorem conv_W32_int (x : BitVec 32) (hs : P.underlying src = some (.int .u32)) (hd : P.underlying dst = some (.int .i64)) : (convert src dst (W32 x)).run P w = .ok (.int .i64 (x.toNat : Int)) w := by
  have h : IntKind.i64.wrap (x.toNat : Int) = (x.toNat : Int) := IntWalk.i64_in _ (by have := x.isLt; omega)
  simp [convert, run_underlying hs, run_underlying hd, Conv.intToInt, W32, h]
theorem conv_int_W32 (n : Nat) (hs : P.underlying src = some (.int .i64)) (hd : P.underlying dst = some (.int .u32)) : (convert src dst (.int .i64 (n : Int))).run P w = .ok (W32 (BitVec.ofNat 32 n)) w := by
  have h : IntKind.u32.wrap (n : Int) = ((BitVec.ofNat 32 n).toNat : Int) := wrap_u32_nat n
  simp [convert, run_underlying hs, run_underlying hd, Conv.intToInt, W32, h]
end
theorem W32_gtr_lit (t : TypeId) (x : BitVec 32) (k : Nat) (hk : k < 4294967296) : binOp .gtr t (W32 x) (.int .u32 (k : Int)) = pure (.bool (decide (k < x.toNat))) := by
  have e : Value.int .u32 (k : Int) = W32 (BitVec.ofNat 32 k) := by
    rw [W32, BitVec.toNat_ofNat, Nat.mod_eq_of_lt (by omega)]
  rw [e, W32_gtr]
  congr 2
  rw [decide_eq_decide, BitVec.lt_def, BitVec.toNat_ofNat, Nat.mod_eq_of_lt (by omega)]
end Go.Proofs.YtfpjmeknjhhakaaGreat.K

/- The contracts of frame's sums, and of the reference's. -/
namespace Go.Proofs.YtfpjmeknjhhakaaGreat.K
open Go Go.RowKit

theorem csteps_succ (k : Nat) (w : F.W) : F.csteps (k + 1) w = F.cstep (F.csteps k w) := by rw [F.csteps_add]; rfl
set_option maxHeartbeats 1000000 in
theorem turned_any (x : BitVec 32) (w : World) :
    Calls Tryz.prog 115 #[W32 x] w fun e w' => e = .returned (W32 (F.csteps 8 x)) ∧ w = w' := by
  have h1 : ∀ t (x : BitVec 32), binOp .and t (W32 x) (.int .u32 1) = pure (W32 (x &&& 1#32)) := fun t x => W32_and t x 1#32
  have h2 : ∀ t (x : BitVec 32), binOp .and t (.int .u32 2197175160) (W32 x) = pure (W32 (F.poly &&& x)) := fun t x => W32_and t F.poly x
  go_enter Tryz.func115, Tryz.ntmps115
  go_wp2
  go_loop [0, 3] (fun v i => ∃ k : Nat, k ≤ 8 ∧ i = .int .i64 (k : Int) ∧ v = W32 (F.csteps k x)) (fun _ i => 8 - (intOf i).toNat)
  case atStart => exact ⟨0, by omega, rfl, rfl⟩
  case round =>
    obtain ⟨k, hk, rfl, rfl⟩ := hrel
    by_cases hlt : k < 8
    · have i1 : (k : Int) < 8 := by omega
      go_wp2
      go_round
      case rel => exact ⟨k + 1, by omega, by go_num, by rw [csteps_succ, ← F.cstep_eq]⟩
      case measure => simp [intOf]; omega
    · have i1 : ¬ (k : Int) < 8 := by omega
      obtain rfl : k = 8 := by omega
      go_wp2
      go_ret
      exact ⟨rfl, rfl⟩
theorem crc_take (x : BitVec 32) (bs : List (BitVec 8)) (k : Nat) (h : k < bs.length) : F.crc x (bs.take (k + 1)) = F.cbyte (F.crc x (bs.take k)) bs[k] := by
  rw [List.take_succ_eq_append_getElem h, F.crc_append]; rfl
set_option maxHeartbeats 1000000 in
theorem more_any (x : BitVec 32) (A : Option Addr) (n c : Nat) (bs : List (BitVec 8)) (w : World) (hr : RowRd w ⟨A, n, c⟩ bs) (hn : n ≤ 9223372036854775807) :
    Calls Tryz.prog 106 #[W32 x, .slice A n c] w fun e w' => e = .returned (W32 (F.crc x bs)) ∧ w = w' := by
  have h1 : ∀ t (x : BitVec 32), binOp .and t (W32 x) (.int .u32 255) = pure (W32 (x &&& 255#32)) := fun t x => W32_and t x 255#32
  have hcv := fun w (x : BitVec 8) => conv_B8_W32 (P := Tryz.prog) w 5 128 x Tryz.underlying5 Tryz.underlying128
  have HR := Lib.hid hr; have HL := Lib.hid (show bs.length = n from hr.len)
  clear hr
  go_enter Tryz.func106, Tryz.ntmps106
  go_wp2
  go_loop [0, 6, 9] (fun v _ i => ∃ k : Nat, k ≤ n ∧ i = .int .i64 (k : Int) ∧ v = W32 (F.crc x (bs.take k))) (fun _ _ i => n - (intOf i).toNat)
  case atStart => exact ⟨0, by omega, rfl, rfl⟩
  case round =>
    obtain ⟨k, hk, rfl, rfl⟩ := hrel
    have k0 : (0 : Int) ≤ (k : Int) := by omega
    by_cases hlt : k < n
    · have i1 : (k : Int) < (n : Int) := by omega
      have hkl : k < bs.length := by rw [HL.out]; exact hlt
      obtain ⟨b, o, hA, hc⟩ := HR.out.rd k hkl
      have hct := Lib.hid (crc_take x bs k hkl)
      have hA' : A = some ⟨b, o, none⟩ := hA
      subst hA'
      generalize bs[k] = y at *
      clear hA
      go_wp2_with (go_at_call 115; refine (turned_any _ _).mono ?_; rintro e w' ⟨rfl, rfl⟩)
      go_round
      case rel => exact ⟨k + 1, by omega, by go_num, by rw [hct.out, F.cbyte_eq]⟩
      case measure => simp [intOf]; omega
    · have i1 : ¬ (k : Int) < (n : Int) := by omega
      have hk2 : k = n := by omega
      have HE := Lib.hid (show bs.take k = bs from List.take_of_length_le (by rw [HL.out]; omega))
      clear hk2
      go_wp2
      go_ret
      exact ⟨by rw [HE.out]; rfl, rfl⟩
set_option maxHeartbeats 2000000 in
theorem rsum_any (A : Option Addr) (n c : Nat) (bs : List (BitVec 8)) (w : World) (hr : RowRd w ⟨A, n, c⟩ bs) (hn : n ≤ 9223372036854775807) :
    Calls Tryz.prog 75 #[.slice A n c] w fun e w' => e = .returned (W32 (F.fsum bs)) ∧ ∃ q, w' = w.drewN q := by
  have h1 : ∀ t (x : BitVec 32), binOp .and t (W32 x) (.int .u32 1) = pure (W32 (x &&& 1#32)) := fun t x => W32_and t x 1#32
  have h2 : ∀ t (x : BitVec 32), binOp .xor t (W32 x) (.int .u32 2197175160) = pure (W32 (x ^^^ F.poly)) := fun t x => W32_xor t x F.poly
  have h3 : ∀ t (x : BitVec 32), binOp .eql t (W32 x) (.int .u32 1) = pure (.bool (x == 1#32)) := fun t x => W32_eql t x 1#32
  have hcv := fun w (x : BitVec 8) => conv_B8_W32 (P := Tryz.prog) w 5 128 x Tryz.underlying5 Tryz.underlying128
  have HR := Lib.hid hr; have HL := Lib.hid (show bs.length = n from hr.len)
  clear hr
  go_enter Tryz.func75, Tryz.ntmps75
  go_wp2
  go_loop [3, 4, 5, 6] (fun v i _ _ => ∃ k : Nat, k ≤ n ∧ i = .int .i64 (k : Int) ∧ v = W32 (F.crc (~~~0#32) (bs.take k))) (fun _ i _ _ => n - (intOf i).toNat)
  case atStart => exact ⟨0, by omega, rfl, rfl⟩
  case round =>
    obtain ⟨k, hk, rfl, rfl⟩ := hrel
    have k0 : (0 : Int) ≤ (k : Int) := by omega
    by_cases hlt : k < n
    · have i1 : (k : Int) < (n : Int) := by omega
      have hkl : k < bs.length := by rw [HL.out]; exact hlt
      obtain ⟨b, o, hA, hc⟩ := HR.out.rd k hkl
      have hct := Lib.hid (crc_take (~~~0#32) bs k hkl)
      have hA' : A = some ⟨b, o, none⟩ := hA
      subst hA'
      generalize bs[k] = y at *
      clear hA
      go_wp2
      go_loop [3, 5, 6] (fun v i _ => ∃ j : Nat, j ≤ 8 ∧ i = .int .i64 (j : Int) ∧ v = W32 (F.csteps j (F.crc (~~~0#32) (bs.take k) ^^^ y.setWidth 32))) (fun _ i _ => 8 - (intOf i).toNat)
      case atStart => exact ⟨0, by omega, rfl, rfl⟩
      case round =>
        obtain ⟨j, hj, rfl, rfl⟩ := hrel
        by_cases hlt2 : j < 8
        · have j1 : (j : Int) < 8 := by omega
          have hst : F.csteps (j + 1) (F.crc (~~~0#32) (bs.take k) ^^^ y.setWidth 32) = F.cstep (F.csteps j (F.crc (~~~0#32) (bs.take k) ^^^ y.setWidth 32)) := csteps_succ _ _
          generalize F.csteps j (F.crc (~~~0#32) (bs.take k) ^^^ y.setWidth 32) = u at *
          have hst := Lib.hid hst
          by_cases hb : u.getLsbD 0 = true
          · have hu : ((u &&& 1#32) == 1#32) = true := by
              have h4 : u &&& 1#32 = 1#32 := by
                apply BitVec.eq_of_getLsbD_eq; intro i hi
                rw [BitVec.getLsbD_and, BitVec.getLsbD_one]
                cases i with
                | zero => simpa using hb
                | succ i => simp
              rw [h4]; rfl
            have hcs := Lib.hid (show F.cstep u = (u >>> 1) ^^^ F.poly by unfold F.cstep; rw [hb]; rfl)
            clear hb
            go_wp2
            go_round
            case rel => exact ⟨j + 1, by omega, by go_num, by rw [hst.out, hcs.out]⟩
            case measure => simp [intOf]; omega
          · have hb' : u.getLsbD 0 = false := by simpa using hb
            have hu : ((u &&& 1#32) == 1#32) = false := by
              have h4 : u &&& 1#32 = 0#32 := by
                apply BitVec.eq_of_getLsbD_eq; intro i hi
                rw [BitVec.getLsbD_and, BitVec.getLsbD_one]
                cases i with
                | zero => simpa using hb'
                | succ i => simp
              rw [h4]; rfl
            have hcs := Lib.hid (show F.cstep u = u >>> 1 by unfold F.cstep; rw [hb']; simp)
            clear hb hb'
            go_wp2
            go_round
            case rel => exact ⟨j + 1, by omega, by go_num, by rw [hst.out, hcs.out]⟩
            case measure => simp [intOf]; omega
        · have j1 : ¬ (j : Int) < 8 := by omega
          obtain rfl : j = 8 := by omega
          go_wp2
          go_round
          case rel => exact ⟨k + 1, by omega, by go_num, by rw [hct.out]; rfl⟩
          case measure => simp [intOf]; omega
    · have i1 : ¬ (k : Int) < (n : Int) := by omega
      have HE := Lib.hid (show bs.take k = bs from List.take_of_length_le (by rw [HL.out]; omega))
      go_wp2
      go_ret
      exact ⟨by rw [HE.out]; rfl, 0, rfl⟩
end Go.Proofs.YtfpjmeknjhhakaaGreat.K

/- The contracts of frame.four, the reference's four, and frame.check. -/
namespace Go.Proofs.YtfpjmeknjhhakaaGreat.K
open Go Go.RowKit

def FourPost (w : World) (n : F.W) (e : Ending) (w' : World) : Prop := e = .returned (.agg (bv (F.be4 n)).toArray) ∧ Since w w'
theorem infoFour (l : List (BitVec 8)) (h : l.length = 4) : (Tryz.prog.info? 161).map (·.size) = some (bv l).toArray.size := by
  rw [show (bv l).toArray.size = 4 by rw [List.size_toArray, bv_length, h]]; kernel_rfl
set_option maxHeartbeats 1000000 in
theorem four_any (x : BitVec 32) (w : World) : Calls Tryz.prog 110 #[W32 x] w (FourPost w x) := by
  have hcv := fun w (x : BitVec 32) => conv_W32_B8 (P := Tryz.prog) w 128 5 x Tryz.underlying128 Tryz.underlying5
  go_enter Tryz.func110, Tryz.ntmps110
  go_wp2
  refine bodyPost_ret (v := .agg (bv (F.be4 x)).toArray) ?_ ?_ ?_
  · exact results_cell_row rfl _ _ w.heap.size 161 (bv (F.be4 x)).toArray (0, 0) _ rfl (heap_alloc_new w _) Tryz.underlying161 rfl (infoFour _ rfl)
  · rfl
  · exact ⟨rfl, (Below.refl _ _).alloc (Nat.le_refl _) _⟩
set_option maxHeartbeats 1000000 in
theorem rfour_any (x : BitVec 32) (w : World) : Calls Tryz.prog 74 #[W32 x] w (Made w (F.be4 x)) := by
  have hcv := fun w (x : BitVec 32) => conv_W32_B8 (P := Tryz.prog) w 128 5 x Tryz.underlying128 Tryz.underlying5
  have HFIN := Lib.hid (show Made w (F.be4 x) (.returned (.slice (some ⟨w.heap.size, 0, none⟩) 4 4)) (w.alloc (.cells (bv (F.be4 x)).toArray 5)) from
    ⟨w.heap.size, 4, 4, rfl, rfl, by have := World.ownsRow_lit (base := w.heap.size) (size := 1) (e := 5) w (bv (F.be4 x)).toArray 4 (Nat.le_refl _) (by unfold maxLen; omega) rfl; exact this, (Below.refl _ _).alloc (Nat.le_refl _) _⟩)
  go_enter Tryz.func74, Tryz.ntmps74
  go_wp2
  go_ret
  exact HFIN.out

/-- the error that a frame's check throws -/
def errP (n : Int) : List PanicEntry := [{ v := .iface 28 (.int .i64 n), recovered := false }]
def CheckPost (w : World) (f : F.Fr) (e : Ending) (w' : World) : Prop := e = (if F.errOf f = 0 then .returned (.tuple #[]) else .panicked (errP (F.errOf f))) ∧ Since w w'
set_option maxHeartbeats 1000000 in
theorem check_any (k : Int) (A : Option Addr) (n c : Nat) (bs : List (BitVec 8)) (w : World) (hn : bs.length = n) :
    Calls Tryz.prog 97 #[.agg #[.int .i64 k, .slice A n c]] w (CheckPost w ⟨k, bs⟩) := by
  have hb : Since w (w.alloc (.cells #[.int .i64 k, .slice A n c] 78)) := (Below.refl _ _).alloc (Nat.le_refl _) _
  have HB := Lib.hid hb
  clear hb
  by_cases h1 : k < 0
  · have HE := Lib.hid (show F.errOf ⟨k, bs⟩ = 2 by unfold F.errOf; rw [if_pos (.inl h1)])
    have d1 : decide (k < 0) = true := by simpa using h1
    go_enter Tryz.func97, Tryz.ntmps97
    go_wp2
    exact ⟨rfl, by rw [HE.out]; rfl, HB.out⟩
  · have d1 : decide (k < 0) = false := by simpa using h1
    by_cases h2 : 255 < k
    · have HE := Lib.hid (show F.errOf ⟨k, bs⟩ = 2 by unfold F.errOf; rw [if_pos (.inr h2)])
      go_enter Tryz.func97, Tryz.ntmps97
      go_wp2
      exact ⟨rfl, by rw [HE.out]; rfl, HB.out⟩
    · by_cases h3 : 262144 < n
      · have HE := Lib.hid (show F.errOf ⟨k, bs⟩ = 3 by unfold F.errOf; rw [if_neg (by show ¬ (k < 0 ∨ 255 < k); omega), if_pos (by show _ < bs.length; omega)])
        have i3 : (262144 : Int) < (n : Int) := by omega
        go_enter Tryz.func97, Tryz.ntmps97
        go_wp2
        exact ⟨rfl, by rw [HE.out]; rfl, HB.out⟩
      · have HE := Lib.hid (show F.errOf ⟨k, bs⟩ = 0 by unfold F.errOf; rw [if_neg (by show ¬ (k < 0 ∨ 255 < k); omega), if_neg (by show ¬ _ < bs.length; omega)])
        have i3 : ¬ (262144 : Int) < (n : Int) := by omega
        go_enter Tryz.func97, Tryz.ntmps97
        go_wp2
        go_end0
        exact ⟨by rw [HE.out]; rfl, HB.out⟩
end Go.Proofs.YtfpjmeknjhhakaaGreat.K

/- The contract of frame.start. -/
namespace Go.Proofs.YtfpjmeknjhhakaaGreat.K
open Go Go.RowKit

/-- a frame's box -/
abbrev Box2 (w : World) (b : Nat) (k : Int) (A : Option Addr) (n c : Nat) : Prop := w.cell? ⟨b, 0, none⟩ = some (.int .i64 k) ∧ w.cell? ⟨b, 1, none⟩ = some (.slice A n c)
theorem box2_since {w w' : World} {b : Nat} {k : Int} {A : Option Addr} {n c : Nat} (h : Box2 w b k A n c) (hs : Since w w') : Box2 w' b k A n c :=
  ⟨(hs.cell (p := ⟨b, 0, none⟩) (block_lt_of_cell h.1)).trans h.1, (hs.cell (p := ⟨b, 1, none⟩) (block_lt_of_cell h.2)).trans h.2⟩
theorem kind_B8 (y : Int) : Value.int .u8 (IntKind.u8.wrap y) = B8 (BitVec.ofInt 8 y) := by
  have h : IntKind.u8.wrap y = ((BitVec.ofInt 8 y).toNat : Int) := by
    rw [IntKind.wrap_u8', BitVec.toNat_ofInt]; omega
  rw [B8, h]
theorem conv_kind {P : Program} (w : World) (src dst : TypeId) (y : Int) (hs : P.underlying src = some (.int .i64)) (hd : P.underlying dst = some (.int .u8)) : (convert src dst (.int .i64 y)).run P w = .ok (B8 (BitVec.ofInt 8 y)) w := by
  rw [← kind_B8]
  simp [convert, run_underlying hs, run_underlying hd, Conv.intToInt]
/-- a four's block reads as its bytes -/
theorem four_row {w : World} (x : F.W) (t : TypeId) : RowRd (w.alloc (.cells (bv (F.be4 x)).toArray t)) ⟨some ⟨w.heap.size, 0, none⟩, 4, 4⟩ (F.be4 x) :=
  ⟨Rd.of_block (heap_alloc_new w _) (by rfl), rfl, fun h => by cases h⟩
theorem four_lit (x : BitVec 32) (w : World) : Calls Tryz.prog 110 #[W32 x] w fun e w' => ∃ a b c d, F.be4 x = [a, b, c, d] ∧ e = .returned (.agg #[B8 a, B8 b, B8 c, B8 d]) ∧ Since w w' :=
  (four_any x w).mono fun e w' ⟨he, hs⟩ => ⟨_, _, _, _, rfl, he, hs⟩
/-- a four's block, still noughts -/
def Zero4 (w : World) (X : Nat) : Prop := w.heap[X]? = some (.cells [Value.int .u8 0, .int .u8 0, .int .u8 0, .int .u8 0].toArray 161 (0, 0))
theorem Zero4.new (w : World) : Zero4 (w.alloc (.cells #[.int .u8 0, .int .u8 0, .int .u8 0, .int .u8 0] 161)).drew w.heap.size := heap_alloc_new w _
theorem Zero4.since {w w' : World} {X : Nat} (h : Zero4 w X) (hs : Since w w') : Zero4 w' X := Since.at hs h
theorem Zero4.cells {w : World} {X : Nat} (h : Zero4 w X) : w.cell? ⟨X, 0, none⟩ = some (.int .u8 0) ∧ w.cell? ⟨X, 1, none⟩ = some (.int .u8 0) ∧ w.cell? ⟨X, 2, none⟩ = some (.int .u8 0) ∧ w.cell? ⟨X, 3, none⟩ = some (.int .u8 0) :=
  ⟨block_cell h rfl, block_cell h rfl, block_cell h rfl, block_cell h rfl⟩
theorem Zero4.free {w : World} {X : Nat} (h : Zero4 w X) : w.frozen? ⟨X, 0, none⟩ = false ∧ w.frozen? ⟨X, 1, none⟩ = false ∧ w.frozen? ⟨X, 2, none⟩ = false ∧ w.frozen? ⟨X, 3, none⟩ = false :=
  ⟨frozen_of_row w X 0 _ _ h, frozen_of_row w X 1 _ _ h, frozen_of_row w X 2 _ _ h, frozen_of_row w X 3 _ _ h⟩
theorem Zero4.set {w : World} {X : Nat} (h : Zero4 w X) (a b c d : BitVec 8) : RowRd ((((w.setCell ⟨X, 0, none⟩ (B8 a)).setCell ⟨X, 1, none⟩ (B8 b)).setCell ⟨X, 2, none⟩ (B8 c)).setCell ⟨X, 3, none⟩ (B8 d)) ⟨some ⟨X, 0, none⟩, 4, 4⟩ [a, b, c, d] :=
  ⟨Rd.of_block (block_set (block_set (block_set (block_set h 0 _) 1 _) 2 _) 3 _) rfl, rfl, fun h => by cases h⟩
theorem Since.set4 {w0 w : World} (h : Since w0 w) {X : Nat} (hX : w0.heap.size ≤ X) (a b c d : Value) : Since w0 ((((w.setCell ⟨X, 0, none⟩ a).setCell ⟨X, 1, none⟩ b).setCell ⟨X, 2, none⟩ c).setCell ⟨X, 3, none⟩ d) :=
  Since.set (Since.set (Since.set (Since.set h hX 0 a) hX 1 b) hX 2 c) hX 3 d
theorem own_somes' {w : World} {base : Nat} {e : TypeId} {A : Option Addr} {n c : Nat} {xs : List Value} (h : w.ownsRow base e 1 (.slice A n c) n xs) (hp : 0 < n) : ∃ g, A = some ⟨g, 0, none⟩ := by
  rcases h.2 with ⟨h0, _⟩ | ⟨g, cp, cur, h2, _⟩
  · simp at h0; omega
  · simp at h2; exact ⟨g, h2.1⟩
theorem more_first (A : Option Addr) (n c : Nat) (bs : List (BitVec 8)) (w : World) (hr : RowRd w ⟨A, n, c⟩ bs) (hn : n ≤ 9223372036854775807) :
    Calls Tryz.prog 106 #[.int .u32 4294967295, .slice A n c] w fun e w' => e = .returned (W32 (F.crc 4294967295#32 bs)) ∧ w = w' := more_any (~~~0#32) A n c bs w hr hn
theorem four_row' {w : World} (x : F.W) (a b c d : BitVec 8) (h : F.be4 x = [a, b, c, d]) (t : TypeId) : RowRd (w.alloc (.cells #[B8 a, B8 b, B8 c, B8 d] t)) ⟨some ⟨w.heap.size, 0, none⟩, 4, 4⟩ (F.be4 x) := by
  have := four_row (w := w) x t
  rw [h] at this ⊢
  exact this
set_option maxHeartbeats 4000000 in
set_option maxRecDepth 100000 in
theorem start_any (k : Int) (A : Option Addr) (n c : Nat) (bs : List (BitVec 8)) (w : World) (hr : RowRd w ⟨A, n, c⟩ bs) (hn : n ≤ 9223372036854775807) :
    Calls Tryz.prog 98 #[.agg #[.int .i64 k, .slice A n c]] w (Made w (F.five ⟨k, bs⟩ ++ F.be4 (F.fsum (F.five ⟨k, bs⟩ ++ bs)))) := by
  have hbx : Box2 (w.alloc (.cells #[.int .i64 k, .slice A n c] 78)) w.heap.size k A n c := ⟨by rw [World.cell?_alloc_new]; rfl, by rw [World.cell?_alloc_new]; rfl⟩
  have hs0 : Since w (w.alloc (.cells #[.int .i64 k, .slice A n c] 78)) := (Below.refl _ _).alloc (Nat.le_refl _) _
  have HBX := Lib.hid hbx; have HS0 := Lib.hid hs0; have HR := Lib.hid hr; have HL := Lib.hid (show bs.length = n from hr.len)
  have hcv := fun w (n : Nat) => conv_int_W32 (P := Tryz.prog) w 3 128 n Tryz.underlying3 Tryz.underlying128
  have hcv2 := fun w (y : Int) => conv_kind (P := Tryz.prog) w 3 5 y Tryz.underlying3 Tryz.underlying5
  clear hbx hs0 hr
  go_enter Tryz.func98, Tryz.ntmps98
  go_wp2_with fail
  refine (four_lit _ _).mono ?_
  rintro e w1 ⟨a, b, c', d, hfour, rfl, hs1⟩
  have S1 := Lib.hid (HS0.out.add hs1); have BX1 := Lib.hid (box2_since HBX.out hs1); have FO := Lib.hid hfour
  clear hs1 hfour HS0 HBX
  have RF := Lib.hid (four_row' (w := w1) _ a b c' d FO.out 161)
  have S2 := Lib.hid (S1.out.alloc (.cells #[B8 a, B8 b, B8 c', B8 d] 161)); have BX2 := Lib.hid (box2_since BX1.out ((Below.refl _ _).alloc (Nat.le_refl _) (.cells #[B8 a, B8 b, B8 c', B8 d] 161)))
  go_upto_region 2 with fail
  generalize w1.alloc (.cells #[B8 a, B8 b, B8 c', B8 d] 161) = w2 at *
  generalize w1.heap.size = X at *
  clear BX1 S1
  have hB := Bank.nil (Below.refl w2.heap.size w2)
  have hbd : Box2 w2.drew w.heap.size k A n c := BX2.out
  have hrd : RowRd (w2.alloc (.cells #[B8 (BitVec.ofInt 8 k)] 5)).drew ⟨some ⟨X, 0, none⟩, 4, 4⟩ (F.be4 (BitVec.ofNat 32 n)) := RF.out.below (Since.drew (Since.alloc (Below.refl _ _) _))
  have HBL := Lib.hid (box2_since BX2.out (Since.drew (Since.alloc (Below.refl w2.heap.size w2) (.cells #[B8 (BitVec.ofInt 8 k)] 5))))
  go_region_held3 (fun w' => Box2 w' w.heap.size k A n c)
    (first
      | with_reducible exact hbd
      | with_reducible exact HBL.out
      | with_reducible exact box2_since BX2.out hB.since
      | fail "keep")
    (first
      | (((with_reducible refine step_bank (Bank.drew (Bank.litV hB _ _ (by simp))) ?_); intro hB); refine step_append_bytes hB rfl _ _ 37 rfl 5 infoByte Tryz.underlying37 0 _ _ _ [BitVec.ofInt 8 k] rfl rfl _ _ _ _ rfl hrd (by omega) ?_; intro A' n' c' w3 hn' hB; have hn'' := Nat.le_of_eq hn'; clear hn'; dsimp only [List.set] at hB)
      | fail "arm")
  have BKA := Lib.hid hB
  clear hbd hrd HBL hB RF
  have RFI := Lib.hid (BKA.out.row 0 rfl)
  have HLF := Lib.hid (show [BitVec.ofInt 8 k] ++ F.be4 (BitVec.ofNat 32 n) = F.five ⟨k, bs⟩ by unfold F.five; rw [HL.out]; rfl)
  have BX3 := Lib.hid (box2_since BX2.out BKA.out.since)
  have R3 := Lib.hid (Since.row (S2.out.add BKA.out.since) HR.out)
  have HRF := Lib.hid (show RowRd w3 ⟨A', n', c'⟩ (F.five ⟨k, bs⟩) by rw [← HLF.out]; exact RFI.out)
  have BKB := Lib.hid (show Bank w2 w3 [⟨.slice A' n' c', n', 5, 1, bv (F.five ⟨k, bs⟩)⟩] by rw [← HLF.out]; exact BKA.out)
  clear BKA RFI HLF
  go_upto_region 3 with fail
  go_cut [5] (fun s5 wx => ∃ X5, s5 = .pointer (some ⟨X5, 0, none⟩) ∧ RowRd wx ⟨some ⟨X5, 0, none⟩, 4, 4⟩ (F.be4 (F.fsum (F.five ⟨k, bs⟩ ++ bs))) ∧ Since w3 wx)
  case first =>
    have hsd : Since w3 w3.drew := Since.drew (Below.refl _ _)
    have hsda : Since w3 (w3.alloc (.cells #[.int .u8 0, .int .u8 0, .int .u8 0, .int .u8 0] 161)).drew := Since.drew (Since.alloc (Below.refl _ _) _)
    have hbd := box2_since BX3.out hsd
    have hbda := box2_since BX3.out hsda
    have HN' := Lib.hid (show n' ≤ 9223372036854775807 by omega)
    have HSM := Lib.hid (F.crc_append 4294967295#32 (F.five ⟨k, bs⟩) bs)
    go_region_held3 (fun w' => Box2 w' w.heap.size k A n c)
      (first
        | with_reducible exact hbd
        | with_reducible exact box2_since BX3.out hs4
        | with_reducible exact hbda
        | with_reducible exact box2_since BX3.out (Since.set4 hs4 (Nat.le_refl _) _ _ _ _)
        | with_reducible exact box2_since BX3.out (Since.alloc hs4 _)
        | fail "keep")
      (first
        | (go_at_call 106; ((with_reducible refine (more_first A' n' c' (F.five ⟨k, bs⟩) _ (Since.row hsd HRF.out) HN'.out).mono ?_); rintro e w' ⟨rfl, rfl⟩))
        | (go_at_call 106; ((with_reducible refine (more_any (F.crc 4294967295#32 (F.five ⟨k, bs⟩)) A n c bs _ (Since.row hsd R3.out) hn).mono ?_); rintro e w' ⟨rfl, rfl⟩; rw [← HSM.out]))
        | (go_at_call 110; ((with_reducible refine (four_lit _ _).mono ?_); rintro e w4 ⟨a4, b4, c4, d4, hfour4, rfl, hs4'⟩; (first | have hs4 := Since.add hsd hs4' | (have hs4 := Since.add hsda hs4'; have hz4 := Zero4.since (Zero4.new w3) hs4'; obtain ⟨z0, z1, z2, z3⟩ := Zero4.cells hz4; obtain ⟨y0, y1, y2, y3⟩ := Zero4.free hz4)); have HF4 := Lib.hid hfour4; clear hfour4))
        | (go_at_call 106; ((with_reducible refine (more_first A' n' c' (F.five ⟨k, bs⟩) _ (Since.row hsda HRF.out) HN'.out).mono ?_); rintro e w' ⟨rfl, rfl⟩))
        | (go_at_call 106; ((with_reducible refine (more_any (F.crc 4294967295#32 (F.five ⟨k, bs⟩)) A n c bs _ (Since.row hsda R3.out) hn).mono ?_); rintro e w' ⟨rfl, rfl⟩; rw [← HSM.out]))
        | fail "arm")
    all_goals
      have hfin : (∃ X5, Value.pointer (some ⟨w4.heap.size, 0, none⟩) = .pointer (some ⟨X5, 0, none⟩) ∧ RowRd (w4.alloc (.cells #[B8 a4, B8 b4, B8 c4, B8 d4] 161)) ⟨some ⟨X5, 0, none⟩, 4, 4⟩ (F.be4 (F.fsum (F.five ⟨k, bs⟩ ++ bs))) ∧ Since w3 (w4.alloc (.cells #[B8 a4, B8 b4, B8 c4, B8 d4] 161))) :=
        ⟨_, rfl, four_row' _ _ _ _ _ HF4.out _, hs4.alloc _⟩
      have HFIN := Lib.hid hfin
      have hfin2 : (∃ z : Zero4 w4 w3.heap.size, True) → ∃ X5, Value.pointer (some ⟨w3.heap.size, 0, none⟩) = .pointer (some ⟨X5, 0, none⟩) ∧ RowRd ((((w4.setCell ⟨w3.heap.size, 0, none⟩ (B8 a4)).setCell ⟨w3.heap.size, 1, none⟩ (B8 b4)).setCell ⟨w3.heap.size, 2, none⟩ (B8 c4)).setCell ⟨w3.heap.size, 3, none⟩ (B8 d4)) ⟨some ⟨X5, 0, none⟩, 4, 4⟩ (F.be4 (F.fsum (F.five ⟨k, bs⟩ ++ bs))) ∧ Since w3 ((((w4.setCell ⟨w3.heap.size, 0, none⟩ (B8 a4)).setCell ⟨w3.heap.size, 1, none⟩ (B8 b4)).setCell ⟨w3.heap.size, 2, none⟩ (B8 c4)).setCell ⟨w3.heap.size, 3, none⟩ (B8 d4)) :=
        fun ⟨z, _⟩ => ⟨_, rfl, by rw [show F.be4 (F.fsum (F.five ⟨k, bs⟩ ++ bs)) = [a4, b4, c4, d4] from HF4.out]; exact z.set a4 b4 c4 d4, Since.set4 hs4 (Nat.le_refl _) _ _ _ _⟩
      have HFIN2 := Lib.hid hfin2
      clear hfin hfin2
      first
        | (go_wp2_with fail; go_meet; exact HFIN.out)
        | (go_wp2_with fail; go_meet; exact HFIN2.out ⟨hz4, trivial⟩)
  case rest =>
    obtain ⟨X5, rfl, hr5, hs5⟩ := hcut
    have BK5 := Lib.hid (BKB.out.call hs5); have R5 := Lib.hid hr5
    clear hr5 hs5 BKB
    go_wp2_with (at_builtin; refine wpList_append_bytes BK5.out rfl _ _ 37 rfl 5 infoByte Tryz.underlying37 0 _ _ _ _ rfl rfl _ _ _ _ rfl R5.out (by omega) ?_; intro A6 n6 c6 w6 hn6 hB6; dsimp only [List.set] at hB6; have B6 := Lib.hid hB6; have hn6' := Lib.hid hn6; clear hB6 hn6)
    have ho6 := B6.out.at 0 rfl
    have hs6 := S2.out.trans ((B6.out.since).mono S2.out.size)
    have hl5 : n' = 5 := (HRF.out.len).symm
    obtain ⟨g6, rfl⟩ := own_somes' ho6 (by have := hn6'.out; omega)
    have HFIN := Lib.hid (show Made w (F.five ⟨k, bs⟩ ++ F.be4 (F.fsum (F.five ⟨k, bs⟩ ++ bs))) (.returned (.slice (some ⟨g6, 0, none⟩) n6 c6)) w6 from ⟨g6, n6, c6, rfl, by rw [hn6'.out, hl5]; rfl, row_base ho6 S2.out.size, hs6⟩)
    clear ho6 hs6 hl5
    go_wp2
    go_ret
    exact HFIN.out
end Go.Proofs.YtfpjmeknjhhakaaGreat.K

/- The deferred closure of frame.Put. -/
namespace Go.Proofs.YtfpjmeknjhhakaaGreat.K
open Go Go.RowKit

theorem tmps15 (a b x : Value) : (#[a, b] ++ ((Array.replicate 13 undef).setIfInBounds 2 x).setIfInBounds 0 x) = #[a, b, x, undef, x, undef, undef, undef, undef, undef, undef, undef, undef, undef, undef] := by
  apply Array.toList_inj.1
  simp [List.replicate]
theorem catchPut_idle (p q : Addr) (w : World) :
    CallsD Tryz.prog 96 #[.pointer (some p), .pointer (some q)] .returning w fun e u' w' => e = .returned (.tuple #[]) ∧ u' = .returning ∧ w' = w := by
  refine callsD_of_wpS Tryz.func96 rfl fun c₀ cs hu => ?_
  apply wpS_seq
  apply wpS_region
  simp [wpOpsS, go_sem, recoverD, hu, Tryz.ntmps96, Exit.thenS]
  refine wpS_of_wp ?_
  rw [tmps15]
  go_wp2
  cases c₀
  simp_all [bodyPostS, results, Tryz.results96]
set_option maxHeartbeats 1000000 in
set_option maxRecDepth 100000 in
theorem catchPut_panicking (E B : Nat) (n y : Int) (v : Value) (w : World) (he : w.cell? ⟨E, 0, none⟩ = some (.int .i64 y)) (hef : w.frozen? ⟨E, 0, none⟩ = false) (hb : w.heap[B]? = some (.cells #[v] 37 (0, 0))) (hv : v.oneCell' = true) (hEB : E ≠ B) :
    CallsD Tryz.prog 96 #[.pointer (some ⟨E, 0, none⟩), .pointer (some ⟨B, 0, none⟩)] (.panicking (errP n)) w fun e u' w' =>
      e = .returned (.tuple #[]) ∧ u' = .panicking [{ v := .iface 28 (.int .i64 n), recovered := true }] ∧ w' = (w.setCell ⟨E, 0, none⟩ (.int .i64 n)).setCell ⟨B, 0, none⟩ (.slice none 0 0) := by
  have hta : ∀ w, (Instr.typeAssert (.iface 28 (.int .i64 n)) 20 28 true).run Tryz.prog w = .ok (.tuple #[.int .i64 n, .bool true]) w := fun _ => by kernel_rfl
  have hbc : (w.setCell ⟨E, 0, none⟩ (.int .i64 n)).cell? ⟨B, 0, none⟩ = some v := (World.cell?_setCell_other _ _ _ _ (fun e => hEB (by injection e))).trans (block_cell (xs := [v]) hb rfl)
  have hbf : w.frozen? ⟨B, 0, none⟩ = false := frozen_of_row w B 0 _ _ hb
  refine callsD_of_wpS Tryz.func96 rfl fun c₀ cs hu => ?_
  unfold errP at hu
  clear hb hv
  apply wpS_seq
  apply wpS_region
  simp [wpOpsS, go_sem, recoverD, hu, Tryz.ntmps96, Exit.thenS]
  refine wpS_of_wp ?_
  rw [tmps15]
  go_wp2
  cases c₀
  simp_all [bodyPostS, results, Tryz.results96]
end Go.Proofs.YtfpjmeknjhhakaaGreat.K

/- Small parts of frame.Put's contract: boxes as rows of a bank. -/
namespace Go.Proofs.YtfpjmeknjhhakaaGreat.K
open Go Go.RowKit

/-- what frame.Put tells -/
def pout (fs : List F.Fr) : List (BitVec 8) := if F.perr fs = 0 then F.pbytes fs else []
def PutPost (w : World) (fs : List F.Fr) (e : Ending) (w' : World) : Prop := ∃ A N c, e = .returned (.tuple #[.slice A N c, .int .i64 (F.perr fs)]) ∧ N = (pout fs).length ∧ w'.ownsRow w.heap.size 5 1 (.slice A N c) N (bv (pout fs)) ∧ Since w w'
theorem pbytes_take (fs : List F.Fr) (k : Nat) (h : k < fs.length) : F.pbytes (fs.take (k + 1)) = F.pbytes (fs.take k) ++ F.one fs[k] := by
  rw [List.take_succ_eq_append_getElem h, F.pbytes_append]; simp [F.pbytes]
theorem perr_take_bad (fs : List F.Fr) (k : Nat) (h : k < fs.length) (h0 : F.perr (fs.take k) = 0) (hb : F.errOf fs[k] ≠ 0) : F.perr fs = F.errOf fs[k] := by
  conv => lhs; rw [← List.take_append_drop k fs]
  rw [F.perr_append _ _ h0, List.drop_eq_getElem_cons h, F.perr, if_neg hb]
theorem perr_take_ok (fs : List F.Fr) (k : Nat) (h : k < fs.length) (h0 : F.perr (fs.take k) = 0) (hb : F.errOf fs[k] = 0) : F.perr (fs.take (k + 1)) = 0 := by
  rw [List.take_succ_eq_append_getElem h, F.perr_append _ _ h0, F.perr, if_pos hb]; rfl
theorem pbytes_take_le (fs : List F.Fr) (k : Nat) : (F.pbytes (fs.take k)).length ≤ (F.pbytes fs).length := by
  conv => rhs; rw [← List.take_append_drop k fs, F.pbytes_append]
  simp
end Go.Proofs.YtfpjmeknjhhakaaGreat.K

/- The contract of frame.Put. -/
namespace Go.Proofs.YtfpjmeknjhhakaaGreat.K
open Go Go.RowKit

def PutRel (w : World) (fs : List F.Fr) (k : Nat) (i : Value) (wr : World) : Prop := ∃ A N c, k ≤ fs.length ∧ i = .int .i64 (k : Int) ∧ F.perr (fs.take k) = 0 ∧
  Bank w wr [rowAcc A N c (F.pbytes (fs.take k)), boxAcc (w.heap.size + 1) 28 [.int .i64 0], boxAcc w.heap.size 37 [.slice A N c]]
set_option maxHeartbeats 4000000 in
set_option maxRecDepth 100000 in
theorem put_any (A : Option Addr) (n c : Nat) (fs : List F.Fr) (w : World) (hfs : Ones w A fs) (hn : fs.length = n) (hT : (F.pbytes fs).length ≤ 100000000000) :
    Calls Tryz.prog 77 #[.slice A n c] w (PutPost w fs) := by
  have hmf : ∀ (fn : Fn) (first cap : Array Value) (w : World), (Instr.makeFunc fn first cap).run Tryz.prog w = .ok (.func fn first cap) w := fun _ _ _ _ => rfl
  have HF := Lib.hid hfs; have HN := Lib.hid hn
  have hB0 : Bank w ((w.alloc (.cells #[.slice none 0 0] 37)).alloc (.cells #[.int .i64 0] 28)) [rowAcc none 0 0 (F.pbytes (fs.take 0)), boxAcc (w.heap.size + 1) 28 [.int .i64 0], boxAcc w.heap.size 37 [.slice none 0 0]] := by
    have h1 := (Bank.nil (Below.refl w.heap.size w)).box #[.slice none 0 0] 37 (by simp)
    have h2 := h1.box #[.int .i64 0] 28 (by simp)
    rw [show (w.alloc (.cells #[.slice none 0 0] 37)).heap.size = w.heap.size + 1 by simp] at h2
    exact h2.none _ _
  have HB0 := Lib.hid hB0
  have hn63 : n ≤ 9223372036854775807 := by
    have : fs.length ≤ (F.pbytes fs).length := by
      clear hT hfs HF HN hB0 HB0 hn
      induction fs with
      | nil => exact Nat.zero_le _
      | cons f fs ih => rw [F.pbytes_cons, List.length_append, F.one_length, List.length_cons]; omega
    omega
  clear hfs hn hB0
  go_enter_defers Tryz.func77, Tryz.ntmps77
  go_wp2_with fail
  go_loopw [9] (fun i wr => ∃ k, PutRel w fs k i wr) (fun i _ => n - (intOf i).toNat)
  case atStart => exact ⟨0, none, 0, 0, Nat.zero_le _, rfl, rfl, HB0.out⟩
  case round =>
    clear HB0
    obtain ⟨k, A', N, c', hk, rfl, hpe, hB⟩ := hrel
    have HB := Lib.hid hB; have HPE := Lib.hid hpe
    have k0 : (0 : Int) ≤ (k : Int) := by omega
    clear hB hpe
    by_cases hlt : k < n
    · have i1 : (k : Int) < (n : Int) := by omega
      have hkl : k < fs.length := by rw [HN.out]; exact hlt
      obtain ⟨b, o, hA, D, m, d, hc, _, hr, _, _⟩ := HF.out k hkl
      subst hA
      obtain ⟨kd, ds, hfk⟩ : ∃ kd ds, fs[k] = F.Fr.mk kd ds := ⟨_, _, rfl⟩
      simp only [hfk] at hc hr
      have HFK := Lib.hid hfk
      have c0 := (HB.out.since.cell (p := ⟨b, o + k * 2, none⟩) (block_lt_of_cell (hc 0 _ rfl))).trans (hc 0 _ rfl)
      have c1 := (HB.out.since.cell (p := ⟨b, o + k * 2 + 1, none⟩) (block_lt_of_cell (hc 1 _ rfl))).trans (hc 1 _ rfl)
      have HRD := Lib.hid (show RowRd w ⟨D, m, d⟩ ds from hr); have HLD := Lib.hid (show ds.length = m from hr.len)
      have BK1 := Lib.hid (HB.out.box #[.int .i64 kd, .slice D m d] 78 (by simp))
      clear hc hr hfk HB
      go_wp2_with fail
      refine (check_any kd D m d ds _ HLD.out).mono ?_
      rintro e w2 ⟨rfl, hs2⟩
      have BK2 := Lib.hid (BK1.out.call hs2)
      clear hs2 BK1 c0 c1
      by_cases hbad : F.errOf ⟨kd, ds⟩ = 0
      · rw [if_pos hbad]
        have HBAD := Lib.hid hbad
        clear hbad
        have HT := Lib.hid (show (F.pbytes (fs.take k)).length + (9 + ds.length) ≤ 100000000000 by
          have h1 := pbytes_take_le fs (k + 1)
          rw [pbytes_take fs k hkl, List.length_append, F.one_length, HFK.out] at h1
          have h2 : (F.Fr.mk kd ds).data.length = ds.length := rfl
          omega)
        have HNN := Lib.hid (show (F.pbytes (fs.take k)).length = N from (RowRd.of_row (BK2.out.at 1 rfl)).len)
        have HPK := Lib.hid (perr_take_ok fs k hkl HPE.out (by rw [HFK.out]; exact HBAD.out))
        have HPB := Lib.hid (show F.pbytes (fs.take (k + 1)) = F.pbytes (fs.take k) ++ F.one ⟨kd, ds⟩ by rw [pbytes_take fs k hkl, HFK.out])
        go_wp2_with fail
        have hB := BK2.out.drew
        have cb := BK2.out.cell 3 rfl 0 rfl
        have x0 := BK2.out.cell 0 rfl 0 rfl
        have x1 := BK2.out.cell 0 rfl 1 rfl
        have hm : m ≤ 100000000000 := by have := HT.out; have := HLD.out; omega
        have hNm : N + (9 + m) ≤ 100000000000 := by have := HT.out; have := HLD.out; have := HNN.out; omega
        refine wp_region_noPanic ?_
        go_region_law (first
          | (go_simp; go_at_call 98; refine (start_any kd D m d ds _ (Since.row hB.since HRD.out) (by omega)).mono ?_; rintro e w3 ⟨g3, N3, c3, rfl, hN3, ho3, hb3⟩; have hN3' := Nat.le_of_eq hN3; have hB := hB.madeB hb3 ho3; clear hN3 ho3 hb3; have cb := hB.cell 4 rfl 0 rfl; have x0 := hB.cell 1 rfl 0 rfl; have x1 := hB.cell 1 rfl 1 rfl)
          | (refine step_append_bytes hB rfl (.tmp 15) (.tmp 17) 37 rfl 5 infoByte Tryz.underlying37 2 _ _ _ _ rfl rfl _ _ _ _ rfl (hB.row 0 rfl) (by simp [F.five_length, F.be4_length] at hN3'; omega) ?_; intro A4 n4 c4 w4 hn4 hB; have hn4' := Nat.le_of_eq hn4; clear hn4; dsimp only [List.set] at hB; have cb := hB.cell 4 rfl 0 rfl; have cf := hB.free 4 rfl 0; have x0 := hB.cell 1 rfl 0 rfl; have x1 := hB.cell 1 rfl 1 rfl)
          | (refine step_append_bytes hB rfl (.tmp 18) (.tmp 20) 37 rfl 5 infoByte Tryz.underlying37 2 _ _ _ _ rfl rfl _ _ _ _ rfl (Since.row hB.since HRD.out) (by simp [F.five_length, F.be4_length] at hN3'; omega) ?_; intro A5 n5 c5 w5 hn5 hB; have hn5' := Nat.le_of_eq hn5; clear hn5; dsimp only [List.set] at hB; have cb := hB.cell 4 rfl 0 rfl; have cf := hB.free 4 rfl 0)
          | fail "arm")
        all_goals
          have hfin : Bank w (w5.setCell ⟨w.heap.size, 0, none⟩ (.slice A5 n5 c5)) [rowAcc A5 n5 c5 (F.pbytes (fs.take (k + 1))), boxAcc (w.heap.size + 1) 28 [.int .i64 0], boxAcc w.heap.size 37 [.slice A5 n5 c5]] := by
            have h := (hB.boxSet 4 rfl 0 (.slice A5 n5 c5)).drop.drop
            rw [HPB.out, show F.pbytes (fs.take k) ++ F.one ⟨kd, ds⟩ = (F.pbytes (fs.take k) ++ (F.five ⟨kd, ds⟩ ++ F.be4 (F.fsum (F.five ⟨kd, ds⟩ ++ ds)))) ++ ds by simp [F.one, List.append_assoc]]
            exact h
          have HFIN := Lib.hid (show PutRel w fs (k + 1) (.int .i64 ((k : Int) + 1)) (w5.setCell ⟨w.heap.size, 0, none⟩ (.slice A5 n5 c5)) from ⟨A5, n5, c5, by omega, by go_num, HPK.out, hfin⟩)
          clear hfin hB cb cf x0 x1 hn4' hn5' hN3' hm hNm
          refine NoPanic.normal ?_
          go_wp2_with fail
          exact ⟨⟨k + 1, HFIN.out⟩, by simp [intOf]; omega⟩
      · rw [if_neg hbad]
        have HPE2 := Lib.hid (show F.perr fs = F.errOf ⟨kd, ds⟩ by rw [perr_take_bad fs k hkl HPE.out (by rw [HFK.out]; exact hbad), HFK.out])
        have HPO := Lib.hid (show pout fs = [] by unfold pout; rw [if_neg (by rw [HPE2.out]; exact hbad)])
        have e0 := BK2.out.cell 2 rfl 0 rfl
        have ef := BK2.out.free 2 rfl 0
        have hbx := (BK2.out.boxAt 3 rfl).2
        have BKE := Lib.hid ((BK2.out.boxSet 2 rfl 0 (.int .i64 (F.errOf ⟨kd, ds⟩))).boxSet 3 rfl 0 (.slice none 0 0))
        have HEF := Lib.hid (show _ ∧ _ ∧ _ from ⟨e0, ef, hbx⟩)
        clear hbad e0 ef hbx
        go_wp2
        refine leaves_cons (f := 96) (args := #[.pointer (some ⟨w.heap.size + 1, 0, none⟩), .pointer (some ⟨w.heap.size, 0, none⟩)]) (by simp) (by simp [go_sem]) ?_
        refine (catchPut_panicking (w.heap.size + 1) w.heap.size _ _ _ _ HEF.out.1 HEF.out.2.1 HEF.out.2.2 rfl (by omega)).mono ?_
        rintro e u' w'' ⟨rfl, rfl, rfl⟩
        have rb := BKE.out.cell 3 rfl 0 rfl
        have re := BKE.out.cell 2 rfl 0 rfl
        refine ⟨.tuple #[.slice none 0 0, .int .i64 (F.errOf ⟨kd, ds⟩)], by simp [results, Tryz.results77, go_sem, rb, re], ?_⟩
        exact ⟨none, 0, 0, by rw [HPE2.out], by rw [HPO.out]; rfl, by rw [HPO.out]; exact World.ownsRow_nil _ _ _ _, BKE.out.since⟩
    · have i1 : ¬ (k : Int) < (n : Int) := by omega
      have hkn : k = fs.length := by rw [HN.out]; have := HN.out; omega
      have ht : fs.take k = fs := by rw [hkn, List.take_length]
      have hp0 : F.perr fs = 0 := by rw [← ht]; exact HPE.out
      have hpo : pout fs = F.pbytes fs := by unfold pout; rw [if_pos hp0]
      have hB2 := HB.out
      rw [ht] at hB2
      have cb := hB2.cell 2 rfl 0 rfl
      have ce := hB2.cell 1 rfl 0 rfl
      have fb := hB2.free 2 rfl 0
      have fe := hB2.free 1 rfl 0
      have BKE := Lib.hid ((hB2.boxSet 2 rfl 0 (.slice A' N c')).boxSet 1 rfl 0 (.int .i64 0))
      have HPO := Lib.hid hpo; have HP0 := Lib.hid hp0
      clear hkn ht hp0 hpo hB2
      go_wp2
      refine leaves_cons (f := 96) (args := #[.pointer (some ⟨w.heap.size + 1, 0, none⟩), .pointer (some ⟨w.heap.size, 0, none⟩)]) (by simp) (by simp [go_sem]) ?_
      refine (catchPut_idle _ _ _).mono ?_
      rintro e u' w'' ⟨rfl, rfl, rfl⟩
      have rb := BKE.out.cell 2 rfl 0 rfl
      have re := BKE.out.cell 1 rfl 0 rfl
      have ho := BKE.out.at 0 rfl
      refine ⟨.tuple #[.slice A' N c', .int .i64 0], by simp [results, Tryz.results77, go_sem, rb, re], ?_⟩
      exact ⟨A', N, c', by rw [HP0.out]; rfl, by rw [HPO.out]; exact (RowRd.of_row ho).len.symm, by rw [HPO.out]; exact ho, BKE.out.since⟩
end Go.Proofs.YtfpjmeknjhhakaaGreat.K

/- The contracts of the numbers that frames hold. -/
namespace Go.Proofs.YtfpjmeknjhhakaaGreat.K
open Go Go.RowKit

/-- a number, so many of its bytes taken in -/
def nums (bs : List (BitVec 8)) (at' : Nat) : Nat → F.W
  | 0 => 0#32
  | j + 1 => (nums bs at' j <<< 8) ||| (bs.getD (at' + j) 0).setWidth 32
theorem nums_four (bs : List (BitVec 8)) (at' : Nat) : nums bs at' 4 = F.num4 (bs.drop at') := by
  unfold F.num4
  rw [← F.of4_loop]
  simp [nums]
set_option maxHeartbeats 1000000 in
theorem number_any (S : Nat) (at' : Nat) (b o n c : Nat) (bs : List (BitVec 8)) (w : World) (hS : w.cell? ⟨S, 0, none⟩ = some (.slice (some ⟨b, o, none⟩) n c)) (hr : RowRd w ⟨some ⟨b, o, none⟩, n, c⟩ bs) (hn : at' + 4 ≤ n) (hc : n ≤ c) (hc2 : c ≤ 9223372036854775807) :
    Calls Tryz.prog 105 #[.pointer (some ⟨S, 0, none⟩), .int .i64 (at' : Int)] w fun e w' => e = .returned (W32 (F.num4 (bs.drop at'))) ∧ w = w' := by
  have hcv := fun w (x : BitVec 8) => conv_B8_W32 (P := Tryz.prog) w 5 128 x Tryz.underlying5 Tryz.underlying128
  have a0 : (0 : Int) ≤ (at' : Int) := by omega
  have a1 : (at' : Int) ≤ (at' : Int) + 4 := by omega
  have a2 : (at' : Int) + 4 ≤ (c : Int) := by omega
  have a3 : ¬ c = at' := by omega
  have a4 : ((at' : Int) + 4).toNat = at' + 4 := by omega
  have a5 : at' + 4 - at' = 4 := by omega
  have a6 : (at' : Int) + 4 ≤ 9223372036854775807 := by omega
  have HR := Lib.hid hr; have HL := Lib.hid (show bs.length = n from hr.len)
  clear hr
  go_enter Tryz.func105, Tryz.ntmps105
  go_wp2
  go_loop [5, 7, 17] (fun v _ i => ∃ j : Nat, j ≤ 4 ∧ i = .int .i64 (j : Int) ∧ v = W32 (nums bs at' j)) (fun _ _ i => 4 - (intOf i).toNat)
  case atStart => exact ⟨0, by omega, rfl, rfl⟩
  case round =>
    obtain ⟨j, hj, rfl, rfl⟩ := hrel
    have j0 : (0 : Int) ≤ (j : Int) := by omega
    by_cases hlt : j < 4
    · have i1 : (j : Int) < 4 := by omega
      have hkl : at' + j < bs.length := by rw [HL.out]; omega
      obtain ⟨b', o', e, hcx⟩ := HR.out.rd (at' + j) hkl
      obtain ⟨rfl, rfl⟩ : b = b' ∧ o = o' := by simpa using e
      have hg : bs[at' + j] = bs.getD (at' + j) 0 := by simp [hkl]
      have hcell : w.cell? ⟨b, o + at' + j, none⟩ = some (B8 (bs.getD (at' + j) 0)) := by rw [← hg, ← hcx, Nat.add_assoc]
      clear e hcx hg hkl
      have HE := Lib.hid (show nums bs at' (j + 1) = (nums bs at' j <<< 8) ||| (bs.getD (at' + j) 0).setWidth 32 from rfl)
      generalize bs.getD (at' + j) 0 = y at *
      generalize nums bs at' j = u at *
      go_wp2
      go_round
      case rel => exact ⟨j + 1, by omega, by go_num, by rw [HE.out]⟩
      case measure => simp [intOf]; omega
    · have i1 : ¬ (j : Int) < 4 := by omega
      obtain rfl : j = 4 := by omega
      go_wp2
      go_ret
      exact ⟨by rw [← nums_four]; rfl, rfl⟩
end Go.Proofs.YtfpjmeknjhhakaaGreat.K

/- Small parts of the contract of frame's scan.next. -/
namespace Go.Proofs.YtfpjmeknjhhakaaGreat.K
open Go Go.RowKit

theorem heap_set_same {w0 w : World} {S : Nat} (j : Nat) (v : Value) {k : Nat} (h : w.heap[k]? = w0.heap[k]?) : (w.setCell ⟨S, j, none⟩ v).heap[k]? = (w0.setCell ⟨S, j, none⟩ v).heap[k]? := by
  show (w.heap.modify S _)[k]? = (w0.heap.modify S _)[k]?
  rw [Array.getElem?_modify, Array.getElem?_modify, h]
/-- a block that lay before is written, in the base world too -/
theorem Bank.storeOld {w0 w : World} {L : List Acc} (h : Bank w0 w L) {S : Nat} (hS : S < w0.heap.size) (j : Nat) (v : Value) : Bank (w0.setCell ⟨S, j, Option.none⟩ v) (w.setCell ⟨S, j, Option.none⟩ v) L := by
  have hz : ∀ w : World, (w.setCell ⟨S, j, Option.none⟩ v).heap.size = w.heap.size := fun w => by simp
  refine ⟨⟨h.since.os, h.since.tape, h.since.output, by rw [hz, hz]; exact h.since.size, fun k hk => heap_set_same j v (h.since.block k (by rw [hz] at hk; exact hk))⟩, fun p hp => ?_, h.sep⟩
  have hne : p.v.ownBlock ≠ some S := fun e => by have := (h.lt hp e).1; omega
  have := (h.own p hp).kept (grownBy_setCell w S j v) (by
    cases hq : p.v.ownBlock with
    | none => exact .inl rfl
    | some x => exact .inr (fun e => hne (hq.trans e)))
  rw [hz]
  exact this
/-- the block of a scan -/
def scanL (A : Option Addr) (n c : Nat) (u : Nat) (sp : Bool) : List Value := [.slice A n c, .int .i64 (u : Int), .bool sp]
def ScanAt (w : World) (S : Nat) (A : Option Addr) (n c u : Nat) (sp : Bool) : Prop := w.heap[S]? = some (.cells (scanL A n c u sp).toArray 113 (0, 0))
theorem ScanAt.cells {w : World} {S : Nat} {A : Option Addr} {n c u : Nat} {sp : Bool} (h : ScanAt w S A n c u sp) : w.cell? ⟨S, 0, none⟩ = some (.slice A n c) ∧ w.cell? ⟨S, 1, none⟩ = some (.int .i64 (u : Int)) ∧ w.cell? ⟨S, 2, none⟩ = some (.bool sp) := ⟨block_cell h rfl, block_cell h rfl, block_cell h rfl⟩
theorem ScanAt.free {w : World} {S : Nat} {A : Option Addr} {n c u : Nat} {sp : Bool} (h : ScanAt w S A n c u sp) : w.frozen? ⟨S, 0, none⟩ = false ∧ w.frozen? ⟨S, 1, none⟩ = false ∧ w.frozen? ⟨S, 2, none⟩ = false := ⟨frozen_of_row w S 0 _ _ h, frozen_of_row w S 1 _ _ h, frozen_of_row w S 2 _ _ h⟩
theorem ScanAt.since {w w' : World} {S : Nat} {A : Option Addr} {n c u : Nat} {sp : Bool} (h : ScanAt w S A n c u sp) (hs : Since w w') : ScanAt w' S A n c u sp := hs.at h
theorem ScanAt.lt {w : World} {S : Nat} {A : Option Addr} {n c u : Nat} {sp : Bool} (h : ScanAt w S A n c u sp) : S < w.heap.size := (Array.getElem?_eq_some_iff.1 h).1
theorem ScanAt.spoil {w : World} {S : Nat} {A : Option Addr} {n c u : Nat} {sp : Bool} (h : ScanAt w S A n c u sp) (b : Bool) : ScanAt (w.setCell ⟨S, 2, none⟩ (.bool b)) S A n c u b := block_set h 2 _
theorem ScanAt.go {w : World} {S : Nat} {A : Option Addr} {n c u : Nat} {sp : Bool} (h : ScanAt w S A n c u sp) (A' : Option Addr) (n' c' u' : Nat) : ScanAt ((w.setCell ⟨S, 0, none⟩ (.slice A' n' c')).setCell ⟨S, 1, none⟩ (.int .i64 (u' : Int))) S A' n' c' u' sp := block_set (block_set h 0 _) 1 _
/-- a row that no block that was written lies in -/
theorem RowRd.grown {w w' : World} {x : Rw} {bs : List (BitVec 8)} (h : RowRd w x bs) {row : Option Nat} (hg : w.grownBy w' row) (hne : ∀ a, x.A = some a → row ≠ some a.block) : RowRd w' x bs := by
  refine ⟨fun k hk => ?_, h.len, h.none⟩
  obtain ⟨b, o, e, hc⟩ := h.rd k hk
  exact ⟨b, o, e, hg.cell hc (fun e2 => hne _ e (by rw [e2]))⟩
def NextPost (w : World) (S : Nat) (A : Option Addr) (n c u : Nat) (l : List (BitVec 8)) (e : Ending) (w' : World) : Prop :=
  (∃ s kd D m d, F.first l = (none, s) ∧ e = .returned (.tuple #[.agg #[.int .i64 kd, .slice D m d], .bool false]) ∧ ScanAt w' S A n c u s ∧ w.grownBy w' (some S)) ∨
  (∃ f A' D m d, F.first l = (some f, false) ∧ m = f.data.length ∧ e = .returned (.tuple #[.agg #[.int .i64 f.kind, .slice D m d], .bool true]) ∧ w'.ownsRow w.heap.size 5 1 (.slice D m d) m (bv f.data) ∧
    ScanAt w' S A' (n - (9 + m)) (c - (9 + m)) (u + (9 + m)) false ∧ RowRd w' ⟨A', n - (9 + m), c - (9 + m)⟩ (l.drop (9 + m)) ∧ (∀ a, A' = some a → ∃ a0, A = some a0 ∧ a0.block = a.block) ∧ w.grownBy w' (some S))
theorem grown_since {w wS w' : World} {S : Nat} (h : w.grownBy wS (some S)) (hs : Since wS w') : w.grownBy w' (some S) :=
  ⟨hs.os.trans h.os, hs.tape.trans h.tape, hs.output.trans h.output, Nat.le_trans h.size hs.size, fun k hk hne => (hs.block k (Nat.lt_of_lt_of_le hk h.size)).trans (h.block k hk hne)⟩
theorem grown_two {a b c : World} {S : Nat} (h : a.grownBy b (some S)) (k : b.grownBy c (some S)) : a.grownBy c (some S) :=
  ⟨k.os.trans h.os, k.tape.trans h.tape, k.output.trans h.output, Nat.le_trans h.size k.size, fun i hi hne => (k.block i (Nat.lt_of_lt_of_le hi h.size) hne).trans (h.block i hi hne)⟩
theorem first_few (l : List (BitVec 8)) (h : l.length < 9) : F.first l = (none, false) := by unfold F.first; rw [if_pos h]
theorem first_big (l : List (BitVec 8)) (h : ¬ l.length < 9) (h2 : 262144 < (F.num4 (l.drop 1)).toNat) : F.first l = (none, true) := by unfold F.first; rw [if_neg h, if_pos h2]
theorem first_short (l : List (BitVec 8)) (h : ¬ l.length < 9) (h2 : ¬ 262144 < (F.num4 (l.drop 1)).toNat) (h3 : l.length < 9 + (F.num4 (l.drop 1)).toNat) : F.first l = (none, false) := by unfold F.first; rw [if_neg h, if_neg h2, if_pos h3]
theorem first_bad (l : List (BitVec 8)) (h : ¬ l.length < 9) (h2 : ¬ 262144 < (F.num4 (l.drop 1)).toNat) (h3 : ¬ l.length < 9 + (F.num4 (l.drop 1)).toNat) (h4 : F.num4 (l.drop 5) ≠ F.fsum (l.take 5 ++ (l.drop 9).take (F.num4 (l.drop 1)).toNat)) : F.first l = (none, true) := by unfold F.first; rw [if_neg h, if_neg h2, if_neg h3, if_neg h4]
theorem first_good (l : List (BitVec 8)) (h : ¬ l.length < 9) (h2 : ¬ 262144 < (F.num4 (l.drop 1)).toNat) (h3 : ¬ l.length < 9 + (F.num4 (l.drop 1)).toNat) (h4 : F.num4 (l.drop 5) = F.fsum (l.take 5 ++ (l.drop 9).take (F.num4 (l.drop 1)).toNat)) :
    F.first l = (some ⟨((l.getD 0 0).toNat : Int), (l.drop 9).take (F.num4 (l.drop 1)).toNat⟩, false) := by unfold F.first; rw [if_neg h, if_neg h2, if_neg h3, if_pos h4]
/-- a part of a row -/
theorem rowRd_cut {w : World} {b o n c : Nat} {bs : List (BitVec 8)} (h : RowRd w ⟨some ⟨b, o, none⟩, n, c⟩ bs) (lo len c' : Nat) (hl : lo + len ≤ n) : RowRd w ⟨some ⟨b, o + lo, none⟩, len, c'⟩ ((bs.drop lo).take len) := by
  have hN : bs.length = n := h.len
  refine ⟨fun j hj => ?_, by show _ = len; rw [List.length_take, List.length_drop]; omega, fun h => by cases h⟩
  rw [List.length_take, List.length_drop] at hj
  obtain ⟨b', o', e, hc⟩ := h.rd (lo + j) (by omega)
  obtain ⟨rfl, rfl⟩ : b = b' ∧ o = o' := by simpa using e
  refine ⟨b, o + lo, rfl, ?_⟩
  rw [Nat.add_assoc, hc, List.getElem_take, List.getElem_drop]
theorem conv_B8_num {P : Program} (w : World) (src dst : TypeId) (x : BitVec 8) (hs : P.underlying src = some (.int .u8)) (hd : P.underlying dst = some (.int .i64)) : (convert src dst (B8 x)).run P w = .ok (.int .i64 (x.toNat : Int)) w := by
  have h : IntKind.i64.wrap (x.toNat : Int) = (x.toNat : Int) := IntWalk.i64_in _ (by have := x.isLt; omega)
  simp [convert, run_underlying hs, run_underlying hd, Conv.intToInt, B8, h]
theorem rowRd_drewN {w : World} {x : Rw} {bs : List (BitVec 8)} (h : RowRd w x bs) (q : Nat) : RowRd (w.drewN q) x bs := ⟨h.rd, h.len, h.none⟩
end Go.Proofs.YtfpjmeknjhhakaaGreat.K

/- The contract of frame's scan.next. -/
namespace Go.Proofs.YtfpjmeknjhhakaaGreat.K
open Go Go.RowKit

set_option maxHeartbeats 4000000 in
set_option maxRecDepth 100000 in
theorem next_any (S : Nat) (A : Option Addr) (n c u : Nat) (l : List (BitVec 8)) (w : World) (hS : ScanAt w S A n c u false) (hr : RowRd w ⟨A, n, c⟩ l) (hn : n ≤ c) (hc : c ≤ 9223372036854775807) (hu : u + n ≤ 100000000000000) (hne : ∀ a, A = some a → a.block ≠ S) :
    Calls Tryz.prog 89 #[.pointer (some ⟨S, 0, none⟩)] w (NextPost w S A n c u l) := by
  have hlen : l.length = n := hr.len
  have hSl := hS.lt
  have BK0 := Lib.hid (show Bank w (w.alloc (.cells #[.int .i64 0, .slice none 0 0] 78)) [boxAcc w.heap.size 78 [.int .i64 0, .slice none 0 0]] from (Bank.nil (Below.refl w.heap.size w)).box _ _ (by simp))
  have S0 := Lib.hid (hS.since BK0.out.since); have R0 := Lib.hid (hr.below BK0.out.since)
  have HNE := Lib.hid hne; have HLEN := Lib.hid hlen
  have HS := Lib.hid hS; have HR := Lib.hid hr
  clear hS hr hne hlen
  go_enter Tryz.func89, Tryz.ntmps89
  go_upto_region 1 with fail
  change Code.wp _ _ _ _ (w.alloc (.cells #[.int .i64 0, .slice none 0 0] 78))
  generalize w.alloc (.cells #[.int .i64 0, .slice none 0 0] 78) = w0 at *
  obtain ⟨s0, s1, s2⟩ := S0.out.cells
  obtain ⟨z0, z1, z2⟩ := S0.out.free
  have x0 := BK0.out.cell 0 rfl 0 rfl
  have x1 := BK0.out.cell 0 rfl 1 rfl
  have y0 := BK0.out.free 0 rfl 0
  have y1 := BK0.out.free 0 rfl 1
  by_cases h9 : n < 9
  · have i9 : (n : Int) < 9 := by omega
    have HFI := Lib.hid (show F.first l = (none, false) by unfold F.first; rw [if_pos (by rw [HLEN.out]; exact h9)])
    have BK1 := Lib.hid ((BK0.out.boxSet 0 rfl 0 (.int .i64 0)).boxSet 0 rfl 1 (.slice none 0 0))
    clear s0 s1 s2 z0 z1 z2
    obtain ⟨s0, s1, s2⟩ := S0.out.cells
    go_wp2_with fail
    have rx0 := BK1.out.cell 0 rfl 0 rfl
    have rx1 := BK1.out.cell 0 rfl 1 rfl
    refine bodyPost_ret (v := .tuple #[.agg #[.int .i64 0, .slice none 0 0], .bool false]) (by simp [results, Tryz.results89, go_sem, rx0, rx1]) rfl ?_
    exact .inl ⟨false, 0, none, 0, 0, HFI.out, rfl, HS.out.since BK1.out.since, grown_since (World.grownBy.refl _ _) BK1.out.since⟩
  · have i9 : ¬ (n : Int) < 9 := by omega
    obtain ⟨b, o, hA, _⟩ := HR.out.rd 0 (by rw [HLEN.out]; omega)
    have hA' : A = some ⟨b, o, none⟩ := hA
    clear hA
    subst hA'
    have hbS : b ≠ S := HNE.out _ rfl
    have HNB := Lib.hid hbS
    have n9 := Lib.hid (show ¬ l.length < 9 by rw [HLEN.out]; exact h9)
    have HV := Lib.hid (show ∃ v, v = F.num4 (l.drop 1) from ⟨_, rfl⟩)
    go_wp2_with fail
    refine (number_any S 1 b o n c l w0 s0 R0.out (by omega) hn hc).mono ?_
    rintro e w0' ⟨rfl, rfl⟩
    clear HV
    obtain ⟨v, hv⟩ : ∃ v, v = F.num4 (l.drop 1) := ⟨_, rfl⟩
    rw [← hv]
    have HV := Lib.hid hv
    clear hv
    have hg : ∀ t, binOp .gtr t (W32 v) (.int .u32 262144) = pure (.bool (decide (262144 < v.toNat))) := fun t => W32_gtr_lit t v 262144 (by omega)
    have hcv := fun w => conv_W32_int (P := Tryz.prog) w 128 3 v Tryz.underlying128 Tryz.underlying3
    by_cases h2 : 262144 < v.toNat
    · have d2 : decide (262144 < v.toNat) = true := by simpa using h2
      have HFI := Lib.hid (first_big l n9.out (by rw [← HV.out]; exact h2))
      have BK1 := Lib.hid (BK0.out.storeOld hSl 2 (.bool true)); have HSS := Lib.hid (HS.out.spoil true)
      have S1 := Lib.hid (HSS.out.since BK1.out.since)
      go_upto_region 5 with fail
      generalize w0.setCell ⟨S, 2, none⟩ (.bool true) = w1 at *
      clear s0 s1 s2 z0 z1 z2 x0 x1 y0 y1 hg d2 h2 S0 BK0 R0
      obtain ⟨s0, s1, s2⟩ := S1.out.cells
      have x0 := BK1.out.cell 0 rfl 0 rfl
      have x1 := BK1.out.cell 0 rfl 1 rfl
      have y0 := BK1.out.free 0 rfl 0
      have y1 := BK1.out.free 0 rfl 1
      have BK2 := Lib.hid ((BK1.out.boxSet 0 rfl 0 (.int .i64 0)).boxSet 0 rfl 1 (.slice none 0 0))
      go_wp2_with fail
      have rx0 := BK2.out.cell 0 rfl 0 rfl
      have rx1 := BK2.out.cell 0 rfl 1 rfl
      refine bodyPost_ret (v := .tuple #[.agg #[.int .i64 0, .slice none 0 0], .bool false]) (by simp [results, Tryz.results89, go_sem, rx0, rx1]) rfl ?_
      exact .inl ⟨true, 0, none, 0, 0, HFI.out, rfl, HSS.out.since BK2.out.since, grown_since (grownBy_setCell _ _ _ _) BK2.out.since⟩
    · have d2 : decide (262144 < v.toNat) = false := by simpa using h2
      have BK1 := Lib.hid (BK0.out.storeOld hSl 2 (.bool false)); have HSS := Lib.hid (HS.out.spoil false)
      have S1 := Lib.hid (HSS.out.since BK1.out.since)
      have RS := Lib.hid (HR.out.grown (grownBy_setCell w S 2 (.bool false)) (fun a e => by cases e; simpa using fun e => HNB.out e.symm))
      have HGS := Lib.hid (grownBy_setCell w S 2 (.bool false))
      have hSl2 : S < (w.setCell ⟨S, 2, none⟩ (.bool false)).heap.size := by simpa using hSl
      have hwz : (w.setCell ⟨S, 2, none⟩ (.bool false)).heap.size = w.heap.size := by simp
      have HWZ := Lib.hid hwz
      clear hwz
      go_upto_region 5 with fail
      generalize w0.setCell ⟨S, 2, none⟩ (.bool false) = w1 at *
      generalize w.setCell ⟨S, 2, none⟩ (.bool false) = wS at *
      clear s0 s1 s2 z0 z1 z2 x0 x1 y0 y1 hg d2 S0 BK0 R0
      obtain ⟨s0, s1, s2⟩ := S1.out.cells
      have x0 := BK1.out.cell 0 rfl 0 rfl
      have x1 := BK1.out.cell 0 rfl 1 rfl
      have y0 := BK1.out.free 0 rfl 0
      have y1 := BK1.out.free 0 rfl 1
      have hv5 : (v.toNat : Int) ≤ 262144 := by omega
      have hv0 : (0 : Int) ≤ (v.toNat : Int) := by omega
      by_cases h3 : n < 9 + v.toNat
      · have i3 : (n : Int) < 9 + (v.toNat : Int) := by omega
        have HFI := Lib.hid (first_short l n9.out (by rw [← HV.out]; exact h2) (by rw [← HV.out, HLEN.out]; exact h3))
        have BK2 := Lib.hid ((BK1.out.boxSet 0 rfl 0 (.int .i64 0)).boxSet 0 rfl 1 (.slice none 0 0))
        go_wp2_with fail
        have rx0 := BK2.out.cell 0 rfl 0 rfl
        have rx1 := BK2.out.cell 0 rfl 1 rfl
        refine bodyPost_ret (v := .tuple #[.agg #[.int .i64 0, .slice none 0 0], .bool false]) (by simp [results, Tryz.results89, go_sem, rx0, rx1]) rfl ?_
        exact .inl ⟨false, 0, none, 0, 0, HFI.out, rfl, HSS.out.since BK2.out.since, grown_since HGS.out BK2.out.since⟩
      · have i3 : ¬ (n : Int) < 9 + (v.toNat : Int) := by omega
        obtain ⟨N, hN⟩ : ∃ N, N = v.toNat := ⟨_, rfl⟩
        rw [← hN] at i3 h3 hv5 hv0 h2 hcv
        have HN := Lib.hid hN
        have hb0 := (RS.out.rd 0 (by rw [HLEN.out]; omega))
        have hb0' : wS.cell? ⟨b, o, none⟩ = some (B8 (l.getD 0 0)) := by
          obtain ⟨b', o', e, hcx⟩ := hb0
          obtain ⟨rfl, rfl⟩ : b = b' ∧ o = o' := by simpa using e
          rw [show b = b from rfl, ← Nat.add_zero o, hcx]
          simp [show 0 < l.length by rw [HLEN.out]; omega]
        have K10 : ∀ w', Since wS w' → w'.cell? ⟨S, 0, none⟩ = some (.slice (some ⟨b, o, none⟩) n c) ∧ w'.cell? ⟨b, o, none⟩ = some (B8 (l.getD 0 0)) := fun w' h => ⟨(HSS.out.since h).cells.1, (h.cell (p := ⟨b, o, none⟩) (block_lt_of_cell hb0')).trans hb0'⟩
        have K10H := Lib.hid K10
        have RD9 := Lib.hid (show ∀ A9, A9 = (if c = 9 then some (⟨b, o, none⟩ : Addr) else some ⟨b, o + 9, none⟩) → RowRd wS ⟨A9, N, c - 9⟩ ((l.drop 9).take N) from fun A9 e => by
          by_cases h : c = 9
          · rw [if_pos h] at e
            subst e
            have hN0 : N = 0 := by omega
            subst hN0
            exact ⟨by rw [List.take_zero]; exact Rd.of_nil _ _, rfl, fun h => by cases h⟩
          · rw [if_neg h] at e
            subst e
            exact rowRd_cut RS.out 9 N _ (by omega))
        clear hb0 hb0' K10
        have hcv2 := fun w x => conv_B8_num (P := Tryz.prog) w 5 3 x Tryz.underlying5 Tryz.underlying3
        go_upto_region 10 with fail
        rw [← hN]
        clear hN
        go_cut [5] (fun s5 wx => s5 = .int .i64 (9 + (N : Int)) ∧ ∃ D d, Bank wS wx [rowAcc D N d ((l.drop 9).take N), boxAcc w.heap.size 78 [.int .i64 ((l.getD 0 0).toNat : Int), .slice D N d]])
        case first =>
          have hB := BK1.out
          have hsl := K10H.out _ hB.since.drew
          have hsl2 := K10H.out _ (hB.since.alloc (.cells #[] 5)).drew
          have t0 : (0 : Int) < (n : Int) := by omega
          have t1 : (9 : Int) ≤ 9 + (N : Int) := by omega
          have t2 : 9 + (N : Int) ≤ (c : Int) := by omega
          have t3 : (9 + (N : Int)).toNat = 9 + N := by omega
          have t4 : 9 + N - 9 = N := by omega
          have t5 : (0 : Int) ≤ 9 + (N : Int) := by omega
          have t6 : 0 < n := by omega
          have t7 : IntKind.i64.wrap (9 + (N : Int)) = 9 + (N : Int) := IntWalk.i64_in _ (by omega)
          generalize l.getD 0 0 = y at *
          by_cases hc9 : c = 9
          · have r9 := RD9.out (some ⟨b, o, none⟩) (by rw [if_pos hc9])
            have hn9 : n = 9 := by omega
            have hN0 : N = 0 := by omega
            subst hc9 hn9 hN0
            rw [show (9 : Int) + ((0 : Nat) : Int) = 9 from rfl]
            clear t0 t1 t2 t3 t4 t5 t6 t7 i3 hv5 hv0
            go_region_held3 (fun w' => w'.cell? ⟨S, 0, none⟩ = some (.slice (some ⟨b, o, none⟩) 9 9) ∧ w'.cell? ⟨b, o, none⟩ = some (B8 y))
              (first
                | with_reducible exact hsl
                | with_reducible exact hsl2
                | with_reducible exact K10H.out _ hB.since
                | with_reducible exact K10H.out _ (Bank.boxSet (Bank.boxSet hB 1 rfl 0 _) 1 rfl 1 _).since
                | fail "keep")
              (first
                | (((with_reducible refine step_bank (Bank.drew (Bank.lit0 hB _)) ?_); intro hB); refine step_append_bytes hB rfl _ _ 37 rfl 5 infoByte Tryz.underlying37 0 _ _ _ [] rfl rfl _ _ _ _ rfl (Since.row hB.since r9) (by omega) ?_; intro A4 n4 c4 w4 hn4 hB; have hn4' := Lib.hid hn4; clear hn4; dsimp only [List.set] at hB; rw [List.nil_append] at hB; have x0 := hB.cell 1 rfl 0 rfl; have x1 := hB.cell 1 rfl 1 rfl; have y0 := hB.free 1 rfl 0; have y1 := hB.free 1 rfl 1)
                | fail "arm")
            all_goals
              have HFIN := Lib.hid (Bank.boxSet (Bank.boxSet hB 1 rfl 0 (.int .i64 (y.toNat : Int))) 1 rfl 1 (.slice A4 n4 c4))
              have hn4 := hn4'.out
              rw [Nat.zero_add] at hn4
              subst hn4
              clear hB x0 x1 y0 y1 hsl hsl2 hn4'
              go_wp2_with fail
              go_meet
              exact ⟨rfl, A4, c4, HFIN.out⟩
          · have r9 := RD9.out (some ⟨b, o + 9, none⟩) (by rw [if_neg hc9])
            go_region_held3 (fun w' => w'.cell? ⟨S, 0, none⟩ = some (.slice (some ⟨b, o, none⟩) n c) ∧ w'.cell? ⟨b, o, none⟩ = some (B8 y))
              (first
                | with_reducible exact hsl
                | with_reducible exact hsl2
                | with_reducible exact K10H.out _ hB.since
                | with_reducible exact K10H.out _ (Bank.boxSet (Bank.boxSet hB 1 rfl 0 _) 1 rfl 1 _).since
                | fail "keep")
              (first
                | (((with_reducible refine step_bank (Bank.drew (Bank.lit0 hB _)) ?_); intro hB); refine step_append_bytes hB rfl _ _ 37 rfl 5 infoByte Tryz.underlying37 0 _ _ _ [] rfl rfl _ _ _ _ rfl (Since.row hB.since r9) (by omega) ?_; intro A4 n4 c4 w4 hn4 hB; have hn4' := Lib.hid hn4; clear hn4; dsimp only [List.set] at hB; rw [List.nil_append] at hB; have x0 := hB.cell 1 rfl 0 rfl; have x1 := hB.cell 1 rfl 1 rfl; have y0 := hB.free 1 rfl 0; have y1 := hB.free 1 rfl 1)
                | fail "arm")
            all_goals
              have HFIN := Lib.hid (Bank.boxSet (Bank.boxSet hB 1 rfl 0 (.int .i64 (y.toNat : Int))) 1 rfl 1 (.slice A4 n4 c4))
              have hn4 := hn4'.out
              rw [Nat.zero_add] at hn4
              subst hn4
              clear hB x0 x1 y0 y1 hsl hsl2 hn4'
              go_wp2_with fail
              go_meet
              exact ⟨rfl, A4, c4, HFIN.out⟩
        case rest =>
          obtain ⟨rfl, D, d, hB⟩ := hcut
          obtain ⟨yb, hyb⟩ : ∃ yb, yb = l.getD 0 0 := ⟨_, rfl⟩
          rw [← hyb] at hB
          have HYB := Lib.hid hyb
          clear hyb
          clear s0 s1 s2 x0 x1 y0 y1 S1 BK1
          have BK5 := Lib.hid hB
          have S5 := Lib.hid (HSS.out.since hB.since)
          have R5 := Lib.hid (show RowRd wc ⟨some ⟨b, o, none⟩, 5, c⟩ (l.take 5) by simpa using rowRd_cut (Since.row hB.since RS.out) 0 5 c (by omega))
          have RD := Lib.hid (hB.row 0 rfl)
          clear hB
          generalize wc = w5 at *
          obtain ⟨s0, s1, s2⟩ := S5.out.cells
          have x1 := BK5.out.cell 1 rfl 1 rfl
          have t5 : (5 : Int) ≤ (c : Int) := by omega
          have hN63 : N ≤ 9223372036854775807 := by omega
          have HSM := Lib.hid (F.crc_append 4294967295#32 (l.take 5) ((l.drop 9).take N))
          have Q1 := Lib.hid (fun a => more_first (some ⟨b, o, none⟩) 5 c (l.take 5) (w5.drewN a) (rowRd_drewN R5.out a) (by omega))
          have Q2 := Lib.hid (fun a => more_any (F.crc 4294967295#32 (l.take 5)) D N d ((l.drop 9).take N) (w5.drewN a) (rowRd_drewN RD.out a) hN63)
          go_wp2_with fail
          go_quiet ((first
            | (go_at_call 106; with_reducible exact q_same (Q1.out _))
            | (go_at_call 106; with_reducible exact q_same (Q2.out _))
            | fail "q"))
          rw [← HSM.out]
          go_upto_region 12 with fail
          have S6 := Lib.hid (S5.out.since ((Below.refl _ w5).alloc (Nat.le_refl _) (.cells #[] 0)) |> fun _ => (show ScanAt (w5.drewN nq) S (some ⟨b, o, none⟩) n c u false from S5.out))
          have BK6 := Lib.hid (BK5.out.drewN nq)
          have R6 := Lib.hid (Since.row BK6.out.since RS.out)
          obtain ⟨z, hz⟩ : ∃ z, z = ~~~F.crc 4294967295#32 (l.take 5 ++ (l.drop 9).take N) := ⟨_, rfl⟩
          rw [← hz]
          have HZ := Lib.hid (show z = F.fsum (l.take 5 ++ (l.drop 9).take N) from hz)
          generalize w5.drewN nq = w6 at *
          clear hz s0 s1 s2 x1 Q1 Q2 HSM S5 BK5 R5 RD
          obtain ⟨s0, s1, s2⟩ := S6.out.cells
          obtain ⟨f0, f1, f2⟩ := S6.out.free
          obtain ⟨y5, hy5⟩ : ∃ y5, y5 = F.num4 (l.drop 5) := ⟨_, rfl⟩
          have HY5 := Lib.hid hy5
          clear hy5
          go_wp2_with fail
          refine (number_any S 5 b o n c l w6 s0 R6.out (by omega) hn hc).mono ?_
          rintro e w6' ⟨rfl, rfl⟩
          rw [← HY5.out]
          by_cases heq : y5 = z
          case neg =>
            have hne : (y5 != z) = true := by simpa using heq
            have HFI := Lib.hid (first_bad l n9.out (by rw [← HV.out, ← HN.out]; exact h2) (by rw [← HV.out, ← HN.out, HLEN.out]; exact h3) (by rw [← HV.out, ← HN.out, ← HY5.out, ← HZ.out]; exact heq))
            have BK7 := Lib.hid (BK6.out.storeOld hSl2 2 (.bool true)); have HSS7 := Lib.hid (HSS.out.spoil true)
            have S7 := Lib.hid (HSS7.out.since BK7.out.since)
            have HG7 := Lib.hid (grown_two HGS.out (grownBy_setCell wS S 2 (.bool true)))
            go_upto_region 13 with fail
            generalize w6.setCell ⟨S, 2, none⟩ (.bool true) = w7 at *
            clear s0 s1 s2 f0 f1 f2 S6 BK6 R6 heq hne
            obtain ⟨s0, s1, s2⟩ := S7.out.cells
            have x0 := BK7.out.cell 1 rfl 0 rfl
            have x1 := BK7.out.cell 1 rfl 1 rfl
            have g0 := BK7.out.free 1 rfl 0
            have g1 := BK7.out.free 1 rfl 1
            have BK8 := Lib.hid ((BK7.out.boxSet 1 rfl 0 (.int .i64 (yb.toNat : Int))).boxSet 1 rfl 1 (.slice D N d))
            go_wp2_with fail
            have rx0 := BK8.out.cell 1 rfl 0 rfl
            have rx1 := BK8.out.cell 1 rfl 1 rfl
            refine bodyPost_ret (v := .tuple #[.agg #[.int .i64 (yb.toNat : Int), .slice D N d], .bool false]) (by simp [results, Tryz.results89, go_sem, rx0, rx1]) rfl ?_
            exact .inl ⟨true, _, D, N, d, HFI.out, rfl, HSS7.out.since BK8.out.since, grown_since HG7.out BK8.out.since⟩
          case pos =>
            have hne : (y5 != z) = false := by simpa using heq
            have HFI := Lib.hid (first_good l n9.out (by rw [← HV.out, ← HN.out]; exact h2) (by rw [← HV.out, ← HN.out, HLEN.out]; exact h3) (by rw [← HV.out, ← HN.out, ← HY5.out, ← HZ.out]; exact heq))
            have BK7 := Lib.hid (BK6.out.storeOld hSl2 2 (.bool false)); have HSS7 := Lib.hid (HSS.out.spoil false)
            have S7 := Lib.hid (HSS7.out.since BK7.out.since)
            have HG7 := Lib.hid (grown_two HGS.out (grownBy_setCell wS S 2 (.bool false)))
            have RS7 := Lib.hid (RS.out.grown (grownBy_setCell wS S 2 (.bool false)) (fun a e => by cases e; simpa using fun e => HNB.out e.symm))
            have hSl7 : S < (wS.setCell ⟨S, 2, none⟩ (.bool false)).heap.size := by simpa using hSl2
            have HZ7 := Lib.hid (show (wS.setCell ⟨S, 2, none⟩ (.bool false)).heap.size = w.heap.size by simpa using HWZ.out)
            go_upto_region 13 with fail
            generalize w6.setCell ⟨S, 2, none⟩ (.bool false) = w7 at *
            generalize wS.setCell ⟨S, 2, none⟩ (.bool false) = wT at *
            clear s0 s1 s2 f0 f1 f2 S6 BK6 R6 hne heq RS HSS HGS hSl2 HWZ
            obtain ⟨s0, s1, s2⟩ := S7.out.cells
            obtain ⟨f0, f1, f2⟩ := S7.out.free
            have u0 : IntKind.i64.wrap ((u : Int) + (9 + (N : Int))) = (u : Int) + (9 + (N : Int)) := IntWalk.i64_in _ (by omega)
            have t1 : (0 : Int) ≤ 9 + (N : Int) := by omega
            have t2 : 9 + (N : Int) ≤ (n : Int) := by omega
            have t3 : (9 + (N : Int)).toNat = 9 + N := by omega
            have fin : ∀ (A' : Option Addr) (e : Ending) (w' : World), RowRd wT ⟨A', n - (9 + N), c - (9 + N)⟩ (l.drop (9 + N)) → (∀ a, A' = some a → a.block = b) → e = .returned (.tuple #[.agg #[.int .i64 (yb.toNat : Int), .slice D N d], .bool true]) →
                Bank ((wT.setCell ⟨S, 0, none⟩ (.slice A' (n - (9 + N)) (c - (9 + N)))).setCell ⟨S, 1, none⟩ (.int .i64 ((u + (9 + N) : Nat) : Int))) w' [rowAcc D N d ((l.drop 9).take N), boxAcc w.heap.size 78 [.int .i64 (yb.toNat : Int), .slice D N d]] →
                NextPost w S (some ⟨b, o, none⟩) n c u l e w' := fun A' e w' hr hA he hBf => by
              have hFI := HFI.out
              rw [← HV.out, ← HN.out, ← HYB.out] at hFI
              have hl : N = ((l.drop 9).take N).length := by rw [List.length_take, List.length_drop, HLEN.out]; omega
              have hr7 := RowRd.grown hr (grown_two (grownBy_setCell wT S 0 (.slice A' (n - (9 + N)) (c - (9 + N)))) (grownBy_setCell _ S 1 (.int .i64 ((u + (9 + N) : Nat) : Int)))) (fun a ea => by
                have := hA a ea
                intro e2
                have e3 : S = a.block := by simpa using e2
                exact HNB.out (this.symm.trans e3.symm))
              refine .inr ⟨_, A', D, N, d, hFI, hl, he, ?_, (HSS7.out.go A' _ _ _).since hBf.since, Since.row hBf.since hr7, fun a ea => ⟨_, rfl, (hA a ea).symm⟩, ?_⟩
              · have := hBf.at 0 rfl
                refine row_base this ?_
                simp
                rw [HZ7.out]
                exact Nat.le_refl _
              · exact grown_since (grown_two (grown_two HG7.out (grownBy_setCell _ _ _ _)) (grownBy_setCell _ _ _ _)) hBf.since
            have FIN := Lib.hid fin
            clear fin
            have x0 := BK7.out.cell 1 rfl 0 rfl
            have x1 := BK7.out.cell 1 rfl 1 rfl
            by_cases hce : c = 9 + N
            · have hne2 : n = 9 + N := by omega
              subst hce
              subst hne2
              go_upto_region 15 with fail
              go_region_law (fail)
              all_goals
                have BK8 := Lib.hid (Bank.drew ((BK7.out.storeOld hSl7 0 (.slice (some ⟨b, o, none⟩) 0 0)).storeOld (S := S) (by simpa using hSl7) 1 (.int .i64 ((u : Int) + (9 + (N : Int))))))
                go_upto_region 16 with fail
                generalize World.drew ((w7.setCell ⟨S, 0, none⟩ (.slice (some ⟨b, o, none⟩) 0 0)).setCell ⟨S, 1, none⟩ (.int .i64 ((u : Int) + (9 + (N : Int))))) = w8 at *
                clear s0 s1 s2 f0 f1 f2 x0 x1 u0
                have x0 := BK8.out.cell 1 rfl 0 rfl
                have x1 := BK8.out.cell 1 rfl 1 rfl
                have g0 := BK8.out.free 1 rfl 0
                have g1 := BK8.out.free 1 rfl 1
                have BK9 := Lib.hid ((BK8.out.boxSet 1 rfl 0 (.int .i64 (yb.toNat : Int))).boxSet 1 rfl 1 (.slice D N d))
                go_wp2_with fail
                have rx0 := BK9.out.cell 1 rfl 0 rfl
                have rx1 := BK9.out.cell 1 rfl 1 rfl
                refine bodyPost_ret (v := .tuple #[.agg #[.int .i64 (yb.toNat : Int), .slice D N d], .bool true]) (by simp [results, Tryz.results89, go_sem, rx0, rx1]) rfl ?_
                refine FIN.out (some ⟨b, o, none⟩) _ _ (by rw [List.drop_of_length_le (by rw [HLEN.out]; omega)]; exact ⟨Rd.of_nil _ _, by show 0 = _; simp, fun h => by cases h⟩) (fun a e => by cases e; rfl) rfl ?_
                rw [show ((u + (9 + N) : Nat) : Int) = (u : Int) + (9 + (N : Int)) by omega]
                rw [show 9 + N - (9 + N) = 0 by omega]
                exact BK9.out
            · have hcn : ¬ 9 + N = c := fun e => hce e.symm
              go_upto_region 15 with fail
              go_region_law (fail)
              all_goals
                have BK8 := Lib.hid (Bank.drew ((BK7.out.storeOld hSl7 0 (.slice (some ⟨b, o + (9 + N), none⟩) (n - (9 + N)) (c - (9 + N)))).storeOld (S := S) (by simpa using hSl7) 1 (.int .i64 ((u : Int) + (9 + (N : Int))))))
                go_upto_region 16 with fail
                generalize World.drew ((w7.setCell ⟨S, 0, none⟩ (.slice (some ⟨b, o + (9 + N), none⟩) (n - (9 + N)) (c - (9 + N)))).setCell ⟨S, 1, none⟩ (.int .i64 ((u : Int) + (9 + (N : Int))))) = w8 at *
                clear s0 s1 s2 f0 f1 f2 x0 x1 u0
                have x0 := BK8.out.cell 1 rfl 0 rfl
                have x1 := BK8.out.cell 1 rfl 1 rfl
                have g0 := BK8.out.free 1 rfl 0
                have g1 := BK8.out.free 1 rfl 1
                have BK9 := Lib.hid ((BK8.out.boxSet 1 rfl 0 (.int .i64 (yb.toNat : Int))).boxSet 1 rfl 1 (.slice D N d))
                go_wp2_with fail
                have rx0 := BK9.out.cell 1 rfl 0 rfl
                have rx1 := BK9.out.cell 1 rfl 1 rfl
                refine bodyPost_ret (v := .tuple #[.agg #[.int .i64 (yb.toNat : Int), .slice D N d], .bool true]) (by simp [results, Tryz.results89, go_sem, rx0, rx1]) rfl ?_
                refine FIN.out (some ⟨b, o + (9 + N), none⟩) _ _ (by have := rowRd_cut RS7.out (9 + N) (n - (9 + N)) (c - (9 + N)) (by omega); rwa [List.take_of_length_le (by rw [List.length_drop, HLEN.out]; omega)] at this) (fun a e => by cases e; rfl) rfl ?_
                rw [show ((u + (9 + N) : Nat) : Int) = (u : Int) + (9 + (N : Int)) by omega]
                exact BK9.out
end Go.Proofs.YtfpjmeknjhhakaaGreat.K

/- Small parts of frame.Scan's contract: what holds between two rounds of its range over a function. -/
namespace Go.Proofs.YtfpjmeknjhhakaaGreat.K
open Go Go.RowKit Go.Shelf
attribute [local go_sem] Oper.semAt_some

theorem Bank.perm {w0 w : World} {L L' : List Acc} (h : Bank w0 w L) (hp : L.Perm L') : Bank w0 w L' :=
  ⟨h.since, fun p hp' => h.own p (hp.mem_iff.2 hp'), (hp.pairwise_iff (fun h => Apartness.symm h)).1 h.sep⟩
/-- a block that holds no cells was turned -/
theorem Bank.putLoop {w0 w : World} {L : List Acc} (h : Bank w0 w L) {l : Nat} {o : Obj} (o' : Obj) (hl : w0.heap.size ≤ l) (ho : w.heap[l]? = some o) (hc : o.isCells = false) : Bank w0 (w.putObj l o') L := by
  refine h.other (grownBy_putObj' w l o') hl fun p hp e => ?_
  rcases (h.own p hp).2 with ⟨h0, _⟩ | ⟨g, cap, cur, hv, _, hg, _⟩
  · rw [h0] at e; cases e
  · rw [hv] at e
    have e2 : g = l := by simpa [Value.ownBlock] using e
    subst e2
    rw [hg] at ho
    cases ho
    simp [Obj.isCells] at hc
/-- the scan's block was written by next, and a row was made -/
theorem Bank.scanned {w0 w w' : World} {L : List Acc} (h : Bank w0 w L) (i : Nat) {S : Nat} {t : TypeId} {vs vs' : List Value} (hi : L[i]? = some (boxAcc S t vs)) (hl : vs'.length = vs.length) (hlen : vs.length ≤ 1000) (hg : w.grownBy w' (some S)) (hS : w'.heap[S]? = some (.cells vs'.toArray t (0, 0))) :
    Bank w0 w' (L.set i (boxAcc S t vs')) := by
  have hb := (h.boxAt i hi).1
  refine h.put i hi ?_ hg (.inl rfl)
  refine ⟨?_, .inr ⟨S, _, _, rfl, hb, hS, Nat.le_refl _, ?_, ?_, ?_⟩⟩
  · show vs'.length = vs'.length * 1; omega
  · show vs'.length ≤ maxLen; unfold maxLen; omega
  · show _ = vs'.length * 1; simp
  · show vs'.toArray.toList.take (vs'.length * 1) = vs'; simp
theorem Bank.fresh {w0 w' : World} {L : List Acc} (h : Bank w0 w' L) {B : Nat} (hlt : ∀ p ∈ L, ∀ b, p.v.ownBlock = some b → b < B) (hB : w0.heap.size ≤ B) {e : TypeId} {A : Option Addr} {n c : Nat} {bs : List (BitVec 8)} (ho : w'.ownsRow B e 1 (.slice A n c) n (bv bs)) : Bank w0 w' (⟨.slice A n c, n, e, 1, bv bs⟩ :: L) := h.add ho hB hlt
/-- a frame that was told -/
structure FR where
  k : Int
  x : Rw
  bs : List (BitVec 8)
def FR.acc (p : FR) : Acc := ⟨p.x.v, p.x.n, 5, 1, bv p.bs⟩
def FR.cells (p : FR) : List Value := [.int .i64 p.k, p.x.v]
def FR.fr (p : FR) : F.Fr := ⟨p.k, p.bs⟩
def FR.val (p : FR) : Value := .agg #[.int .i64 p.k, p.x.v]
def frAcc (Fa : Option Addr) (cF : Nat) (ps : List FR) : Acc := ⟨.slice Fa ps.length cF, ps.length, 78, 2, ps.flatMap FR.cells⟩
/-- the four that stand behind -/
def backL (Bx S Bf : Nat) (A : Option Addr) (n c u : Nat) (sp : Bool) (Fa : Option Addr) (cF : Nat) (ps : List FR) : List Acc :=
  boxAcc Bx 109 [.pointer (some ⟨S, 0, none⟩)] :: boxAcc S 113 (scanL A n c u sp) :: boxAcc Bf 72 [.slice Fa ps.length cF] :: frAcc Fa cF ps :: ps.reverse.map FR.acc
/-- what is left to scan -/
structure LeftAt (w0 : World) (l0 : List (BitVec 8)) (A : Option Addr) (n c u : Nat) (ps : List FR) : Prop where
  row : RowRd w0 ⟨A, n, c⟩ (l0.drop u)
  nc : n ≤ c
  c63 : c ≤ 9223372036854775807
  un : u + n = l0.length
  few : ps.length * 9 ≤ u
  lay : ∀ a, A = some a → a.block < w0.heap.size
  eq : F.scan l0 = (ps.map FR.fr ++ (F.scan (l0.drop u)).1, u + (F.scan (l0.drop u)).2.1, (F.scan (l0.drop u)).2.2)
/-- between two rounds -/
def SInv (w0 : World) (l0 : List (BitVec 8)) (Bx S Bf Lr Dd : Nat) (rec : LoopState → Option Code → Loop) (T : List Acc) (ps : List FR) (W : World) : Prop :=
  ∃ A n c u Fa cF, Bank w0 W (T ++ backL Bx S Bf A n c u false Fa cF ps) ∧ LeftAt w0 l0 A n c u ps ∧ W.heap[Lr]? = some (.loop (rec .ready none)) ∧ W.heap[Dd]? = some (.deferred (some [])) ∧ w0.heap.size ≤ Lr ∧ w0.heap.size ≤ Dd
/-- the scan has ended -/
def SEnd (w0 : World) (l0 : List (BitVec 8)) (Bx S Bf Lr Dd : Nat) (rec : LoopState → Option Code → Loop) (T : List Acc) (ps : List FR) (W : World) : Prop :=
  ∃ A n c u s Fa cF, Bank w0 W (T ++ backL Bx S Bf A n c u s Fa cF ps) ∧ F.scan l0 = (ps.map FR.fr, u, s) ∧ u ≤ l0.length ∧ ps.length * 9 ≤ u ∧ W.heap[Lr]? = some (.loop (rec .ready none)) ∧ W.heap[Dd]? = some (.deferred (some [])) ∧ w0.heap.size ≤ Lr ∧ w0.heap.size ≤ Dd
end Go.Proofs.YtfpjmeknjhhakaaGreat.K
