/- The words that the walks speak of: bytes, words of 32 and of 64 bits as values that the walk does not look into, with the laws of Go's operators on them; a slice that reads as a list; a block that is known whole. Plain lemmas over any program. -/
import Derived.WalkKit
import Derived.WalkSpells
import Derived.Lib.Hide
import Derived.Deep.QuietTactic
import Derived.BigQuiet
import Derived.StillTailTactics
import Derived.Laws.CopyOwn
import Derived.Maps.AppendAt
import Derived.Deep.LoopGhost
import Derived.Deep.Draws
namespace Go.Proofs.Ytfpjmeknjhhakaa.K
open Go Go.RowKit

/-! ### values -/
def B8 (x : BitVec 8) : Value := .int .u8 (x.toNat : Int)
def W32 (x : BitVec 32) : Value := .int .u32 (x.toNat : Int)
def W64 (x : BitVec 64) : Value := .int .u64 (x.toNat : Int)
theorem B8_eq (x : BitVec 8) : B8 x = .int .u8 (x.toNat : Int) := rfl
theorem W32_eq (x : BitVec 32) : W32 x = .int .u32 (x.toNat : Int) := rfl
theorem W64_eq (x : BitVec 64) : W64 x = .int .u64 (x.toNat : Int) := rfl
theorem B8_inj {x y : BitVec 8} (h : B8 x = B8 y) : x = y := by
  simp only [B8, Value.int.injEq, true_and] at h
  exact BitVec.eq_of_toNat_eq (by omega)
theorem oneB8 (x : BitVec 8) : (B8 x).oneCell' = true := rfl
theorem oneW32 (x : BitVec 32) : (W32 x).oneCell' = true := rfl
theorem oneW64 (x : BitVec 64) : (W64 x).oneCell' = true := rfl

theorem wrap_u8_nat (n : Nat) : IntKind.u8.wrap (n : Int) = ((BitVec.ofNat 8 n).toNat : Int) := by
  rw [IntKind.wrap_u8', BitVec.toNat_ofNat]; omega
theorem wrap_u32_nat (n : Nat) : IntKind.u32.wrap (n : Int) = ((BitVec.ofNat 32 n).toNat : Int) := by
  rw [IntKind.wrap_u32', BitVec.toNat_ofNat]; omega
theorem wrap_u64' (n : Int) : IntKind.u64.wrap n = n % 18446744073709551616 := by simp [IntKind.wrap, IntKind.bits, IntKind.signed]
theorem wrap_u64_nat (n : Nat) : IntKind.u64.wrap (n : Int) = ((BitVec.ofNat 64 n).toNat : Int) := by
  rw [wrap_u64', BitVec.toNat_ofNat]; omega

theorem ofNat_self {n : Nat} (x : BitVec n) : BitVec.ofNat n x.toNat = x := BitVec.eq_of_toNat_eq (by simp)

section
variable (t : TypeId) (x y : BitVec 32)
theorem ofInt_W32 : BitVec.ofInt 32 (x.toNat : Int) = x := by rw [BitVec.ofInt_natCast]; exact ofNat_self x
theorem wrap_W32 : IntKind.u32.wrap (x.toNat : Int) = (x.toNat : Int) := by rw [wrap_u32_nat, ofNat_self]
theorem W32_add : binOp .add t (W32 x) (W32 y) = pure (W32 (x + y)) := by
  have h : IntKind.u32.wrap ((x.toNat : Int) + (y.toNat : Int)) = ((x + y).toNat : Int) := by
    rw [← Int.natCast_add, wrap_u32_nat, BitVec.toNat_ofNat, BitVec.toNat_add]
  simp only [W32, binOp_add, Op.intArith, h]
theorem W32_mul : binOp .mul t (W32 x) (W32 y) = pure (W32 (x * y)) := by
  have h : IntKind.u32.wrap ((x.toNat : Int) * (y.toNat : Int)) = ((x * y).toNat : Int) := by
    rw [← Int.natCast_mul, wrap_u32_nat, BitVec.toNat_ofNat, BitVec.toNat_mul]
  simp only [W32, binOp_mul, Op.intArith, h]
theorem W32_xor : binOp .xor t (W32 x) (W32 y) = pure (W32 (x ^^^ y)) := by
  have h : bits .xor .u32 (x.toNat : Int) (y.toNat : Int) = ((x ^^^ y).toNat : Int) := by
    show IntKind.u32.wrap ((BitVec.ofInt 32 (x.toNat : Int) ^^^ BitVec.ofInt 32 (y.toNat : Int)).toNat : Int) = _
    rw [ofInt_W32, ofInt_W32, wrap_W32]
  simp only [W32, binOp_xor, intBits_xor, h]
theorem W32_and : binOp .and t (W32 x) (W32 y) = pure (W32 (x &&& y)) := by
  have h : bits .and .u32 (x.toNat : Int) (y.toNat : Int) = ((x &&& y).toNat : Int) := by
    show IntKind.u32.wrap ((BitVec.ofInt 32 (x.toNat : Int) &&& BitVec.ofInt 32 (y.toNat : Int)).toNat : Int) = _
    rw [ofInt_W32, ofInt_W32, wrap_W32]
  simp only [W32, binOp_and, intBits_and, h]
theorem W32_or : binOp .or t (W32 x) (W32 y) = pure (W32 (x ||| y)) := by
  have h : bits .or .u32 (x.toNat : Int) (y.toNat : Int) = ((x ||| y).toNat : Int) := by
    show IntKind.u32.wrap ((BitVec.ofInt 32 (x.toNat : Int) ||| BitVec.ofInt 32 (y.toNat : Int)).toNat : Int) = _
    rw [ofInt_W32, ofInt_W32, wrap_W32]
  simp only [W32, binOp_or, intBits_or, h]
theorem W32_shl' (yk : IntKind) (c : Nat) : binOp .shl t (W32 x) (.int yk (c : Int)) = pure (W32 (x <<< c)) := by
  have h : IntKind.u32.wrap ((x.toNat : Int) * 2 ^ min c 32) = ((x <<< c).toNat : Int) := by
    have e : ((x.toNat : Int) * 2 ^ min c 32) = ((x.toNat * 2 ^ min c 32 : Nat) : Int) := by simp
    rw [e, wrap_u32_nat, BitVec.toNat_ofNat, BitVec.toNat_shiftLeft, Nat.shiftLeft_eq]
    rcases Nat.le_total c 32 with hc | hc
    · rw [Nat.min_eq_left hc]
    · rw [Nat.min_eq_right hc, Nat.mul_mod_left, show c = 32 + (c - 32) by omega, Nat.pow_add, Nat.mul_comm (2 ^ 32), ← Nat.mul_assoc, Nat.mul_mod_left]
  rw [show binOp .shl t (W32 x) (.int yk (c : Int)) = Op.shift .shl .u32 (x.toNat : Int) yk (c : Int) from rfl, shift_shl_any _ _ _ _ (Int.natCast_nonneg c)]
  simp only [Int.toNat_natCast, IntKind.bits, h, W32]
theorem W32_shl (yk : IntKind) (c : Int) (hc : 0 ≤ c) : binOp .shl t (W32 x) (.int yk c) = pure (W32 (x <<< c.toNat)) := by
  obtain ⟨c, rfl⟩ := Int.eq_ofNat_of_zero_le hc
  simpa using W32_shl' t x yk c
theorem W32_shr' (yk : IntKind) (c : Nat) : binOp .shr t (W32 x) (.int yk (c : Int)) = pure (W32 (x >>> c)) := by
  have h : (x.toNat : Int) / 2 ^ min c 32 = ((x >>> c).toNat : Int) := by
    have e : ((x.toNat : Int) / 2 ^ min c 32) = ((x.toNat / 2 ^ min c 32 : Nat) : Int) := by simp
    rw [e, BitVec.toNat_ushiftRight, Nat.shiftRight_eq_div_pow]
    rcases Nat.le_total c 32 with hc | hc
    · rw [Nat.min_eq_left hc]
    · have hx := x.isLt
      have h2 : 2 ^ 32 ≤ 2 ^ c := Nat.pow_le_pow_right (by omega) hc
      rw [Nat.min_eq_right hc, Nat.div_eq_of_lt (by omega), Nat.div_eq_of_lt (by omega)]
  rw [show binOp .shr t (W32 x) (.int yk (c : Int)) = Op.shift .shr .u32 (x.toNat : Int) yk (c : Int) from rfl, shift_shr_any _ _ _ _ (Int.natCast_nonneg c)]
  simp only [Int.toNat_natCast, IntKind.bits, h, W32]
theorem W32_shr (yk : IntKind) (c : Int) (hc : 0 ≤ c) : binOp .shr t (W32 x) (.int yk c) = pure (W32 (x >>> c.toNat)) := by
  obtain ⟨c, rfl⟩ := Int.eq_ofNat_of_zero_le hc
  simpa using W32_shr' t x yk c
theorem W32_eql : binOp .eql t (W32 x) (W32 y) = pure (.bool (x == y)) := by
  have h : ((x.toNat : Int) == (y.toNat : Int)) = (x == y) := by
    rw [Bool.eq_iff_iff, beq_iff_eq, beq_iff_eq]
    exact ⟨fun h => BitVec.eq_of_toNat_eq (by omega), fun h => by rw [h]⟩
  simp only [W32, binOp_eql, h]
theorem W32_neq : binOp .neq t (W32 x) (W32 y) = pure (.bool (x != y)) := by
  have h : ((x.toNat : Int) != (y.toNat : Int)) = (x != y) := by
    rw [Bool.eq_iff_iff, bne_iff_ne, bne_iff_ne]
    exact ⟨fun h e => h (by rw [e]), fun h e => h (BitVec.eq_of_toNat_eq (by omega))⟩
  simp only [W32, binOp_neq, h]
theorem eqGuard_W32 (op : BinOp) (a b : Operand) (v : Value) : eqGuard op t a b (W32 x) v = pure () := eqGuard_at_int op t a b v _ _
theorem run_store_W32 (P : Program) (w : World) (a : Addr) (m : Mode) : (store a (W32 x) m).run P w = stored P w a (W32 x) m := run_store P w a _ m rfl
end
section
variable (t : TypeId) (x y : BitVec 64)
theorem ofInt_W64 : BitVec.ofInt 64 (x.toNat : Int) = x := by rw [BitVec.ofInt_natCast]; exact ofNat_self x
theorem wrap_W64 : IntKind.u64.wrap (x.toNat : Int) = (x.toNat : Int) := by rw [wrap_u64_nat, ofNat_self]
theorem W64_add : binOp .add t (W64 x) (W64 y) = pure (W64 (x + y)) := by
  have h : IntKind.u64.wrap ((x.toNat : Int) + (y.toNat : Int)) = ((x + y).toNat : Int) := by
    rw [← Int.natCast_add, wrap_u64_nat, BitVec.toNat_ofNat, BitVec.toNat_add]
  simp only [W64, binOp_add, Op.intArith, h]
theorem W64_mul : binOp .mul t (W64 x) (W64 y) = pure (W64 (x * y)) := by
  have h : IntKind.u64.wrap ((x.toNat : Int) * (y.toNat : Int)) = ((x * y).toNat : Int) := by
    rw [← Int.natCast_mul, wrap_u64_nat, BitVec.toNat_ofNat, BitVec.toNat_mul]
  simp only [W64, binOp_mul, Op.intArith, h]
theorem W64_xor : binOp .xor t (W64 x) (W64 y) = pure (W64 (x ^^^ y)) := by
  have h : bits .xor .u64 (x.toNat : Int) (y.toNat : Int) = ((x ^^^ y).toNat : Int) := by
    show IntKind.u64.wrap ((BitVec.ofInt 64 (x.toNat : Int) ^^^ BitVec.ofInt 64 (y.toNat : Int)).toNat : Int) = _
    rw [ofInt_W64, ofInt_W64, wrap_W64]
  simp only [W64, binOp_xor, intBits_xor, h]
theorem W64_and : binOp .and t (W64 x) (W64 y) = pure (W64 (x &&& y)) := by
  have h : bits .and .u64 (x.toNat : Int) (y.toNat : Int) = ((x &&& y).toNat : Int) := by
    show IntKind.u64.wrap ((BitVec.ofInt 64 (x.toNat : Int) &&& BitVec.ofInt 64 (y.toNat : Int)).toNat : Int) = _
    rw [ofInt_W64, ofInt_W64, wrap_W64]
  simp only [W64, binOp_and, intBits_and, h]
theorem W64_or : binOp .or t (W64 x) (W64 y) = pure (W64 (x ||| y)) := by
  have h : bits .or .u64 (x.toNat : Int) (y.toNat : Int) = ((x ||| y).toNat : Int) := by
    show IntKind.u64.wrap ((BitVec.ofInt 64 (x.toNat : Int) ||| BitVec.ofInt 64 (y.toNat : Int)).toNat : Int) = _
    rw [ofInt_W64, ofInt_W64, wrap_W64]
  simp only [W64, binOp_or, intBits_or, h]
theorem W64_shl' (yk : IntKind) (c : Nat) : binOp .shl t (W64 x) (.int yk (c : Int)) = pure (W64 (x <<< c)) := by
  have h : IntKind.u64.wrap ((x.toNat : Int) * 2 ^ min c 64) = ((x <<< c).toNat : Int) := by
    have e : ((x.toNat : Int) * 2 ^ min c 64) = ((x.toNat * 2 ^ min c 64 : Nat) : Int) := by simp
    rw [e, wrap_u64_nat, BitVec.toNat_ofNat, BitVec.toNat_shiftLeft, Nat.shiftLeft_eq]
    rcases Nat.le_total c 64 with hc | hc
    · rw [Nat.min_eq_left hc]
    · rw [Nat.min_eq_right hc, Nat.mul_mod_left, show c = 64 + (c - 64) by omega, Nat.pow_add, Nat.mul_comm (2 ^ 64), ← Nat.mul_assoc, Nat.mul_mod_left]
  rw [show binOp .shl t (W64 x) (.int yk (c : Int)) = Op.shift .shl .u64 (x.toNat : Int) yk (c : Int) from rfl, shift_shl_any _ _ _ _ (Int.natCast_nonneg c)]
  simp only [Int.toNat_natCast, IntKind.bits, h, W64]
theorem W64_shl (yk : IntKind) (c : Int) (hc : 0 ≤ c) : binOp .shl t (W64 x) (.int yk c) = pure (W64 (x <<< c.toNat)) := by
  obtain ⟨c, rfl⟩ := Int.eq_ofNat_of_zero_le hc
  simpa using W64_shl' t x yk c
theorem W64_shr' (yk : IntKind) (c : Nat) : binOp .shr t (W64 x) (.int yk (c : Int)) = pure (W64 (x >>> c)) := by
  have h : (x.toNat : Int) / 2 ^ min c 64 = ((x >>> c).toNat : Int) := by
    have e : ((x.toNat : Int) / 2 ^ min c 64) = ((x.toNat / 2 ^ min c 64 : Nat) : Int) := by simp
    rw [e, BitVec.toNat_ushiftRight, Nat.shiftRight_eq_div_pow]
    rcases Nat.le_total c 64 with hc | hc
    · rw [Nat.min_eq_left hc]
    · have hx := x.isLt
      have h2 : 2 ^ 64 ≤ 2 ^ c := Nat.pow_le_pow_right (by omega) hc
      rw [Nat.min_eq_right hc, Nat.div_eq_of_lt (by omega), Nat.div_eq_of_lt (by omega)]
  rw [show binOp .shr t (W64 x) (.int yk (c : Int)) = Op.shift .shr .u64 (x.toNat : Int) yk (c : Int) from rfl, shift_shr_any _ _ _ _ (Int.natCast_nonneg c)]
  simp only [Int.toNat_natCast, IntKind.bits, h, W64]
theorem W64_shr (yk : IntKind) (c : Int) (hc : 0 ≤ c) : binOp .shr t (W64 x) (.int yk c) = pure (W64 (x >>> c.toNat)) := by
  obtain ⟨c, rfl⟩ := Int.eq_ofNat_of_zero_le hc
  simpa using W64_shr' t x yk c
theorem W64_eql : binOp .eql t (W64 x) (W64 y) = pure (.bool (x == y)) := by
  have h : ((x.toNat : Int) == (y.toNat : Int)) = (x == y) := by
    rw [Bool.eq_iff_iff, beq_iff_eq, beq_iff_eq]
    exact ⟨fun h => BitVec.eq_of_toNat_eq (by omega), fun h => by rw [h]⟩
  simp only [W64, binOp_eql, h]
theorem W64_neq : binOp .neq t (W64 x) (W64 y) = pure (.bool (x != y)) := by
  have h : ((x.toNat : Int) != (y.toNat : Int)) = (x != y) := by
    rw [Bool.eq_iff_iff, bne_iff_ne, bne_iff_ne]
    exact ⟨fun h e => h (by rw [e]), fun h e => h (BitVec.eq_of_toNat_eq (by omega))⟩
  simp only [W64, binOp_neq, h]
theorem eqGuard_W64 (op : BinOp) (a b : Operand) (v : Value) : eqGuard op t a b (W64 x) v = pure () := eqGuard_at_int op t a b v _ _
theorem run_store_W64 (P : Program) (w : World) (a : Addr) (m : Mode) : (store a (W64 x) m).run P w = stored P w a (W64 x) m := run_store P w a _ m rfl
end
section
variable (t : TypeId) (x y : BitVec 8)
theorem ofInt_B8 : BitVec.ofInt 8 (x.toNat : Int) = x := by rw [BitVec.ofInt_natCast]; exact ofNat_self x
theorem wrap_B8 : IntKind.u8.wrap (x.toNat : Int) = (x.toNat : Int) := by rw [wrap_u8_nat, ofNat_self]
theorem B8_add : binOp .add t (B8 x) (B8 y) = pure (B8 (x + y)) := by
  have h : IntKind.u8.wrap ((x.toNat : Int) + (y.toNat : Int)) = ((x + y).toNat : Int) := by
    rw [← Int.natCast_add, wrap_u8_nat, BitVec.toNat_ofNat, BitVec.toNat_add]
  simp only [B8, binOp_add, Op.intArith, h]
theorem B8_mul : binOp .mul t (B8 x) (B8 y) = pure (B8 (x * y)) := by
  have h : IntKind.u8.wrap ((x.toNat : Int) * (y.toNat : Int)) = ((x * y).toNat : Int) := by
    rw [← Int.natCast_mul, wrap_u8_nat, BitVec.toNat_ofNat, BitVec.toNat_mul]
  simp only [B8, binOp_mul, Op.intArith, h]
theorem B8_xor : binOp .xor t (B8 x) (B8 y) = pure (B8 (x ^^^ y)) := by
  have h : bits .xor .u8 (x.toNat : Int) (y.toNat : Int) = ((x ^^^ y).toNat : Int) := by
    show IntKind.u8.wrap ((BitVec.ofInt 8 (x.toNat : Int) ^^^ BitVec.ofInt 8 (y.toNat : Int)).toNat : Int) = _
    rw [ofInt_B8, ofInt_B8, wrap_B8]
  simp only [B8, binOp_xor, intBits_xor, h]
theorem B8_and : binOp .and t (B8 x) (B8 y) = pure (B8 (x &&& y)) := by
  have h : bits .and .u8 (x.toNat : Int) (y.toNat : Int) = ((x &&& y).toNat : Int) := by
    show IntKind.u8.wrap ((BitVec.ofInt 8 (x.toNat : Int) &&& BitVec.ofInt 8 (y.toNat : Int)).toNat : Int) = _
    rw [ofInt_B8, ofInt_B8, wrap_B8]
  simp only [B8, binOp_and, intBits_and, h]
theorem B8_or : binOp .or t (B8 x) (B8 y) = pure (B8 (x ||| y)) := by
  have h : bits .or .u8 (x.toNat : Int) (y.toNat : Int) = ((x ||| y).toNat : Int) := by
    show IntKind.u8.wrap ((BitVec.ofInt 8 (x.toNat : Int) ||| BitVec.ofInt 8 (y.toNat : Int)).toNat : Int) = _
    rw [ofInt_B8, ofInt_B8, wrap_B8]
  simp only [B8, binOp_or, intBits_or, h]
theorem B8_shl' (yk : IntKind) (c : Nat) : binOp .shl t (B8 x) (.int yk (c : Int)) = pure (B8 (x <<< c)) := by
  have h : IntKind.u8.wrap ((x.toNat : Int) * 2 ^ min c 8) = ((x <<< c).toNat : Int) := by
    have e : ((x.toNat : Int) * 2 ^ min c 8) = ((x.toNat * 2 ^ min c 8 : Nat) : Int) := by simp
    rw [e, wrap_u8_nat, BitVec.toNat_ofNat, BitVec.toNat_shiftLeft, Nat.shiftLeft_eq]
    rcases Nat.le_total c 8 with hc | hc
    · rw [Nat.min_eq_left hc]
    · rw [Nat.min_eq_right hc, Nat.mul_mod_left, show c = 8 + (c - 8) by omega, Nat.pow_add, Nat.mul_comm (2 ^ 8), ← Nat.mul_assoc, Nat.mul_mod_left]
  rw [show binOp .shl t (B8 x) (.int yk (c : Int)) = Op.shift .shl .u8 (x.toNat : Int) yk (c : Int) from rfl, shift_shl_any _ _ _ _ (Int.natCast_nonneg c)]
  simp only [Int.toNat_natCast, IntKind.bits, h, B8]
theorem B8_shl (yk : IntKind) (c : Int) (hc : 0 ≤ c) : binOp .shl t (B8 x) (.int yk c) = pure (B8 (x <<< c.toNat)) := by
  obtain ⟨c, rfl⟩ := Int.eq_ofNat_of_zero_le hc
  simpa using B8_shl' t x yk c
theorem B8_shr' (yk : IntKind) (c : Nat) : binOp .shr t (B8 x) (.int yk (c : Int)) = pure (B8 (x >>> c)) := by
  have h : (x.toNat : Int) / 2 ^ min c 8 = ((x >>> c).toNat : Int) := by
    have e : ((x.toNat : Int) / 2 ^ min c 8) = ((x.toNat / 2 ^ min c 8 : Nat) : Int) := by simp
    rw [e, BitVec.toNat_ushiftRight, Nat.shiftRight_eq_div_pow]
    rcases Nat.le_total c 8 with hc | hc
    · rw [Nat.min_eq_left hc]
    · have hx := x.isLt
      have h2 : 2 ^ 8 ≤ 2 ^ c := Nat.pow_le_pow_right (by omega) hc
      rw [Nat.min_eq_right hc, Nat.div_eq_of_lt (by omega), Nat.div_eq_of_lt (by omega)]
  rw [show binOp .shr t (B8 x) (.int yk (c : Int)) = Op.shift .shr .u8 (x.toNat : Int) yk (c : Int) from rfl, shift_shr_any _ _ _ _ (Int.natCast_nonneg c)]
  simp only [Int.toNat_natCast, IntKind.bits, h, B8]
theorem B8_shr (yk : IntKind) (c : Int) (hc : 0 ≤ c) : binOp .shr t (B8 x) (.int yk c) = pure (B8 (x >>> c.toNat)) := by
  obtain ⟨c, rfl⟩ := Int.eq_ofNat_of_zero_le hc
  simpa using B8_shr' t x yk c
theorem B8_eql : binOp .eql t (B8 x) (B8 y) = pure (.bool (x == y)) := by
  have h : ((x.toNat : Int) == (y.toNat : Int)) = (x == y) := by
    rw [Bool.eq_iff_iff, beq_iff_eq, beq_iff_eq]
    exact ⟨fun h => BitVec.eq_of_toNat_eq (by omega), fun h => by rw [h]⟩
  simp only [B8, binOp_eql, h]
theorem B8_neq : binOp .neq t (B8 x) (B8 y) = pure (.bool (x != y)) := by
  have h : ((x.toNat : Int) != (y.toNat : Int)) = (x != y) := by
    rw [Bool.eq_iff_iff, bne_iff_ne, bne_iff_ne]
    exact ⟨fun h e => h (by rw [e]), fun h e => h (BitVec.eq_of_toNat_eq (by omega))⟩
  simp only [B8, binOp_neq, h]
theorem eqGuard_B8 (op : BinOp) (a b : Operand) (v : Value) : eqGuard op t a b (B8 x) v = pure () := eqGuard_at_int op t a b v _ _
theorem run_store_B8 (P : Program) (w : World) (a : Addr) (m : Mode) : (store a (B8 x) m).run P w = stored P w a (B8 x) m := run_store P w a _ m rfl
end

section
variable {P : Program} (w : World) (src dst : TypeId)
theorem conv_B8_W32 (x : BitVec 8) (hs : P.underlying src = some (.int .u8)) (hd : P.underlying dst = some (.int .u32)) : (convert src dst (B8 x)).run P w = .ok (W32 (x.setWidth 32)) w := by
  have h : IntKind.u32.wrap (x.toNat : Int) = ((x.setWidth 32).toNat : Int) := by
    rw [wrap_u32_nat, BitVec.toNat_ofNat, BitVec.toNat_setWidth]
  simp [convert, run_underlying hs, run_underlying hd, Conv.intToInt, B8, W32, h]
theorem conv_B8_W64 (x : BitVec 8) (hs : P.underlying src = some (.int .u8)) (hd : P.underlying dst = some (.int .u64)) : (convert src dst (B8 x)).run P w = .ok (W64 (x.setWidth 64)) w := by
  have h : IntKind.u64.wrap (x.toNat : Int) = ((x.setWidth 64).toNat : Int) := by
    rw [wrap_u64_nat, BitVec.toNat_ofNat, BitVec.toNat_setWidth]
  simp [convert, run_underlying hs, run_underlying hd, Conv.intToInt, B8, W64, h]
theorem conv_W32_B8 (x : BitVec 32) (hs : P.underlying src = some (.int .u32)) (hd : P.underlying dst = some (.int .u8)) : (convert src dst (W32 x)).run P w = .ok (B8 (x.setWidth 8)) w := by
  have h : IntKind.u8.wrap (x.toNat : Int) = ((x.setWidth 8).toNat : Int) := by
    rw [wrap_u8_nat, BitVec.toNat_ofNat, BitVec.toNat_setWidth]
  simp [convert, run_underlying hs, run_underlying hd, Conv.intToInt, B8, W32, h]
theorem conv_W64_B8 (x : BitVec 64) (hs : P.underlying src = some (.int .u64)) (hd : P.underlying dst = some (.int .u8)) : (convert src dst (W64 x)).run P w = .ok (B8 (x.setWidth 8)) w := by
  have h : IntKind.u8.wrap (x.toNat : Int) = ((x.setWidth 8).toNat : Int) := by
    rw [wrap_u8_nat, BitVec.toNat_ofNat, BitVec.toNat_setWidth]
  simp [convert, run_underlying hs, run_underlying hd, Conv.intToInt, B8, W64, h]
end

theorem cells_B8 (x : BitVec 8) : (B8 x).cells = #[B8 x] := rfl
theorem cells_W32 (x : BitVec 32) : (W32 x).cells = #[W32 x] := rfl
theorem cells_W64 (x : BitVec 64) : (W64 x).cells = #[W64 x] := rfl
attribute [go_sem ↓ high] cells_B8 cells_W32 cells_W64
theorem run_storeCells_B8 (P : Program) (w : World) (a : Addr) (x : BitVec 8) : (storeCells a [B8 x] 0).run P w = stored P w a (B8 x) .plain := by
  have e : (storeCells a [B8 x] 0) = (do store (a.add 0) (B8 x); pure ()) := rfl
  rw [e]
  simp only [Sem.run_bind, run_store_B8, Addr.add_zero']
  cases stored P w a (B8 x) .plain <;> simp [Result.andThen]
attribute [go_sem] run_storeCells_B8
theorem run_storeCells_W32 (P : Program) (w : World) (a : Addr) (x : BitVec 32) : (storeCells a [W32 x] 0).run P w = stored P w a (W32 x) .plain := by
  have e : (storeCells a [W32 x] 0) = (do store (a.add 0) (W32 x); pure ()) := rfl
  rw [e]
  simp only [Sem.run_bind, run_store_W32, Addr.add_zero']
  cases stored P w a (W32 x) .plain <;> simp [Result.andThen]
attribute [go_sem] run_storeCells_W32
theorem run_storeCells_W64 (P : Program) (w : World) (a : Addr) (x : BitVec 64) : (storeCells a [W64 x] 0).run P w = stored P w a (W64 x) .plain := by
  have e : (storeCells a [W64 x] 0) = (do store (a.add 0) (W64 x); pure ()) := rfl
  rw [e]
  simp only [Sem.run_bind, run_store_W64, Addr.add_zero']
  cases stored P w a (W64 x) .plain <;> simp [Result.andThen]
attribute [go_sem] run_storeCells_W64
attribute [go_sem] conv_B8_W32 conv_B8_W64 conv_W32_B8 conv_W64_B8
attribute [go_sem] W32_add W32_mul W32_xor W32_and W32_or W32_shl W32_shr W32_eql W32_neq eqGuard_W32 run_store_W32
attribute [go_sem] W64_add W64_mul W64_xor W64_and W64_or W64_shl W64_shr W64_eql W64_neq eqGuard_W64 run_store_W64
attribute [go_sem] B8_add B8_mul B8_xor B8_and B8_or B8_shl B8_shr B8_eql B8_neq eqGuard_B8 run_store_B8

/-! ### a slice that reads as a list of bytes -/
/-- The slice whose address is A reads bs in w. -/
def Rd (w : World) (A : Option Addr) (bs : List (BitVec 8)) : Prop :=
  ∀ k (h : k < bs.length), ∃ b o, A = some ⟨b, o, none⟩ ∧ w.cell? ⟨b, o + k, none⟩ = some (B8 bs[k])
theorem Rd.of_nil (w : World) (A : Option Addr) : Rd w A [] := fun _ h => absurd h (Nat.not_lt_zero _)
theorem Rd.drewN {w : World} {A : Option Addr} {bs : List (BitVec 8)} (h : Rd w A bs) (n : Nat) : Rd (w.drewN n) A bs := h
theorem Rd.below {w w' : World} {A : Option Addr} {bs : List (BitVec 8)} (h : Rd w A bs) (hb : Below w.heap.size w w') : Rd w' A bs := fun k hk => by
  obtain ⟨b, o, e, hc⟩ := h k hk
  exact ⟨b, o, e, (hb.cell (block_lt_of_cell hc)).trans hc⟩

/-! ### rows of bytes -/
def bv (bs : List (BitVec 8)) : List Value := bs.map B8
theorem bv_length (bs : List (BitVec 8)) : (bv bs).length = bs.length := by simp [bv]
theorem bv_append (a b : List (BitVec 8)) : bv (a ++ b) = bv a ++ bv b := by simp [bv]
theorem bv_one (bs : List (BitVec 8)) : ∀ u ∈ bv bs, u.oneCell' = true := by
  intro u hu
  obtain ⟨_, _, rfl⟩ := List.mem_map.1 hu
  rfl
theorem bv_inj {a b : List (BitVec 8)} (h : bv a = bv b) : a = b := List.map_inj_right (fun _ _ => B8_inj) |>.1 h
/-- the cells of what reads as bs lie at its address -/
theorem Rd.lay {w : World} {A : Option Addr} {bs : List (BitVec 8)} (h : Rd w A bs) (hp : 0 < bs.length) :
    ∃ b o, A = some ⟨b, o, Option.none⟩ ∧ b < w.heap.size ∧ ∀ i, i < bs.length → w.cell? ⟨b, o + i, Option.none⟩ = some (B8 (bs.getD i 0)) := by
  obtain ⟨b, o, e, hc⟩ := h 0 hp
  refine ⟨b, o, e, block_lt_of_cell hc, fun i hi => ?_⟩
  obtain ⟨b', o', e', h'⟩ := h i hi
  rw [e] at e'
  obtain ⟨rfl, rfl⟩ : b = b' ∧ o = o' := by simpa using e'
  rw [h', List.getD_eq_getElem?_getD, List.getElem?_eq_getElem hi]; rfl
theorem Rd.cells {w : World} {A : Option Addr} {bs : List (BitVec 8)} (h : Rd w A bs) : ∀ ad, A = some ad → ∀ j u, (bv bs)[j]? = some u → w.cell? (ad.add j) = some u := by
  intro ad had j u hu
  have hj : j < bs.length := by
    have := (List.getElem?_eq_some_iff.1 hu).1
    simpa [bv] using this
  obtain ⟨b, o, e, hc⟩ := h j hj
  rw [had] at e
  obtain rfl := Option.some.inj e
  rw [Addr.add_lit, hc]
  simpa [bv, List.getElem?_eq_getElem hj] using hu
theorem Rd.empty {w : World} {bs : List (BitVec 8)} (h : Rd w none bs) : bs = [] := by
  rcases bs with _ | ⟨x, r⟩
  · rfl
  · obtain ⟨b, o, e, _⟩ := h 0 (by simp)
    cases e
/-- a block that holds bs from place 0 on -/
theorem Rd.of_block {w : World} {g : Nat} {cur : Array Value} {t : TypeId} {fr : Nat × Nat} {bs : List (BitVec 8)} (hg : w.heap[g]? = some (.cells cur t fr)) (h : cur.toList.take bs.length = bv bs) : Rd w (some ⟨g, 0, none⟩) bs := by
  intro k hk
  refine ⟨g, 0, rfl, ?_⟩
  rw [cell_of_row w g (0 + k) cur t fr hg, Nat.zero_add]
  have e : (cur.toList.take bs.length)[k]? = cur[k]? := by rw [List.getElem?_take, if_pos hk]; simp
  rw [← e, h]
  simp [bv, hk]
theorem Rd.of_own {w : World} {base : Nat} {e : TypeId} {A : Option Addr} {n c : Nat} {bs : List (BitVec 8)} (h : w.ownsRow base e 1 (.slice A n c) n (bv bs)) : Rd w A bs := by
  rcases h.2 with ⟨h1, h2⟩ | ⟨g, cap, cur, hv, _, hg, _, _, _, ht⟩
  · have : bs.length = n := by have := h.1; rw [bv_length] at this; omega
    rw [show bs = [] from List.eq_nil_of_length_eq_zero (by omega)]
    exact Rd.of_nil _ _
  · simp only [Value.slice.injEq] at hv
    obtain ⟨rfl, _, _⟩ := hv
    have hl : n * 1 = bs.length := by have := h.1; rw [bv_length] at this; omega
    rw [hl] at ht
    exact Rd.of_block hg ht
/-- a full row: its block is known whole -/
theorem own_full {w : World} {base : Nat} {e : TypeId} {g n : Nat} {xs : List Value} (h : w.ownsRow base e 1 (.slice (some ⟨g, 0, none⟩) n n) n xs) : base ≤ g ∧ w.heap[g]? = some (.cells xs.toArray e (0, 0)) := by
  rcases h.2 with ⟨h1, _⟩ | ⟨g', cap, cur, hv, hb, hg, _, _, hs, ht⟩
  · simp at h1
  · simp only [Value.slice.injEq, Option.some.injEq, Addr.mk.injEq, and_true, true_and] at hv
    obtain ⟨rfl, rfl⟩ := hv
    refine ⟨hb, ?_⟩
    rw [hg, ← ht, List.take_of_length_le (by simp; omega)]

/-! ### calls that only read, met inside a region that draws its order (after a draw the worlds have been joined) -/
theorem q_same {P : Program} {f : FuncId} {args : Array Value} {w : World} {v : Value} {n : Nat}
    (h : Calls P f args (w.drewN n) fun e w' => e = .returned v ∧ w.drewN n = w') : Calls P f args (w.drewN n) fun e w'' => e = .returned v ∧ ∃ m, w'' = w.drewN m :=
  h.mono fun _ _ ⟨he, hm⟩ => ⟨he, n, hm.symm⟩
theorem q_add {P : Program} {f : FuncId} {args : Array Value} {w : World} {v : Value} {a n : Nat}
    (h : Calls P f args (w.drewN (a + n)) fun e w' => e = .returned v ∧ w.drewN (a + n) = w') : Calls P f args (w.drewN (a + n)) fun e w'' => e = .returned v ∧ ∃ m, w'' = w.drewN (a + m) :=
  h.mono fun _ _ ⟨he, hm⟩ => ⟨he, n, hm.symm⟩
theorem q_drew {P : Program} {f : FuncId} {args : Array Value} {w : World} {v : Value} {n : Nat}
    (h : Calls P f args (w.drewN n) fun e w' => e = .returned v ∧ ∃ m, w' = (w.drewN n).drewN m) : Calls P f args (w.drewN n) fun e w'' => e = .returned v ∧ ∃ m, w'' = w.drewN m :=
  h.mono fun _ _ ⟨he, m, hm⟩ => ⟨he, n + m, by rw [hm, World.drewN_drewN]⟩
theorem q_add_drew {P : Program} {f : FuncId} {args : Array Value} {w : World} {v : Value} {a n : Nat}
    (h : Calls P f args (w.drewN (a + n)) fun e w' => e = .returned v ∧ ∃ m, w' = (w.drewN (a + n)).drewN m) : Calls P f args (w.drewN (a + n)) fun e w'' => e = .returned v ∧ ∃ m, w'' = w.drewN (a + m) :=
  h.mono fun _ _ ⟨he, m, hm⟩ => ⟨he, n + m, by rw [hm, World.drewN_drewN, Nat.add_assoc]⟩
theorem drewN_ex (w : World) (a b : Nat) : ∃ k, (w.drewN a).drewN b = w.drewN k := ⟨_, World.drewN_drewN _ _ _⟩

/-! ### one cell stored, as a law -/
section
variable {P : Program}
theorem cells_of_one {v : Value} (h1 : v.oneCell' = true) : v.cells = #[v] := by cases v <;> first | rfl | (simp [Value.oneCell'] at h1)
theorem run_storeVar_one (w : World) (ty : TypeId) (p : Addr) (v old : Value) (h1 : v.oneCell' = true) (hs : (P.info? ty).map (·.size) = some 1) (hc : w.cell? p = some old) (hf : w.frozen? p = false) :
    (storeVar ty p v).run P w = .ok () (w.setCell p v) := by
  cases hq : P.info? ty with
  | none => simp [hq] at hs
  | some i =>
    have hs' : i.size = 1 := by simpa [hq] using hs
    have e : (storeCells p [v] 0) = (do store (p.add 0) v; pure ()) := rfl
    simp [storeVar, sizeOf, typeInfo, hq, cells_of_one h1, hs', e, run_store P w p v _ h1, hc, hf, Result.andThen, Addr.add_zero']
theorem wpList_store_one {ops : Array Oper} {rest : List Oper} {o : Oper} {a : Act} {w : World} {Q : Exit → Act → World → Prop} (hgd : o.guard = Option.none) (ty : TypeId) (x y : Operand) (ho : o.op = .store ty x y)
    (p : Addr) (v old : Value) (hx : a.eval x = .pointer (some p)) (hy : a.eval y = v) (h1 : v.oneCell' = true) (hs : (P.info? ty).map (·.size) = some 1) (hc : w.cell? p = some old) (hf : w.frozen? p = false)
    (h : wpList P ops Q rest (a.put o.dst undef) (w.setCell p v)) : wpList P ops Q (o :: rest) a w := by
  refine wpList_plain hgd fun K hK => ?_
  unfold Oper.wp execOp
  simp only [ho, hx, hy, Instr.storeAt, Instr.sureAddr, Sem.run_bind, Sem.run_pure, Result.andThen_ok, run_storeVar_one w ty p v old h1 hs hc hf]
  exact hK _ _ h
end

theorem block_set {w : World} {g : Nat} {xs : List Value} {t : TypeId} (hg : w.heap[g]? = some (.cells xs.toArray t (0, 0))) (i : Nat) (v : Value) :
    (w.setCell ⟨g, i, Option.none⟩ v).heap[g]? = some (.cells (xs.set i v).toArray t (0, 0)) := by
  rw [heap_setCell_same w g i _ t v hg]; simp
theorem block_cell {w : World} {g : Nat} {xs : List Value} {t : TypeId} {fr : Nat × Nat} (hg : w.heap[g]? = some (.cells xs.toArray t fr)) {i : Nat} {v : Value} (h : xs[i]? = some v) : w.cell? ⟨g, i, Option.none⟩ = some v := by
  rw [cell_of_row w g i _ _ _ hg, List.getElem?_toArray, h]

theorem below_drewN {B : Nat} {a w : World} (h : Below B a w) (n : Nat) : Below B a (w.drewN n) := ⟨h.os, h.tape, h.output, h.size, h.block⟩

/-- an array value's element, its index a variable -/
theorem run_index_agg {P : Program} (t e : TypeId) (len : Nat) (cs : Array Value) (k : Nat) (v : Value) (d : TypeDesc) (ht : P.underlying t = some (.array len e)) (he : (P.info? e).map (·.size) = some 1)
    (hd : P.underlying e = some d) (hd1 : (match d with | .struct _ | .array _ _ => true | _ => false) = false) (hk : k < len) (hv : cs[k]? = some v) (w : World) :
    (Instr.index t (.agg cs) (.int .i64 (k : Int))).run P w = .ok v w := by
  cases hq : P.info? e with
  | none => simp [hq] at he
  | some i =>
    have hs : i.size = 1 := by simpa [hq] using he
    have hagg : (isAgg e).run P w = .ok false w := by
      unfold isAgg
      rw [Sem.run_bind, run_underlying hd w]
      cases d <;> simp_all
    simp [Instr.index, asIntOf, run_underlying ht, hk, sizeOf, typeInfo, hq, hs, part, hagg, hv, Sem.run_bind]

theorem heap_alloc3_new (w : World) (A B C : Obj) : (((w.alloc A).alloc B).alloc C).heap[w.heap.size + 2]? = some C := by
  have h := heap_alloc_new ((w.alloc A).alloc B) C
  have e : ((w.alloc A).alloc B).heap.size = w.heap.size + 2 := by simp
  rwa [e] at h
theorem heap_alloc3_mid (w : World) (A B C : Obj) : (((w.alloc A).alloc B).alloc C).heap[w.heap.size + 1]? = some B := by
  rw [Below.heap_alloc ((w.alloc A).alloc B) C (w.heap.size + 1) (by simp)]
  exact heap_alloc2_new w A B
theorem heap_alloc3_old (w : World) (A B C : Obj) : (((w.alloc A).alloc B).alloc C).heap[w.heap.size]? = some A := by
  rw [Below.heap_alloc ((w.alloc A).alloc B) C w.heap.size (by simp; omega)]
  exact heap_alloc2_old w A B

theorem W32_not (x : BitVec 32) : Op.unary .xor (W32 x) = pure (W32 (~~~x)) := by
  have h : bits .xor .u32 (4294967295 : Int) (x.toNat : Int) = ((~~~x).toNat : Int) := by
    show IntKind.u32.wrap ((BitVec.ofInt 32 4294967295 ^^^ BitVec.ofInt 32 (x.toNat : Int)).toNat : Int) = _
    have e : BitVec.ofInt 32 4294967295 = BitVec.allOnes 32 := by decide
    rw [ofInt_W32, e, BitVec.allOnes_xor, wrap_W32]
  show Op.intBits .xor .u32 (if IntKind.u32.signed then -1 else IntKind.u32.max) (x.toNat : Int) = _
  rw [intBits_xor]
  have e2 : (if IntKind.u32.signed then (-1 : Int) else IntKind.u32.max) = 4294967295 := by decide
  rw [e2, h]; rfl
attribute [go_sem] W32_not

/-- a whole array loaded, as a step of a still walk -/
theorem wpStill_load_row {P : Program} {ops : Array Oper} {rest : List Oper} {o : Oper} {a : Act} {w : World} {Q : Act → Prop} (hgd : o.guard = Option.none) (ty : TypeId) (x : Operand) (ho : o.op = .load ty x)
    (g : Nat) (hx : a.eval x = .pointer (some ⟨g, 0, Option.none⟩)) (t : TypeId) (cs : Array Value) (fr : Nat × Nat) (d : TypeDesc) (hg : w.heap[g]? = some (.cells cs t fr))
    (hu : P.underlying ty = some d) (hd : (match d with | .struct _ | .array _ _ => true | _ => false) = true) (hi : (P.info? ty).map (·.size) = some cs.size)
    (h : wpStill P ops w Q rest (a.put o.dst (.agg cs))) : wpStill P ops w Q (o :: rest) a := by
  refine wpStill_step fun K hK => ?_
  rw [if_pos (by simp [Region.wanted, hgd])]
  unfold Oper.still execOp
  simp only [ho, hx, Instr.loadAt, Instr.sureAddr, Sem.run_bind, Sem.run_pure, Result.andThen_ok, run_loadVar_row w g t ty cs fr d hg hu hd hi]
  exact ⟨rfl, hK _ h⟩

theorem B8_lss (t : TypeId) (x y : BitVec 8) : binOp .lss t (B8 x) (B8 y) = pure (.bool (decide (x < y))) := by
  have h : decide ((x.toNat : Int) < (y.toNat : Int)) = decide (x < y) := by
    rw [decide_eq_decide, BitVec.lt_def]; omega
  simp only [B8, binOp_lss, h]
theorem B8_gtr (t : TypeId) (x y : BitVec 8) : binOp .gtr t (B8 x) (B8 y) = pure (.bool (decide (y < x))) := by
  have h : decide ((x.toNat : Int) > (y.toNat : Int)) = decide (y < x) := by
    rw [decide_eq_decide, BitVec.lt_def]; omega
  simp only [B8, binOp_gtr, h]
attribute [go_sem] B8_lss B8_gtr

theorem W32_lss (t : TypeId) (x y : BitVec 32) : binOp .lss t (W32 x) (W32 y) = pure (.bool (decide (x < y))) := by
  have h : decide ((x.toNat : Int) < (y.toNat : Int)) = decide (x < y) := by
    rw [decide_eq_decide, BitVec.lt_def]; omega
  simp only [W32, binOp_lss, h]
theorem W32_gtr (t : TypeId) (x y : BitVec 32) : binOp .gtr t (W32 x) (W32 y) = pure (.bool (decide (y < x))) := by
  have h : decide ((x.toNat : Int) > (y.toNat : Int)) = decide (y < x) := by
    rw [decide_eq_decide, BitVec.lt_def]; omega
  simp only [W32, binOp_gtr, h]
attribute [go_sem] W32_lss W32_gtr

theorem W64_lss (t : TypeId) (x y : BitVec 64) : binOp .lss t (W64 x) (W64 y) = pure (.bool (decide (x < y))) := by
  have h : decide ((x.toNat : Int) < (y.toNat : Int)) = decide (x < y) := by
    rw [decide_eq_decide, BitVec.lt_def]; omega
  simp only [W64, binOp_lss, h]
theorem W64_gtr (t : TypeId) (x y : BitVec 64) : binOp .gtr t (W64 x) (W64 y) = pure (.bool (decide (y < x))) := by
  have h : decide ((x.toNat : Int) > (y.toNat : Int)) = decide (y < x) := by
    rw [decide_eq_decide, BitVec.lt_def]; omega
  simp only [W64, binOp_gtr, h]
attribute [go_sem] W64_lss W64_gtr

end Go.Proofs.Ytfpjmeknjhhakaa.K
