/- More laws on opaque words: unary minus, comparisons with constants, conversions. -/
import Derived.Test.YtfpjmeknjhhakaaWords
namespace Go.Proofs.Ytfpjmeknjhhakaa.K
open Go Go.RowKit

theorem wrap_u32' (n : Int) : IntKind.u32.wrap n = n % 4294967296 := by simp [IntKind.wrap, IntKind.bits, IntKind.signed]
theorem W32_neg (x : BitVec 32) : Op.unary .neg (W32 x) = pure (W32 (-x)) := by
  have h : IntKind.u32.wrap (0 - (x.toNat : Int)) = ((-x).toNat : Int) := by
    rw [wrap_u32', BitVec.toNat_neg]
    have := x.isLt
    omega
  show Op.intArith .sub .u32 0 (x.toNat : Int) = _
  simp [Op.intArith]
  exact congrArg (fun z => (pure (Value.int .u32 z) : Sem Value)) (by simpa using h)
attribute [go_sem] W32_neg
section
variable {P : Program} (w : World) (src dst : TypeId)
theorem conv_W32_int (x : BitVec 32) (hs : P.underlying src = some (.int .u32)) (hd : P.underlying dst = some (.int .i64)) : (convert src dst (W32 x)).run P w = .ok (.int .i64 (x.toNat : Int)) w := by
  have h : IntKind.i64.wrap (x.toNat : Int) = (x.toNat : Int) := IntWalk.i64_in _ (by have := x.isLt; omega)
  simp [convert, run_underlying hs, run_underlying hd, Conv.intToInt, W32, h]
theorem conv_int_W32 (n : Nat) (hs : P.underlying src = some (.int .i64)) (hd : P.underlying dst = some (.int .u32)) : (convert src dst (.int .i64 (n : Int))).run P w = .ok (W32 (BitVec.ofNat 32 n)) w := by
  have h : IntKind.u32.wrap (n : Int) = ((BitVec.ofNat 32 n).toNat : Int) := wrap_u32_nat n
  simp [convert, run_underlying hs, run_underlying hd, Conv.intToInt, W32, h]
end
theorem W32_gtr_lit (t : TypeId) (x : BitVec 32) (k : Nat) (hk : k < 4294967296) : binOp .gtr t (W32 x) (.int .u32 (k : Int)) = pure (.bool (decide (k < x.toNat))) := by
  have e : Value.int .u32 (k : Int) = W32 (BitVec.ofNat 32 k) := by
    rw [W32, BitVec.toNat_ofNat, Nat.mod_eq_of_lt (by omega)]
  rw [e, W32_gtr]
  congr 2
  rw [decide_eq_decide, BitVec.lt_def, BitVec.toNat_ofNat, Nat.mod_eq_of_lt (by omega)]
end Go.Proofs.Ytfpjmeknjhhakaa.K
