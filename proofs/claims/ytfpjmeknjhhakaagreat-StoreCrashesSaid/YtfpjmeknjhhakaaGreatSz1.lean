/- Merged: ShaMath, WireMath, Words, Append, RowSet, RowMore, Basic, Lent. -/
import Derived.WalkKit
import Derived.WalkSpells
import Derived.Lib.Hide
import Derived.Deep.QuietTactic
import Derived.BigQuiet
import Derived.StillTailTactics
import Derived.Laws.CopyOwn
import Derived.Maps.AppendAt
import Derived.Deep.LoopGhost
import Derived.Deep.Draws
import Derived.ArgAppend
import Derived.Deep.AppendLies
import Derived.Test.YtfpjmeknjhhakaaGreatRows
set_option linter.unusedVariables false
/- SHA-256 as plain Lean functions on words of 32 bits, and what is known of them. No program in sight. -/
namespace Go.Proofs.YtfpjmeknjhhakaaGreat.M

abbrev W := BitVec 32
abbrev B := BitVec 8

def rot (x : W) (n : Nat) : W := (x >>> n) ||| (x <<< (32 - n))
def word (a b c d : B) : W := (a.setWidth 32 <<< 24) ||| (b.setWidth 32 <<< 16) ||| (c.setWidth 32 <<< 8) ||| d.setWidth 32
def sg0 (x : W) : W := rot x 7 ^^^ rot x 18 ^^^ (x >>> 3)
def sg1 (y : W) : W := rot y 17 ^^^ rot y 19 ^^^ (y >>> 10)
def bs0 (a : W) : W := rot a 2 ^^^ rot a 13 ^^^ rot a 22
def bs1 (e : W) : W := rot e 6 ^^^ rot e 11 ^^^ rot e 25
def ch (e f g : W) : W := (e &&& f) ^^^ (~~~e &&& g)
def maj (a b c : W) : W := (a &&& b) ^^^ (a &&& c) ^^^ (b &&& c)

/-- the first k words of a block's schedule -/
def at32 (l : List W) (i : Nat) : W := l.getD i 0
def at8 (l : List B) (i : Nat) : B := l.getD i 0
def next (l : List W) (t : Nat) : W := at32 l (t - 16) + sg0 (at32 l (t - 15)) + at32 l (t - 7) + sg1 (at32 l (t - 2))
def wordAt (b : List B) (t : Nat) : W := word (at8 b (4 * t)) (at8 b (4 * t + 1)) (at8 b (4 * t + 2)) (at8 b (4 * t + 3))
def sched (b : List B) : Nat → List W
  | 0 => []
  | t + 1 => sched b t ++ [if t < 16 then wordAt b t else next (sched b t) t]
theorem sched_length (b : List B) (t : Nat) : (sched b t).length = t := by
  induction t with
  | zero => rfl
  | succ t ih => simp [sched, ih]

structure St where
  a : W
  b : W
  c : W
  d : W
  e : W
  f : W
  g : W
  h : W
deriving DecidableEq

def one (s : St) (k w : W) : W := s.h + bs1 s.e + ch s.e s.f s.g + k + w
def two (s : St) : W := bs0 s.a + maj s.a s.b s.c
def rnd (s : St) (k w : W) : St := ⟨one s k w + two s, s.a, s.b, s.c, s.d + one s k w, s.e, s.f, s.g⟩
def St.add (s o : St) : St := ⟨s.a + o.a, s.b + o.b, s.c + o.c, s.d + o.d, s.e + o.e, s.f + o.f, s.g + o.g, s.h + o.h⟩
def St.list (s : St) : List W := [s.a, s.b, s.c, s.d, s.e, s.f, s.g, s.h]

def kList : List W := [1116352408, 1899447441, 3049323471, 3921009573, 961987163, 1508970993, 2453635748, 2870763221, 3624381080, 310598401, 607225278, 1426881987, 1925078388, 2162078206, 2614888103, 3248222580, 3835390401, 4022224774, 264347078, 604807628, 770255983, 1249150122, 1555081692, 1996064986, 2554220882, 2821834349, 2952996808, 3210313671, 3336571891, 3584528711, 113926993, 338241895, 666307205, 773529912, 1294757372, 1396182291, 1695183700, 1986661051, 2177026350, 2456956037, 2730485921, 2820302411, 3259730800, 3345764771, 3516065817, 3600352804, 4094571909, 275423344, 430227734, 506948616, 659060556, 883997877, 958139571, 1322822218, 1537002063, 1747873779, 1955562222, 2024104815, 2227730452, 2361852424, 2428436474, 2756734187, 3204031479, 3329325298]
def first : St := ⟨1779033703, 3144134277, 1013904242, 2773480762, 1359893119, 2600822924, 528734635, 1541459225⟩

/-- t rounds over the words ws -/
def rounds (s : St) (ws : List W) : Nat → St
  | 0 => s
  | t + 1 => rnd (rounds s ws t) (at32 kList t) (at32 ws t)
def take (s : St) (blk : List B) : St := (rounds s (sched blk 64) 64).add s

/-- the length's eight bytes, the highest first -/
def be8 (n : Nat) : List B := (List.range 8).map fun i => BitVec.ofNat 8 (n >>> (8 * (7 - i)))
def total (n : Nat) : Nat := (n + 8) / 64 * 64 + 64
def message (bs : List B) : List B := bs ++ [128#8] ++ List.replicate (total bs.length - bs.length - 9) 0#8 ++ be8 (bs.length * 8)
theorem total_ge (n : Nat) : n + 9 ≤ total n := by unfold total; omega
theorem total_mod (n : Nat) : total n % 64 = 0 := by unfold total; omega
theorem message_length (bs : List B) : (message bs).length = total bs.length := by
  have := total_ge bs.length
  simp [message, be8]; omega

/-- k blocks of m taken in -/
def after (m : List B) : Nat → St
  | 0 => first
  | k + 1 => take (after m k) ((m.drop (64 * k)).take 64)
theorem after_succ (m : List B) (k : Nat) : take (after m k) ((m.drop (64 * k)).take 64) = after m (k + 1) := rfl
def bytesOf (w : W) : List B := [(w >>> 24).setWidth 8, (w >>> 16).setWidth 8, (w >>> 8).setWidth 8, w.setWidth 8]
def digest (s : St) : List B := s.list.flatMap bytesOf
def sum (bs : List B) : List B := digest (after (message bs) (total bs.length / 64))
theorem sum_length (bs : List B) : (sum bs).length = 32 := rfl

end Go.Proofs.YtfpjmeknjhhakaaGreat.M

/- Numbers, bytes and entries as bytes: plain Lean functions. No program in sight. -/
namespace Go.Proofs.YtfpjmeknjhhakaaGreat.M
abbrev U64 := BitVec 64
/-- the byte of a number that stands i bytes above the lowest one -/
def byteOf (n : Int) (i : Nat) : B := (BitVec.ofInt 64 n >>> (8 * i)).setWidth 8
/-- a number's bytes, the highest first -/
def num (n : Int) : List B := (List.range 8).map fun i => byteOf n (7 - i)
theorem num_length (n : Int) : (num n).length = 8 := rfl
theorem byteOf_int (n : Int) (i : Nat) (h : i < 8) : ((byteOf n i).toNat : Int) = n / 2 ^ (8 * i) % 256 := by
  unfold byteOf
  rw [BitVec.toNat_setWidth, BitVec.toNat_ushiftRight, BitVec.toNat_ofInt, Nat.shiftRight_eq_div_pow]
  rcases i with _ | _ | _ | _ | _ | _ | _ | _ | i
  all_goals first | omega | (simp only [Nat.reduceMul, Nat.reduceAdd, Nat.reducePow, Int.reducePow]; omega)
/-- bytes with how many they are ahead -/
def blob (b : List B) : List B := num b.length ++ b
theorem blob_length (b : List B) : (blob b).length = 8 + b.length := by simp [blob, num_length]
structure Ent where
  term : Int
  kind : BitVec 8
  version : Int
  server : Int
  good : Bool
  data : List B
def flag (b : Bool) : Int := if b then 1 else 0
def ent (e : Ent) : List B := num e.term ++ num e.kind.toNat ++ num e.version ++ num e.server ++ num (flag e.good) ++ blob e.data
end Go.Proofs.YtfpjmeknjhhakaaGreat.M

/- The words that the walks speak of: bytes, words of 32 and of 64 bits as values that the walk does not look into, with the laws of Go's operators on them; a slice that reads as a list; a block that is known whole. Plain lemmas over any program. -/
namespace Go.Proofs.YtfpjmeknjhhakaaGreat.K
open Go Go.RowKit

/-! ### values -/
def B8 (x : BitVec 8) : Value := .int .u8 (x.toNat : Int)
def W32 (x : BitVec 32) : Value := .int .u32 (x.toNat : Int)
def W64 (x : BitVec 64) : Value := .int .u64 (x.toNat : Int)
theorem B8_eq (x : BitVec 8) : B8 x = .int .u8 (x.toNat : Int) := rfl
theorem W32_eq (x : BitVec 32) : W32 x = .int .u32 (x.toNat : Int) := rfl
theorem W64_eq (x : BitVec 64) : W64 x = .int .u64 (x.toNat : Int) := rfl
theorem B8_inj {x y : BitVec 8} (h : B8 x = B8 y) : x = y := by
  simp only [B8, Value.int.injEq, true_and] at h
  exact BitVec.eq_of_toNat_eq (by omega)
theorem oneB8 (x : BitVec 8) : (B8 x).oneCell' = true := rfl
theorem oneW32 (x : BitVec 32) : (W32 x).oneCell' = true := rfl
theorem oneW64 (x : BitVec 64) : (W64 x).oneCell' = true := rfl

theorem wrap_u8_nat (n : Nat) : IntKind.u8.wrap (n : Int) = ((BitVec.ofNat 8 n).toNat : Int) := by
  rw [IntKind.wrap_u8', BitVec.toNat_ofNat]; omega
theorem wrap_u32_nat (n : Nat) : IntKind.u32.wrap (n : Int) = ((BitVec.ofNat 32 n).toNat : Int) := by
  rw [IntKind.wrap_u32', BitVec.toNat_ofNat]; omega
theorem wrap_u64' (n : Int) : IntKind.u64.wrap n = n % 18446744073709551616 := by simp [IntKind.wrap, IntKind.bits, IntKind.signed]
theorem wrap_u64_nat (n : Nat) : IntKind.u64.wrap (n : Int) = ((BitVec.ofNat 64 n).toNat : Int) := by
  rw [wrap_u64', BitVec.toNat_ofNat]; omega

theorem ofNat_self {n : Nat} (x : BitVec n) : BitVec.ofNat n x.toNat = x := BitVec.eq_of_toNat_eq (by simp)

section
variable (t : TypeId) (x y : BitVec 32)
theorem ofInt_W32 : BitVec.ofInt 32 (x.toNat : Int) = x := by rw [BitVec.ofInt_natCast]; exact ofNat_self x
theorem wrap_W32 : IntKind.u32.wrap (x.toNat : Int) = (x.toNat : Int) := by rw [wrap_u32_nat, ofNat_self]
theorem W32_add : binOp .add t (W32 x) (W32 y) = pure (W32 (x + y)) := by
  have h : IntKind.u32.wrap ((x.toNat : Int) + (y.toNat : Int)) = ((x + y).toNat : Int) := by
    rw [← Int.natCast_add, wrap_u32_nat, BitVec.toNat_ofNat, BitVec.toNat_add]
  simp only [W32, binOp_add, Op.intArith, h]
theorem W32_mul : binOp .mul t (W32 x) (W32 y) = pure (W32 (x * y)) := by
  have h : IntKind.u32.wrap ((x.toNat : Int) * (y.toNat : Int)) = ((x * y).toNat : Int) := by
    rw [← Int.natCast_mul, wrap_u32_nat, BitVec.toNat_ofNat, BitVec.toNat_mul]
  simp only [W32, binOp_mul, Op.intArith, h]
theorem W32_xor : binOp .xor t (W32 x) (W32 y) = pure (W32 (x ^^^ y)) := by
  have h : bits .xor .u32 (x.toNat : Int) (y.toNat : Int) = ((x ^^^ y).toNat : Int) := by
    show IntKind.u32.wrap ((BitVec.ofInt 32 (x.toNat : Int) ^^^ BitVec.ofInt 32 (y.toNat : Int)).toNat : Int) = _
    rw [ofInt_W32, ofInt_W32, wrap_W32]
  simp only [W32, binOp_xor, intBits_xor, h]
theorem W32_and : binOp .and t (W32 x) (W32 y) = pure (W32 (x &&& y)) := by
  have h : bits .and .u32 (x.toNat : Int) (y.toNat : Int) = ((x &&& y).toNat : Int) := by
    show IntKind.u32.wrap ((BitVec.ofInt 32 (x.toNat : Int) &&& BitVec.ofInt 32 (y.toNat : Int)).toNat : Int) = _
    rw [ofInt_W32, ofInt_W32, wrap_W32]
  simp only [W32, binOp_and, intBits_and, h]
theorem W32_or : binOp .or t (W32 x) (W32 y) = pure (W32 (x ||| y)) := by
  have h : bits .or .u32 (x.toNat : Int) (y.toNat : Int) = ((x ||| y).toNat : Int) := by
    show IntKind.u32.wrap ((BitVec.ofInt 32 (x.toNat : Int) ||| BitVec.ofInt 32 (y.toNat : Int)).toNat : Int) = _
    rw [ofInt_W32, ofInt_W32, wrap_W32]
  simp only [W32, binOp_or, intBits_or, h]
theorem W32_shl' (yk : IntKind) (c : Nat) : binOp .shl t (W32 x) (.int yk (c : Int)) = pure (W32 (x <<< c)) := by
  have h : IntKind.u32.wrap ((x.toNat : Int) * 2 ^ min c 32) = ((x <<< c).toNat : Int) := by
    have e : ((x.toNat : Int) * 2 ^ min c 32) = ((x.toNat * 2 ^ min c 32 : Nat) : Int) := by simp
    rw [e, wrap_u32_nat, BitVec.toNat_ofNat, BitVec.toNat_shiftLeft, Nat.shiftLeft_eq]
    rcases Nat.le_total c 32 with hc | hc
    · rw [Nat.min_eq_left hc]
    · rw [Nat.min_eq_right hc, Nat.mul_mod_left, show c = 32 + (c - 32) by omega, Nat.pow_add, Nat.mul_comm (2 ^ 32), ← Nat.mul_assoc, Nat.mul_mod_left]
  rw [show binOp .shl t (W32 x) (.int yk (c : Int)) = Op.shift .shl .u32 (x.toNat : Int) yk (c : Int) from rfl, shift_shl_any _ _ _ _ (Int.natCast_nonneg c)]
  simp only [Int.toNat_natCast, IntKind.bits, h, W32]
theorem W32_shl (yk : IntKind) (c : Int) (hc : 0 ≤ c) : binOp .shl t (W32 x) (.int yk c) = pure (W32 (x <<< c.toNat)) := by
  obtain ⟨c, rfl⟩ := Int.eq_ofNat_of_zero_le hc
  simpa using W32_shl' t x yk c
theorem W32_shr' (yk : IntKind) (c : Nat) : binOp .shr t (W32 x) (.int yk (c : Int)) = pure (W32 (x >>> c)) := by
  have h : (x.toNat : Int) / 2 ^ min c 32 = ((x >>> c).toNat : Int) := by
    have e : ((x.toNat : Int) / 2 ^ min c 32) = ((x.toNat / 2 ^ min c 32 : Nat) : Int) := by simp
    rw [e, BitVec.toNat_ushiftRight, Nat.shiftRight_eq_div_pow]
    rcases Nat.le_total c 32 with hc | hc
    · rw [Nat.min_eq_left hc]
    · have hx := x.isLt
      have h2 : 2 ^ 32 ≤ 2 ^ c := Nat.pow_le_pow_right (by omega) hc
      rw [Nat.min_eq_right hc, Nat.div_eq_of_lt (by omega), Nat.div_eq_of_lt (by omega)]
  rw [show binOp .shr t (W32 x) (.int yk (c : Int)) = Op.shift .shr .u32 (x.toNat : Int) yk (c : Int) from rfl, shift_shr_any _ _ _ _ (Int.natCast_nonneg c)]
  simp only [Int.toNat_natCast, IntKind.bits, h, W32]
theorem W32_shr (yk : IntKind) (c : Int) (hc : 0 ≤ c) : binOp .shr t (W32 x) (.int yk c) = pure (W32 (x >>> c.toNat)) := by
  obtain ⟨c, rfl⟩ := Int.eq_ofNat_of_zero_le hc
  simpa using W32_shr' t x yk c
theorem W32_eql : binOp .eql t (W32 x) (W32 y) = pure (.bool (x == y)) := by
  have h : ((x.toNat : Int) == (y.toNat : Int)) = (x == y) := by
    rw [Bool.eq_iff_iff, beq_iff_eq, beq_iff_eq]
    exact ⟨fun h => BitVec.eq_of_toNat_eq (by omega), fun h => by rw [h]⟩
  simp only [W32, binOp_eql, h]
theorem W32_neq : binOp .neq t (W32 x) (W32 y) = pure (.bool (x != y)) := by
  have h : ((x.toNat : Int) != (y.toNat : Int)) = (x != y) := by
    rw [Bool.eq_iff_iff, bne_iff_ne, bne_iff_ne]
    exact ⟨fun h e => h (by rw [e]), fun h e => h (BitVec.eq_of_toNat_eq (by omega))⟩
  simp only [W32, binOp_neq, h]
theorem eqGuard_W32 (op : BinOp) (a b : Operand) (v : Value) : eqGuard op t a b (W32 x) v = pure () := eqGuard_at_int op t a b v _ _
theorem run_store_W32 (P : Program) (w : World) (a : Addr) (m : Mode) : (store a (W32 x) m).run P w = stored P w a (W32 x) m := run_store P w a _ m rfl
end
section
variable (t : TypeId) (x y : BitVec 64)
theorem ofInt_W64 : BitVec.ofInt 64 (x.toNat : Int) = x := by rw [BitVec.ofInt_natCast]; exact ofNat_self x
theorem wrap_W64 : IntKind.u64.wrap (x.toNat : Int) = (x.toNat : Int) := by rw [wrap_u64_nat, ofNat_self]
theorem W64_add : binOp .add t (W64 x) (W64 y) = pure (W64 (x + y)) := by
  have h : IntKind.u64.wrap ((x.toNat : Int) + (y.toNat : Int)) = ((x + y).toNat : Int) := by
    rw [← Int.natCast_add, wrap_u64_nat, BitVec.toNat_ofNat, BitVec.toNat_add]
  simp only [W64, binOp_add, Op.intArith, h]
theorem W64_mul : binOp .mul t (W64 x) (W64 y) = pure (W64 (x * y)) := by
  have h : IntKind.u64.wrap ((x.toNat : Int) * (y.toNat : Int)) = ((x * y).toNat : Int) := by
    rw [← Int.natCast_mul, wrap_u64_nat, BitVec.toNat_ofNat, BitVec.toNat_mul]
  simp only [W64, binOp_mul, Op.intArith, h]
theorem W64_xor : binOp .xor t (W64 x) (W64 y) = pure (W64 (x ^^^ y)) := by
  have h : bits .xor .u64 (x.toNat : Int) (y.toNat : Int) = ((x ^^^ y).toNat : Int) := by
    show IntKind.u64.wrap ((BitVec.ofInt 64 (x.toNat : Int) ^^^ BitVec.ofInt 64 (y.toNat : Int)).toNat : Int) = _
    rw [ofInt_W64, ofInt_W64, wrap_W64]
  simp only [W64, binOp_xor, intBits_xor, h]
theorem W64_and : binOp .and t (W64 x) (W64 y) = pure (W64 (x &&& y)) := by
  have h : bits .and .u64 (x.toNat : Int) (y.toNat : Int) = ((x &&& y).toNat : Int) := by
    show IntKind.u64.wrap ((BitVec.ofInt 64 (x.toNat : Int) &&& BitVec.ofInt 64 (y.toNat : Int)).toNat : Int) = _
    rw [ofInt_W64, ofInt_W64, wrap_W64]
  simp only [W64, binOp_and, intBits_and, h]
theorem W64_or : binOp .or t (W64 x) (W64 y) = pure (W64 (x ||| y)) := by
  have h : bits .or .u64 (x.toNat : Int) (y.toNat : Int) = ((x ||| y).toNat : Int) := by
    show IntKind.u64.wrap ((BitVec.ofInt 64 (x.toNat : Int) ||| BitVec.ofInt 64 (y.toNat : Int)).toNat : Int) = _
    rw [ofInt_W64, ofInt_W64, wrap_W64]
  simp only [W64, binOp_or, intBits_or, h]
theorem W64_shl' (yk : IntKind) (c : Nat) : binOp .shl t (W64 x) (.int yk (c : Int)) = pure (W64 (x <<< c)) := by
  have h : IntKind.u64.wrap ((x.toNat : Int) * 2 ^ min c 64) = ((x <<< c).toNat : Int) := by
    have e : ((x.toNat : Int) * 2 ^ min c 64) = ((x.toNat * 2 ^ min c 64 : Nat) : Int) := by simp
    rw [e, wrap_u64_nat, BitVec.toNat_ofNat, BitVec.toNat_shiftLeft, Nat.shiftLeft_eq]
    rcases Nat.le_total c 64 with hc | hc
    · rw [Nat.min_eq_left hc]
    · rw [Nat.min_eq_right hc, Nat.mul_mod_left, show c = 64 + (c - 64) by omega, Nat.pow_add, Nat.mul_comm (2 ^ 64), ← Nat.mul_assoc, Nat.mul_mod_left]
  rw [show binOp .shl t (W64 x) (.int yk (c : Int)) = Op.shift .shl .u64 (x.toNat : Int) yk (c : Int) from rfl, shift_shl_any _ _ _ _ (Int.natCast_nonneg c)]
  simp only [Int.toNat_natCast, IntKind.bits, h, W64]
theorem W64_shl (yk : IntKind) (c : Int) (hc : 0 ≤ c) : binOp .shl t (W64 x) (.int yk c) = pure (W64 (x <<< c.toNat)) := by
  obtain ⟨c, rfl⟩ := Int.eq_ofNat_of_zero_le hc
  simpa using W64_shl' t x yk c
theorem W64_shr' (yk : IntKind) (c : Nat) : binOp .shr t (W64 x) (.int yk (c : Int)) = pure (W64 (x >>> c)) := by
  have h : (x.toNat : Int) / 2 ^ min c 64 = ((x >>> c).toNat : Int) := by
    have e : ((x.toNat : Int) / 2 ^ min c 64) = ((x.toNat / 2 ^ min c 64 : Nat) : Int) := by simp
    rw [e, BitVec.toNat_ushiftRight, Nat.shiftRight_eq_div_pow]
    rcases Nat.le_total c 64 with hc | hc
    · rw [Nat.min_eq_left hc]
    · have hx := x.isLt
      have h2 : 2 ^ 64 ≤ 2 ^ c := Nat.pow_le_pow_right (by omega) hc
      rw [Nat.min_eq_right hc, Nat.div_eq_of_lt (by omega), Nat.div_eq_of_lt (by omega)]
  rw [show binOp .shr t (W64 x) (.int yk (c : Int)) = Op.shift .shr .u64 (x.toNat : Int) yk (c : Int) from rfl, shift_shr_any _ _ _ _ (Int.natCast_nonneg c)]
  simp only [Int.toNat_natCast, IntKind.bits, h, W64]
theorem W64_shr (yk : IntKind) (c : Int) (hc : 0 ≤ c) : binOp .shr t (W64 x) (.int yk c) = pure (W64 (x >>> c.toNat)) := by
  obtain ⟨c, rfl⟩ := Int.eq_ofNat_of_zero_le hc
  simpa using W64_shr' t x yk c
theorem W64_eql : binOp .eql t (W64 x) (W64 y) = pure (.bool (x == y)) := by
  have h : ((x.toNat : Int) == (y.toNat : Int)) = (x == y) := by
    rw [Bool.eq_iff_iff, beq_iff_eq, beq_iff_eq]
    exact ⟨fun h => BitVec.eq_of_toNat_eq (by omega), fun h => by rw [h]⟩
  simp only [W64, binOp_eql, h]
theorem W64_neq : binOp .neq t (W64 x) (W64 y) = pure (.bool (x != y)) := by
  have h : ((x.toNat : Int) != (y.toNat : Int)) = (x != y) := by
    rw [Bool.eq_iff_iff, bne_iff_ne, bne_iff_ne]
    exact ⟨fun h e => h (by rw [e]), fun h e => h (BitVec.eq_of_toNat_eq (by omega))⟩
  simp only [W64, binOp_neq, h]
theorem eqGuard_W64 (op : BinOp) (a b : Operand) (v : Value) : eqGuard op t a b (W64 x) v = pure () := eqGuard_at_int op t a b v _ _
theorem run_store_W64 (P : Program) (w : World) (a : Addr) (m : Mode) : (store a (W64 x) m).run P w = stored P w a (W64 x) m := run_store P w a _ m rfl
end
section
variable (t : TypeId) (x y : BitVec 8)
theorem ofInt_B8 : BitVec.ofInt 8 (x.toNat : Int) = x := by rw [BitVec.ofInt_natCast]; exact ofNat_self x
theorem wrap_B8 : IntKind.u8.wrap (x.toNat : Int) = (x.toNat : Int) := by rw [wrap_u8_nat, ofNat_self]
theorem B8_add : binOp .add t (B8 x) (B8 y) = pure (B8 (x + y)) := by
  have h : IntKind.u8.wrap ((x.toNat : Int) + (y.toNat : Int)) = ((x + y).toNat : Int) := by
    rw [← Int.natCast_add, wrap_u8_nat, BitVec.toNat_ofNat, BitVec.toNat_add]
  simp only [B8, binOp_add, Op.intArith, h]
theorem B8_mul : binOp .mul t (B8 x) (B8 y) = pure (B8 (x * y)) := by
  have h : IntKind.u8.wrap ((x.toNat : Int) * (y.toNat : Int)) = ((x * y).toNat : Int) := by
    rw [← Int.natCast_mul, wrap_u8_nat, BitVec.toNat_ofNat, BitVec.toNat_mul]
  simp only [B8, binOp_mul, Op.intArith, h]
theorem B8_xor : binOp .xor t (B8 x) (B8 y) = pure (B8 (x ^^^ y)) := by
  have h : bits .xor .u8 (x.toNat : Int) (y.toNat : Int) = ((x ^^^ y).toNat : Int) := by
    show IntKind.u8.wrap ((BitVec.ofInt 8 (x.toNat : Int) ^^^ BitVec.ofInt 8 (y.toNat : Int)).toNat : Int) = _
    rw [ofInt_B8, ofInt_B8, wrap_B8]
  simp only [B8, binOp_xor, intBits_xor, h]
theorem B8_and : binOp .and t (B8 x) (B8 y) = pure (B8 (x &&& y)) := by
  have h : bits .and .u8 (x.toNat : Int) (y.toNat : Int) = ((x &&& y).toNat : Int) := by
    show IntKind.u8.wrap ((BitVec.ofInt 8 (x.toNat : Int) &&& BitVec.ofInt 8 (y.toNat : Int)).toNat : Int) = _
    rw [ofInt_B8, ofInt_B8, wrap_B8]
  simp only [B8, binOp_and, intBits_and, h]
theorem B8_or : binOp .or t (B8 x) (B8 y) = pure (B8 (x ||| y)) := by
  have h : bits .or .u8 (x.toNat : Int) (y.toNat : Int) = ((x ||| y).toNat : Int) := by
    show IntKind.u8.wrap ((BitVec.ofInt 8 (x.toNat : Int) ||| BitVec.ofInt 8 (y.toNat : Int)).toNat : Int) = _
    rw [ofInt_B8, ofInt_B8, wrap_B8]
  simp only [B8, binOp_or, intBits_or, h]
theorem B8_shl' (yk : IntKind) (c : Nat) : binOp .shl t (B8 x) (.int yk (c : Int)) = pure (B8 (x <<< c)) := by
  have h : IntKind.u8.wrap ((x.toNat : Int) * 2 ^ min c 8) = ((x <<< c).toNat : Int) := by
    have e : ((x.toNat : Int) * 2 ^ min c 8) = ((x.toNat * 2 ^ min c 8 : Nat) : Int) := by simp
    rw [e, wrap_u8_nat, BitVec.toNat_ofNat, BitVec.toNat_shiftLeft, Nat.shiftLeft_eq]
    rcases Nat.le_total c 8 with hc | hc
    · rw [Nat.min_eq_left hc]
    · rw [Nat.min_eq_right hc, Nat.mul_mod_left, show c = 8 + (c - 8) by omega, Nat.pow_add, Nat.mul_comm (2 ^ 8), ← Nat.mul_assoc, Nat.mul_mod_left]
  rw [show binOp .shl t (B8 x) (.int yk (c : Int)) = Op.shift .shl .u8 (x.toNat : Int) yk (c : Int) from rfl, shift_shl_any _ _ _ _ (Int.natCast_nonneg c)]
  simp only [Int.toNat_natCast, IntKind.bits, h, B8]
theorem B8_shl (yk : IntKind) (c : Int) (hc : 0 ≤ c) : binOp .shl t (B8 x) (.int yk c) = pure (B8 (x <<< c.toNat)) := by
  obtain ⟨c, rfl⟩ := Int.eq_ofNat_of_zero_le hc
  simpa using B8_shl' t x yk c
theorem B8_shr' (yk : IntKind) (c : Nat) : binOp .shr t (B8 x) (.int yk (c : Int)) = pure (B8 (x >>> c)) := by
  have h : (x.toNat : Int) / 2 ^ min c 8 = ((x >>> c).toNat : Int) := by
    have e : ((x.toNat : Int) / 2 ^ min c 8) = ((x.toNat / 2 ^ min c 8 : Nat) : Int) := by simp
    rw [e, BitVec.toNat_ushiftRight, Nat.shiftRight_eq_div_pow]
    rcases Nat.le_total c 8 with hc | hc
    · rw [Nat.min_eq_left hc]
    · have hx := x.isLt
      have h2 : 2 ^ 8 ≤ 2 ^ c := Nat.pow_le_pow_right (by omega) hc
      rw [Nat.min_eq_right hc, Nat.div_eq_of_lt (by omega), Nat.div_eq_of_lt (by omega)]
  rw [show binOp .shr t (B8 x) (.int yk (c : Int)) = Op.shift .shr .u8 (x.toNat : Int) yk (c : Int) from rfl, shift_shr_any _ _ _ _ (Int.natCast_nonneg c)]
  simp only [Int.toNat_natCast, IntKind.bits, h, B8]
theorem B8_shr (yk : IntKind) (c : Int) (hc : 0 ≤ c) : binOp .shr t (B8 x) (.int yk c) = pure (B8 (x >>> c.toNat)) := by
  obtain ⟨c, rfl⟩ := Int.eq_ofNat_of_zero_le hc
  simpa using B8_shr' t x yk c
theorem B8_eql : binOp .eql t (B8 x) (B8 y) = pure (.bool (x == y)) := by
  have h : ((x.toNat : Int) == (y.toNat : Int)) = (x == y) := by
    rw [Bool.eq_iff_iff, beq_iff_eq, beq_iff_eq]
    exact ⟨fun h => BitVec.eq_of_toNat_eq (by omega), fun h => by rw [h]⟩
  simp only [B8, binOp_eql, h]
theorem B8_neq : binOp .neq t (B8 x) (B8 y) = pure (.bool (x != y)) := by
  have h : ((x.toNat : Int) != (y.toNat : Int)) = (x != y) := by
    rw [Bool.eq_iff_iff, bne_iff_ne, bne_iff_ne]
    exact ⟨fun h e => h (by rw [e]), fun h e => h (BitVec.eq_of_toNat_eq (by omega))⟩
  simp only [B8, binOp_neq, h]
theorem eqGuard_B8 (op : BinOp) (a b : Operand) (v : Value) : eqGuard op t a b (B8 x) v = pure () := eqGuard_at_int op t a b v _ _
theorem run_store_B8 (P : Program) (w : World) (a : Addr) (m : Mode) : (store a (B8 x) m).run P w = stored P w a (B8 x) m := run_store P w a _ m rfl
end

section
variable {P : Program} (w : World) (src dst : TypeId)
theorem conv_B8_W32 (x : BitVec 8) (hs : P.underlying src = some (.int .u8)) (hd : P.underlying dst = some (.int .u32)) : (convert src dst (B8 x)).run P w = .ok (W32 (x.setWidth 32)) w := by
  have h : IntKind.u32.wrap (x.toNat : Int) = ((x.setWidth 32).toNat : Int) := by
    rw [wrap_u32_nat, BitVec.toNat_ofNat, BitVec.toNat_setWidth]
  simp [convert, run_underlying hs, run_underlying hd, Conv.intToInt, B8, W32, h]
theorem conv_B8_W64 (x : BitVec 8) (hs : P.underlying src = some (.int .u8)) (hd : P.underlying dst = some (.int .u64)) : (convert src dst (B8 x)).run P w = .ok (W64 (x.setWidth 64)) w := by
  have h : IntKind.u64.wrap (x.toNat : Int) = ((x.setWidth 64).toNat : Int) := by
    rw [wrap_u64_nat, BitVec.toNat_ofNat, BitVec.toNat_setWidth]
  simp [convert, run_underlying hs, run_underlying hd, Conv.intToInt, B8, W64, h]
theorem conv_W32_B8 (x : BitVec 32) (hs : P.underlying src = some (.int .u32)) (hd : P.underlying dst = some (.int .u8)) : (convert src dst (W32 x)).run P w = .ok (B8 (x.setWidth 8)) w := by
  have h : IntKind.u8.wrap (x.toNat : Int) = ((x.setWidth 8).toNat : Int) := by
    rw [wrap_u8_nat, BitVec.toNat_ofNat, BitVec.toNat_setWidth]
  simp [convert, run_underlying hs, run_underlying hd, Conv.intToInt, B8, W32, h]
theorem conv_W64_B8 (x : BitVec 64) (hs : P.underlying src = some (.int .u64)) (hd : P.underlying dst = some (.int .u8)) : (convert src dst (W64 x)).run P w = .ok (B8 (x.setWidth 8)) w := by
  have h : IntKind.u8.wrap (x.toNat : Int) = ((x.setWidth 8).toNat : Int) := by
    rw [wrap_u8_nat, BitVec.toNat_ofNat, BitVec.toNat_setWidth]
  simp [convert, run_underlying hs, run_underlying hd, Conv.intToInt, B8, W64, h]
end

theorem cells_B8 (x : BitVec 8) : (B8 x).cells = #[B8 x] := rfl
theorem cells_W32 (x : BitVec 32) : (W32 x).cells = #[W32 x] := rfl
theorem cells_W64 (x : BitVec 64) : (W64 x).cells = #[W64 x] := rfl
attribute [go_sem ↓ high] cells_B8 cells_W32 cells_W64
theorem run_storeCells_B8 (P : Program) (w : World) (a : Addr) (x : BitVec 8) : (storeCells a [B8 x] 0).run P w = stored P w a (B8 x) .plain := by
  have e : (storeCells a [B8 x] 0) = (do store (a.add 0) (B8 x); pure ()) := rfl
  rw [e]
  simp only [Sem.run_bind, run_store_B8, Addr.add_zero']
  cases stored P w a (B8 x) .plain <;> simp [Result.andThen]
attribute [go_sem] run_storeCells_B8
theorem run_storeCells_W32 (P : Program) (w : World) (a : Addr) (x : BitVec 32) : (storeCells a [W32 x] 0).run P w = stored P w a (W32 x) .plain := by
  have e : (storeCells a [W32 x] 0) = (do store (a.add 0) (W32 x); pure ()) := rfl
  rw [e]
  simp only [Sem.run_bind, run_store_W32, Addr.add_zero']
  cases stored P w a (W32 x) .plain <;> simp [Result.andThen]
attribute [go_sem] run_storeCells_W32
theorem run_storeCells_W64 (P : Program) (w : World) (a : Addr) (x : BitVec 64) : (storeCells a [W64 x] 0).run P w = stored P w a (W64 x) .plain := by
  have e : (storeCells a [W64 x] 0) = (do store (a.add 0) (W64 x); pure ()) := rfl
  rw [e]
  simp only [Sem.run_bind, run_store_W64, Addr.add_zero']
  cases stored P w a (W64 x) .plain <;> simp [Result.andThen]
attribute [go_sem] run_storeCells_W64
attribute [go_sem] conv_B8_W32 conv_B8_W64 conv_W32_B8 conv_W64_B8
attribute [go_sem] W32_add W32_mul W32_xor W32_and W32_or W32_shl W32_shr W32_eql W32_neq eqGuard_W32 run_store_W32
attribute [go_sem] W64_add W64_mul W64_xor W64_and W64_or W64_shl W64_shr W64_eql W64_neq eqGuard_W64 run_store_W64
attribute [go_sem] B8_add B8_mul B8_xor B8_and B8_or B8_shl B8_shr B8_eql B8_neq eqGuard_B8 run_store_B8

/-! ### a slice that reads as a list of bytes -/
/-- The slice whose address is A reads bs in w. -/
def Rd (w : World) (A : Option Addr) (bs : List (BitVec 8)) : Prop :=
  ∀ k (h : k < bs.length), ∃ b o, A = some ⟨b, o, none⟩ ∧ w.cell? ⟨b, o + k, none⟩ = some (B8 bs[k])
theorem Rd.of_nil (w : World) (A : Option Addr) : Rd w A [] := fun _ h => absurd h (Nat.not_lt_zero _)
theorem Rd.drewN {w : World} {A : Option Addr} {bs : List (BitVec 8)} (h : Rd w A bs) (n : Nat) : Rd (w.drewN n) A bs := h
theorem Rd.below {w w' : World} {A : Option Addr} {bs : List (BitVec 8)} (h : Rd w A bs) (hb : Below w.heap.size w w') : Rd w' A bs := fun k hk => by
  obtain ⟨b, o, e, hc⟩ := h k hk
  exact ⟨b, o, e, (hb.cell (block_lt_of_cell hc)).trans hc⟩

/-! ### rows of bytes -/
def bv (bs : List (BitVec 8)) : List Value := bs.map B8
theorem bv_length (bs : List (BitVec 8)) : (bv bs).length = bs.length := by simp [bv]
theorem bv_append (a b : List (BitVec 8)) : bv (a ++ b) = bv a ++ bv b := by simp [bv]
theorem bv_one (bs : List (BitVec 8)) : ∀ u ∈ bv bs, u.oneCell' = true := by
  intro u hu
  obtain ⟨_, _, rfl⟩ := List.mem_map.1 hu
  rfl
theorem bv_inj {a b : List (BitVec 8)} (h : bv a = bv b) : a = b := List.map_inj_right (fun _ _ => B8_inj) |>.1 h
/-- the cells of what reads as bs lie at its address -/
theorem Rd.lay {w : World} {A : Option Addr} {bs : List (BitVec 8)} (h : Rd w A bs) (hp : 0 < bs.length) :
    ∃ b o, A = some ⟨b, o, Option.none⟩ ∧ b < w.heap.size ∧ ∀ i, i < bs.length → w.cell? ⟨b, o + i, Option.none⟩ = some (B8 (bs.getD i 0)) := by
  obtain ⟨b, o, e, hc⟩ := h 0 hp
  refine ⟨b, o, e, block_lt_of_cell hc, fun i hi => ?_⟩
  obtain ⟨b', o', e', h'⟩ := h i hi
  rw [e] at e'
  obtain ⟨rfl, rfl⟩ : b = b' ∧ o = o' := by simpa using e'
  rw [h', List.getD_eq_getElem?_getD, List.getElem?_eq_getElem hi]; rfl
theorem Rd.cells {w : World} {A : Option Addr} {bs : List (BitVec 8)} (h : Rd w A bs) : ∀ ad, A = some ad → ∀ j u, (bv bs)[j]? = some u → w.cell? (ad.add j) = some u := by
  intro ad had j u hu
  have hj : j < bs.length := by
    have := (List.getElem?_eq_some_iff.1 hu).1
    simpa [bv] using this
  obtain ⟨b, o, e, hc⟩ := h j hj
  rw [had] at e
  obtain rfl := Option.some.inj e
  rw [Addr.add_lit, hc]
  simpa [bv, List.getElem?_eq_getElem hj] using hu
theorem Rd.empty {w : World} {bs : List (BitVec 8)} (h : Rd w none bs) : bs = [] := by
  rcases bs with _ | ⟨x, r⟩
  · rfl
  · obtain ⟨b, o, e, _⟩ := h 0 (by simp)
    cases e
/-- a block that holds bs from place 0 on -/
theorem Rd.of_block {w : World} {g : Nat} {cur : Array Value} {t : TypeId} {fr : Nat × Nat} {bs : List (BitVec 8)} (hg : w.heap[g]? = some (.cells cur t fr)) (h : cur.toList.take bs.length = bv bs) : Rd w (some ⟨g, 0, none⟩) bs := by
  intro k hk
  refine ⟨g, 0, rfl, ?_⟩
  rw [cell_of_row w g (0 + k) cur t fr hg, Nat.zero_add]
  have e : (cur.toList.take bs.length)[k]? = cur[k]? := by rw [List.getElem?_take, if_pos hk]; simp
  rw [← e, h]
  simp [bv, hk]
theorem Rd.of_own {w : World} {base : Nat} {e : TypeId} {A : Option Addr} {n c : Nat} {bs : List (BitVec 8)} (h : w.ownsRow base e 1 (.slice A n c) n (bv bs)) : Rd w A bs := by
  rcases h.2 with ⟨h1, h2⟩ | ⟨g, cap, cur, hv, _, hg, _, _, _, ht⟩
  · have : bs.length = n := by have := h.1; rw [bv_length] at this; omega
    rw [show bs = [] from List.eq_nil_of_length_eq_zero (by omega)]
    exact Rd.of_nil _ _
  · simp only [Value.slice.injEq] at hv
    obtain ⟨rfl, _, _⟩ := hv
    have hl : n * 1 = bs.length := by have := h.1; rw [bv_length] at this; omega
    rw [hl] at ht
    exact Rd.of_block hg ht
/-- a full row: its block is known whole -/
theorem own_full {w : World} {base : Nat} {e : TypeId} {g n : Nat} {xs : List Value} (h : w.ownsRow base e 1 (.slice (some ⟨g, 0, none⟩) n n) n xs) : base ≤ g ∧ w.heap[g]? = some (.cells xs.toArray e (0, 0)) := by
  rcases h.2 with ⟨h1, _⟩ | ⟨g', cap, cur, hv, hb, hg, _, _, hs, ht⟩
  · simp at h1
  · simp only [Value.slice.injEq, Option.some.injEq, Addr.mk.injEq, and_true, true_and] at hv
    obtain ⟨rfl, rfl⟩ := hv
    refine ⟨hb, ?_⟩
    rw [hg, ← ht, List.take_of_length_le (by simp; omega)]

/-! ### calls that only read, met inside a region that draws its order (after a draw the worlds have been joined) -/
theorem q_same {P : Program} {f : FuncId} {args : Array Value} {w : World} {v : Value} {n : Nat}
    (h : Calls P f args (w.drewN n) fun e w' => e = .returned v ∧ w.drewN n = w') : Calls P f args (w.drewN n) fun e w'' => e = .returned v ∧ ∃ m, w'' = w.drewN m :=
  h.mono fun _ _ ⟨he, hm⟩ => ⟨he, n, hm.symm⟩
theorem q_add {P : Program} {f : FuncId} {args : Array Value} {w : World} {v : Value} {a n : Nat}
    (h : Calls P f args (w.drewN (a + n)) fun e w' => e = .returned v ∧ w.drewN (a + n) = w') : Calls P f args (w.drewN (a + n)) fun e w'' => e = .returned v ∧ ∃ m, w'' = w.drewN (a + m) :=
  h.mono fun _ _ ⟨he, hm⟩ => ⟨he, n, hm.symm⟩
theorem q_drew {P : Program} {f : FuncId} {args : Array Value} {w : World} {v : Value} {n : Nat}
    (h : Calls P f args (w.drewN n) fun e w' => e = .returned v ∧ ∃ m, w' = (w.drewN n).drewN m) : Calls P f args (w.drewN n) fun e w'' => e = .returned v ∧ ∃ m, w'' = w.drewN m :=
  h.mono fun _ _ ⟨he, m, hm⟩ => ⟨he, n + m, by rw [hm, World.drewN_drewN]⟩
theorem q_add_drew {P : Program} {f : FuncId} {args : Array Value} {w : World} {v : Value} {a n : Nat}
    (h : Calls P f args (w.drewN (a + n)) fun e w' => e = .returned v ∧ ∃ m, w' = (w.drewN (a + n)).drewN m) : Calls P f args (w.drewN (a + n)) fun e w'' => e = .returned v ∧ ∃ m, w'' = w.drewN (a + m) :=
  h.mono fun _ _ ⟨he, m, hm⟩ => ⟨he, n + m, by rw [hm, World.drewN_drewN, Nat.add_assoc]⟩
theorem drewN_ex (w : World) (a b : Nat) : ∃ k, (w.drewN a).drewN b = w.drewN k := ⟨_, World.drewN_drewN _ _ _⟩

/-! ### one cell stored, as a law -/
section
variable {P : Program}
theorem cells_of_one {v : Value} (h1 : v.oneCell' = true) : v.cells = #[v] := by cases v <;> first | rfl | (simp [Value.oneCell'] at h1)
theorem run_storeVar_one (w : World) (ty : TypeId) (p : Addr) (v old : Value) (h1 : v.oneCell' = true) (hs : (P.info? ty).map (·.size) = some 1) (hc : w.cell? p = some old) (hf : w.frozen? p = false) :
    (storeVar ty p v).run P w = .ok () (w.setCell p v) := by
  cases hq : P.info? ty with
  | none => simp [hq] at hs
  | some i =>
    have hs' : i.size = 1 := by simpa [hq] using hs
    have e : (storeCells p [v] 0) = (do store (p.add 0) v; pure ()) := rfl
    simp [storeVar, sizeOf, typeInfo, hq, cells_of_one h1, hs', e, run_store P w p v _ h1, hc, hf, Result.andThen, Addr.add_zero']
theorem wpList_store_one {ops : Array Oper} {rest : List Oper} {o : Oper} {a : Act} {w : World} {Q : Exit → Act → World → Prop} (hgd : o.guard = Option.none) (ty : TypeId) (x y : Operand) (ho : o.op = .store ty x y)
    (p : Addr) (v old : Value) (hx : a.eval x = .pointer (some p)) (hy : a.eval y = v) (h1 : v.oneCell' = true) (hs : (P.info? ty).map (·.size) = some 1) (hc : w.cell? p = some old) (hf : w.frozen? p = false)
    (h : wpList P ops Q rest (a.put o.dst undef) (w.setCell p v)) : wpList P ops Q (o :: rest) a w := by
  refine wpList_plain hgd fun K hK => ?_
  unfold Oper.wp execOp
  simp only [ho, hx, hy, Instr.storeAt, Instr.sureAddr, Sem.run_bind, Sem.run_pure, Result.andThen_ok, run_storeVar_one w ty p v old h1 hs hc hf]
  exact hK _ _ h
end

theorem block_set {w : World} {g : Nat} {xs : List Value} {t : TypeId} (hg : w.heap[g]? = some (.cells xs.toArray t (0, 0))) (i : Nat) (v : Value) :
    (w.setCell ⟨g, i, Option.none⟩ v).heap[g]? = some (.cells (xs.set i v).toArray t (0, 0)) := by
  rw [heap_setCell_same w g i _ t v hg]; simp
theorem block_cell {w : World} {g : Nat} {xs : List Value} {t : TypeId} {fr : Nat × Nat} (hg : w.heap[g]? = some (.cells xs.toArray t fr)) {i : Nat} {v : Value} (h : xs[i]? = some v) : w.cell? ⟨g, i, Option.none⟩ = some v := by
  rw [cell_of_row w g i _ _ _ hg, List.getElem?_toArray, h]

theorem below_drewN {B : Nat} {a w : World} (h : Below B a w) (n : Nat) : Below B a (w.drewN n) := ⟨h.os, h.tape, h.output, h.size, h.block⟩

/-- an array value's element, its index a variable -/
theorem run_index_agg {P : Program} (t e : TypeId) (len : Nat) (cs : Array Value) (k : Nat) (v : Value) (d : TypeDesc) (ht : P.underlying t = some (.array len e)) (he : (P.info? e).map (·.size) = some 1)
    (hd : P.underlying e = some d) (hd1 : (match d with | .struct _ | .array _ _ => true | _ => false) = false) (hk : k < len) (hv : cs[k]? = some v) (w : World) :
    (Instr.index t (.agg cs) (.int .i64 (k : Int))).run P w = .ok v w := by
  cases hq : P.info? e with
  | none => simp [hq] at he
  | some i =>
    have hs : i.size = 1 := by simpa [hq] using he
    have hagg : (isAgg e).run P w = .ok false w := by
      unfold isAgg
      rw [Sem.run_bind, run_underlying hd w]
      cases d <;> simp_all
    simp [Instr.index, asIntOf, run_underlying ht, hk, sizeOf, typeInfo, hq, hs, part, hagg, hv, Sem.run_bind]

theorem heap_alloc3_new (w : World) (A B C : Obj) : (((w.alloc A).alloc B).alloc C).heap[w.heap.size + 2]? = some C := by
  have h := heap_alloc_new ((w.alloc A).alloc B) C
  have e : ((w.alloc A).alloc B).heap.size = w.heap.size + 2 := by simp
  rwa [e] at h
theorem heap_alloc3_mid (w : World) (A B C : Obj) : (((w.alloc A).alloc B).alloc C).heap[w.heap.size + 1]? = some B := by
  rw [Below.heap_alloc ((w.alloc A).alloc B) C (w.heap.size + 1) (by simp)]
  exact heap_alloc2_new w A B
theorem heap_alloc3_old (w : World) (A B C : Obj) : (((w.alloc A).alloc B).alloc C).heap[w.heap.size]? = some A := by
  rw [Below.heap_alloc ((w.alloc A).alloc B) C w.heap.size (by simp; omega)]
  exact heap_alloc2_old w A B

theorem W32_not (x : BitVec 32) : Op.unary .xor (W32 x) = pure (W32 (~~~x)) := by
  have h : bits .xor .u32 (4294967295 : Int) (x.toNat : Int) = ((~~~x).toNat : Int) := by
    show IntKind.u32.wrap ((BitVec.ofInt 32 4294967295 ^^^ BitVec.ofInt 32 (x.toNat : Int)).toNat : Int) = _
    have e : BitVec.ofInt 32 4294967295 = BitVec.allOnes 32 := by decide
    rw [ofInt_W32, e, BitVec.allOnes_xor, wrap_W32]
  show Op.intBits .xor .u32 (if IntKind.u32.signed then -1 else IntKind.u32.max) (x.toNat : Int) = _
  rw [intBits_xor]
  have e2 : (if IntKind.u32.signed then (-1 : Int) else IntKind.u32.max) = 4294967295 := by decide
  rw [e2, h]; rfl
attribute [go_sem] W32_not

/-- a whole array loaded, as a step of a still walk -/
theorem wpStill_load_row {P : Program} {ops : Array Oper} {rest : List Oper} {o : Oper} {a : Act} {w : World} {Q : Act → Prop} (hgd : o.guard = Option.none) (ty : TypeId) (x : Operand) (ho : o.op = .load ty x)
    (g : Nat) (hx : a.eval x = .pointer (some ⟨g, 0, Option.none⟩)) (t : TypeId) (cs : Array Value) (fr : Nat × Nat) (d : TypeDesc) (hg : w.heap[g]? = some (.cells cs t fr))
    (hu : P.underlying ty = some d) (hd : (match d with | .struct _ | .array _ _ => true | _ => false) = true) (hi : (P.info? ty).map (·.size) = some cs.size)
    (h : wpStill P ops w Q rest (a.put o.dst (.agg cs))) : wpStill P ops w Q (o :: rest) a := by
  refine wpStill_step fun K hK => ?_
  rw [if_pos (by simp [Region.wanted, hgd])]
  unfold Oper.still execOp
  simp only [ho, hx, Instr.loadAt, Instr.sureAddr, Sem.run_bind, Sem.run_pure, Result.andThen_ok, run_loadVar_row w g t ty cs fr d hg hu hd hi]
  exact ⟨rfl, hK _ h⟩

theorem B8_lss (t : TypeId) (x y : BitVec 8) : binOp .lss t (B8 x) (B8 y) = pure (.bool (decide (x < y))) := by
  have h : decide ((x.toNat : Int) < (y.toNat : Int)) = decide (x < y) := by
    rw [decide_eq_decide, BitVec.lt_def]; omega
  simp only [B8, binOp_lss, h]
theorem B8_gtr (t : TypeId) (x y : BitVec 8) : binOp .gtr t (B8 x) (B8 y) = pure (.bool (decide (y < x))) := by
  have h : decide ((x.toNat : Int) > (y.toNat : Int)) = decide (y < x) := by
    rw [decide_eq_decide, BitVec.lt_def]; omega
  simp only [B8, binOp_gtr, h]
attribute [go_sem] B8_lss B8_gtr

theorem W32_lss (t : TypeId) (x y : BitVec 32) : binOp .lss t (W32 x) (W32 y) = pure (.bool (decide (x < y))) := by
  have h : decide ((x.toNat : Int) < (y.toNat : Int)) = decide (x < y) := by
    rw [decide_eq_decide, BitVec.lt_def]; omega
  simp only [W32, binOp_lss, h]
theorem W32_gtr (t : TypeId) (x y : BitVec 32) : binOp .gtr t (W32 x) (W32 y) = pure (.bool (decide (y < x))) := by
  have h : decide ((x.toNat : Int) > (y.toNat : Int)) = decide (y < x) := by
    rw [decide_eq_decide, BitVec.lt_def]; omega
  simp only [W32, binOp_gtr, h]
attribute [go_sem] W32_lss W32_gtr

theorem W64_lss (t : TypeId) (x y : BitVec 64) : binOp .lss t (W64 x) (W64 y) = pure (.bool (decide (x < y))) := by
  have h : decide ((x.toNat : Int) < (y.toNat : Int)) = decide (x < y) := by
    rw [decide_eq_decide, BitVec.lt_def]; omega
  simp only [W64, binOp_lss, h]
theorem W64_gtr (t : TypeId) (x y : BitVec 64) : binOp .gtr t (W64 x) (W64 y) = pure (.bool (decide (y < x))) := by
  have h : decide ((x.toNat : Int) > (y.toNat : Int)) = decide (y < x) := by
    rw [decide_eq_decide, BitVec.lt_def]; omega
  simp only [W64, binOp_gtr, h]
attribute [go_sem] W64_lss W64_gtr

end Go.Proofs.YtfpjmeknjhhakaaGreat.K

/- Laws on append, over any program: an own row grows; where the new row lies, and that the old row's cells stay as they were. -/
namespace Go.Proofs.YtfpjmeknjhhakaaGreat.K
open Go Go.RowKit

section
variable {P : Program} (w : World)

theorem grown_of_none {w w' : World} {b : Option Nat} (h : w.grownBy w' none) : w.grownBy w' b := ⟨h.os, h.tape, h.output, h.size, fun k hk _ => h.block k hk (by simp)⟩

theorem run_append_keep (t ty : TypeId) (base : Nat) (e : TypeId) (i : TypeInfo) (z : Value) (size bytes : Nat) (ht : P.underlying t = some (.slice e)) (hi : P.info? e = some i) (hz : i.zero = some z)
    (hsize : i.size = size) (hby : i.bytes = bytes) (hzs : z.cells.size = size) (hsz : 0 < size)
    (g n cap : Nat) (xs : List Value) (hown : w.ownsRow base e size (.slice (some ⟨g, 0, none⟩) n cap) n xs)
    (ad : Addr) (m c : Nat) (news : List Value) (hl : news.length = m * size) (hnews : ∀ j u, news[j]? = some u → w.cell? (ad.add j) = some u) (h1 : ∀ u ∈ news, u.oneCell' = true)
    (hm : 0 < m) (h63 : n + m ≤ maxLen) (hbytes : (n + m) * bytes ≤ 140737488355328) (hbase : base ≤ w.heap.size) (H : Nat) (hH : w.heap.size = H) :
    ∃ g' cap' w', (Builtin.append_ #[t, t] ty #[.slice (some ⟨g, 0, none⟩) n cap, .slice (some ad) m c]).run P w = .ok (.slice (some ⟨g', 0, none⟩) (n + m) cap') w' ∧
      w'.ownsRow base e size (.slice (some ⟨g', 0, none⟩) (n + m) cap') (n + m) (xs ++ news) ∧ w.grownBy w' (some g) ∧ ((g' = g ∧ cap' = cap ∧ n + m ≤ cap) ∨ (H ≤ g' ∧ cap < n + m)) ∧ g' < w'.heap.size ∧ ∀ j, j < n * size → w'.cell? ⟨g, j, none⟩ = w.cell? ⟨g, j, none⟩ := by
  have hxl : xs.length = n * size := hown.1
  rcases Nat.lt_or_ge cap (n + m) with hr | hr
  · obtain ⟨v', w', hrun, h2, h3⟩ := run_append_arg_grows (P := P) w t ty e i z size bytes ht hi hz hsize hby hzs hsz ⟨g, 0, none⟩ n cap xs hxl
      (fun j u hu => by
        have hj : j < xs.length := (List.getElem?_eq_some_iff.1 hu).1
        rw [Addr.add_lit, Nat.zero_add, hown.cellAt j (by omega), hu]) ad m c news hl hnews hr h63 hbytes
    obtain ⟨g', cap', rfl, hg', hlt⟩ := h2.form (by omega)
    refine ⟨g', cap', w', hrun, ⟨h2.1, h2.2.elim .inl fun ⟨a, b, cur, hv, hb, r⟩ => .inr ⟨a, b, cur, hv, Nat.le_trans hbase hb, r⟩⟩, grown_of_none h3, .inr ⟨by omega, hr⟩, hlt, fun j hj => ?_⟩
    have hc : w.cell? ⟨g, j, none⟩ = some (xs[j]'(by omega)) := by rw [hown.cellAt j hj]; simp
    rw [h3.cell hc (by simp), hc]
  · obtain ⟨w', hrun, h2, h3⟩ := run_append_fits (P := P) w base t ty e i size ht hi hsize g n cap xs hown ad m c news hl hnews h1 hr
    refine ⟨g, cap, w', hrun, h2, h3, .inl ⟨rfl, rfl, hr⟩, (h2.form (by omega)).elim fun a h => h.elim fun b h => ?_, fun j hj => ?_⟩
    · have := h.1; simp at this; obtain ⟨rfl, rfl⟩ := this; exact h.2.2
    · rw [hown.cellAt j hj, h2.cellAt j (by rw [Nat.add_mul]; omega), List.getElem?_append_left (by omega)]

theorem wp_append_keep {o : Oper} {a : Act} {K : Act → World → Prop} {Q : Exit → Act → World → Prop} (s x : Operand) (t : TypeId)
    (ho : o.op = .call { callee := .builtin .append, args := #[s, x], argTypes := #[t, t] })
    (base : Nat) (e : TypeId) (i : TypeInfo) (z : Value) (size bytes : Nat) (ht : P.underlying t = some (.slice e)) (hi : P.info? e = some i) (hz : i.zero = some z)
    (hsize : i.size = size) (hby : i.bytes = bytes) (hzs : z.cells.size = size) (hsz : 0 < size)
    (g n cap : Nat) (xs : List Value) (hs : a.eval s = .slice (some ⟨g, 0, none⟩) n cap) (hown : w.ownsRow base e size (.slice (some ⟨g, 0, none⟩) n cap) n xs)
    (ad : Addr) (m c : Nat) (news : List Value) (hx : a.eval x = .slice (some ad) m c) (hl : news.length = m * size) (hnews : ∀ j u, news[j]? = some u → w.cell? (ad.add j) = some u) (h1 : ∀ u ∈ news, u.oneCell' = true)
    (hm : 0 < m) (h63 : n + m ≤ maxLen) (hbytes : (n + m) * bytes ≤ 140737488355328) (hbase : base ≤ w.heap.size) (H : Nat) (hH : w.heap.size = H)
    (h : ∀ g' cap' w', w'.ownsRow base e size (.slice (some ⟨g', 0, none⟩) (n + m) cap') (n + m) (xs ++ news) → w.grownBy w' (some g) → ((g' = g ∧ cap' = cap ∧ n + m ≤ cap) ∨ (H ≤ g' ∧ cap < n + m)) → g' < w'.heap.size → (∀ j, j < n * size → w'.cell? ⟨g, j, none⟩ = w.cell? ⟨g, j, none⟩) → K (a.put o.dst (.slice (some ⟨g', 0, none⟩) (n + m) cap')) w') : o.wp P a w K Q := by
  obtain ⟨g', cap', w', hr, h2, h3, h4, h5, h6⟩ := run_append_keep (P := P) w t o.type base e i z size bytes ht hi hz hsize hby hzs hsz g n cap xs hown ad m c news hl hnews h1 hm h63 hbytes hbase H hH
  unfold Oper.wp execOp
  simp only [ho, resolve, invoke, builtin, Sem.run_bind, Sem.run_pure, Result.andThen_ok, List.map_toArray, List.map_cons, List.map_nil, hs, hx, hr]
  exact h g' cap' w' h2 h3 h4 h5 h6

theorem wpList_append_keep {ops : Array Oper} {rest : List Oper} {o : Oper} {a : Act} {Q : Exit → Act → World → Prop} (hgd : o.guard = none) (s x : Operand) (t : TypeId)
    (ho : o.op = .call { callee := .builtin .append, args := #[s, x], argTypes := #[t, t] })
    (base : Nat) (e : TypeId) (i : TypeInfo) (z : Value) (size bytes : Nat) (ht : P.underlying t = some (.slice e)) (hi : P.info? e = some i) (hz : i.zero = some z)
    (hsize : i.size = size) (hby : i.bytes = bytes) (hzs : z.cells.size = size) (hsz : 0 < size)
    (g n cap : Nat) (xs : List Value) (hs : a.eval s = .slice (some ⟨g, 0, none⟩) n cap) (hown : w.ownsRow base e size (.slice (some ⟨g, 0, none⟩) n cap) n xs)
    (ad : Addr) (m c : Nat) (news : List Value) (hx : a.eval x = .slice (some ad) m c) (hl : news.length = m * size) (hnews : ∀ j u, news[j]? = some u → w.cell? (ad.add j) = some u) (h1 : ∀ u ∈ news, u.oneCell' = true)
    (hm : 0 < m) (h63 : n + m ≤ maxLen) (hbytes : (n + m) * bytes ≤ 140737488355328) (hbase : base ≤ w.heap.size) (H : Nat) (hH : w.heap.size = H)
    (h : ∀ g' cap' w', w'.ownsRow base e size (.slice (some ⟨g', 0, none⟩) (n + m) cap') (n + m) (xs ++ news) → w.grownBy w' (some g) → ((g' = g ∧ cap' = cap ∧ n + m ≤ cap) ∨ (H ≤ g' ∧ cap < n + m)) → g' < w'.heap.size → (∀ j, j < n * size → w'.cell? ⟨g, j, none⟩ = w.cell? ⟨g, j, none⟩) → wpList P ops Q rest (a.put o.dst (.slice (some ⟨g', 0, none⟩) (n + m) cap')) w') : wpList P ops Q (o :: rest) a w :=
  wpList_plain hgd fun _ hK => wp_append_keep w s x t ho base e i z size bytes ht hi hz hsize hby hzs hsz g n cap xs hs hown ad m c news hx hl hnews h1 hm h63 hbytes hbase H hH fun g' cap' w' h2 h3 h4 h5 h6 => hK _ _ (h g' cap' w' h2 h3 h4 h5 h6)

theorem step_append_keep {ops : Array Oper} {o : Oper} {a : Act} {K : Act → World → Prop} {Q : Exit → Act → World → Prop} {E : Prop} (hgd : o.guard = none) (s x : Operand) (t : TypeId)
    (ho : o.op = .call { callee := .builtin .append, args := #[s, x], argTypes := #[t, t] })
    (base : Nat) (e : TypeId) (i : TypeInfo) (z : Value) (size bytes : Nat) (ht : P.underlying t = some (.slice e)) (hi : P.info? e = some i) (hz : i.zero = some z)
    (hsize : i.size = size) (hby : i.bytes = bytes) (hzs : z.cells.size = size) (hsz : 0 < size)
    (g n cap : Nat) (xs : List Value) (hs : a.eval s = .slice (some ⟨g, 0, none⟩) n cap) (hown : w.ownsRow base e size (.slice (some ⟨g, 0, none⟩) n cap) n xs)
    (ad : Addr) (m c : Nat) (news : List Value) (hx : a.eval x = .slice (some ad) m c) (hl : news.length = m * size) (hnews : ∀ j u, news[j]? = some u → w.cell? (ad.add j) = some u) (h1 : ∀ u ∈ news, u.oneCell' = true)
    (hm : 0 < m) (h63 : n + m ≤ maxLen) (hbytes : (n + m) * bytes ≤ 140737488355328) (hbase : base ≤ w.heap.size) (H : Nat) (hH : w.heap.size = H)
    (h : ∀ g' cap' w', w'.ownsRow base e size (.slice (some ⟨g', 0, none⟩) (n + m) cap') (n + m) (xs ++ news) → w.grownBy w' (some g) → ((g' = g ∧ cap' = cap ∧ n + m ≤ cap) ∨ (H ≤ g' ∧ cap < n + m)) → g' < w'.heap.size → (∀ j, j < n * size → w'.cell? ⟨g, j, none⟩ = w.cell? ⟨g, j, none⟩) → K (a.put o.dst (.slice (some ⟨g', 0, none⟩) (n + m) cap')) w') :
    if Region.wanted o (yielded ops a.tmps) = true then Oper.wp P o a w K Q else E := by
  have hw : Region.wanted o (yielded ops a.tmps) = true := by simp [Region.wanted, hgd]
  rw [if_pos hw]
  exact wp_append_keep w s x t ho base e i z size bytes ht hi hz hsize hby hzs hsz g n cap xs hs hown ad m c news hx hl hnews h1 hm h63 hbytes hbase H hH h
end
end Go.Proofs.YtfpjmeknjhhakaaGreat.K

/- Rows of bytes that lie apart: plain lemmas over any program. A row is a slice value; a situation says which rows a world owns, that no two lie in one block, and that a second set of rows (grown out of the first) lies apart too. -/
namespace Go.Proofs.YtfpjmeknjhhakaaGreat.K
open Go Go.RowKit

structure Rw where
  A : Option Addr
  n : Nat
  c : Nat
def Rw.v (x : Rw) : Value := .slice x.A x.n x.c
def Rw.blk (x : Rw) : Option Nat := x.v.ownBlock
def Rw.own (x : Rw) (w : World) (base : Nat) (e : TypeId) (bs : List (BitVec 8)) : Prop := w.ownsRow base e 1 x.v x.n (bv bs)

theorem Rw.own.len {x : Rw} {w : World} {base : Nat} {e : TypeId} {bs : List (BitVec 8)} (h : x.own w base e bs) : bs.length = x.n := by
  have := h.1; rw [bv_length] at this; omega
theorem Rw.own.addr {x : Rw} {w : World} {base : Nat} {e : TypeId} {bs : List (BitVec 8)} (h : x.own w base e bs) : (x.A = none ∧ x.n = 0 ∧ x.c = 0) ∨ ∃ g, x.A = some ⟨g, 0, none⟩ ∧ x.blk = some g ∧ base ≤ g ∧ g < w.heap.size := by
  rcases h.2 with ⟨h1, h2⟩ | ⟨g, cap, cur, hv, hb, hg, _⟩
  · left
    simp only [Rw.v, Value.slice.injEq] at h1
    exact h1
  · right
    simp only [Rw.v, Value.slice.injEq] at hv
    exact ⟨g, hv.1, by simp [Rw.blk, Rw.v, hv.1, Value.ownBlock], hb, (Array.getElem?_eq_some_iff.1 hg).1⟩
theorem Rw.own.kept {x : Rw} {w w' : World} {base : Nat} {e : TypeId} {bs : List (BitVec 8)} {row : Option Nat} (h : x.own w base e bs) (hg : w.grownBy w' row) (hne : ∀ b, x.blk = some b → row ≠ some b) : x.own w' base e bs := by
  refine World.ownsRow.kept h hg ?_
  cases hv : x.v.ownBlock with
  | none => exact .inl rfl
  | some b => exact .inr (fun e => hne b hv e.symm)
/-- a row's beginning -/
theorem own_take {w : World} {base : Nat} {e : TypeId} {g n c k : Nat} {bs : List (BitVec 8)} (h : w.ownsRow base e 1 (.slice (some ⟨g, 0, none⟩) n c) n (bv bs)) (hk : k ≤ n) : w.ownsRow base e 1 (.slice (some ⟨g, 0, none⟩) k c) k (bv (bs.take k)) := by
  have hl : bs.length = n := by have := h.1; rw [bv_length] at this; omega
  refine ⟨by rw [bv_length, List.length_take]; omega, ?_⟩
  rcases h.2 with ⟨h1, _⟩ | ⟨g', cap, cur, hv, hb, hg, hnc, hcm, hs, ht⟩
  · simp at h1
  · simp only [Value.slice.injEq, Option.some.injEq, Addr.mk.injEq, and_true, true_and] at hv
    obtain ⟨rfl, rfl⟩ := hv
    refine .inr ⟨g, c, cur, rfl, hb, hg, by omega, hcm, hs, ?_⟩
    have e2 : bv (bs.take k) = (bv bs).take k := by simp [bv]
    rw [e2, ← ht, List.take_take]
    congr 1; omega

/-- what an append of m bytes makes of a row -/
def Grew (w w' : World) (base : Nat) (e : TypeId) (x x' : Rw) (m : Nat) (bs news : List (BitVec 8)) : Prop :=
  x'.own w' base e (bs ++ news) ∧ x'.n = x.n + m ∧
  ((x'.A = x.A ∧ x'.c = x.c ∧ ∃ g, x.A = some ⟨g, 0, none⟩ ∧ w.grownBy w' (some g)) ∨ (∃ g, x'.A = some ⟨g, 0, none⟩ ∧ w.heap.size ≤ g ∧ w.grownBy w' none))
theorem Grew.size {w w' : World} {base : Nat} {e : TypeId} {x x' : Rw} {m : Nat} {bs news : List (BitVec 8)} (h : Grew w w' base e x x' m bs news) : w.heap.size ≤ w'.heap.size := by
  rcases h.2.2 with ⟨_, _, _, _, h⟩ | ⟨_, _, _, h⟩ <;> exact h.size
theorem Grew.below {W w w' : World} {base : Nat} {e : TypeId} {x x' : Rw} {m : Nat} {bs news : List (BitVec 8)} (h : Grew w w' base e x x' m bs news) (hx : x.own w base e bs) {B : Nat} (hB : B ≤ base) (hs : B ≤ w.heap.size) (hb : Below B W w) : Below B W w' := by
  rcases h.2.2 with ⟨_, _, g, hg, h⟩ | ⟨_, _, _, h⟩
  · refine hb.grown h hs fun k hk => ?_
    cases hk
    rcases hx.addr with ⟨h0, _⟩ | ⟨g', h0, _, h1, _⟩
    · rw [h0] at hg; cases hg
    · rw [h0] at hg; cases hg; omega
  · exact hb.grown h hs fun k hk => by cases hk

section
variable {P : Program} (w : World)
theorem run_append_either (t ty : TypeId) (base : Nat) (e : TypeId) (i : TypeInfo) (z : Value) (bytes : Nat) (ht : P.underlying t = some (.slice e)) (hi : P.info? e = some i) (hz : i.zero = some z)
    (hsize : i.size = 1) (hby : i.bytes = bytes) (hzs : z.cells.size = 1) (x : Rw) (bs : List (BitVec 8)) (hown : x.own w base e bs)
    (ad : Addr) (m c : Nat) (news : List (BitVec 8)) (hl : news.length = m) (hnews : ∀ j u, (bv news)[j]? = some u → w.cell? (ad.add j) = some u)
    (hm : 0 < m) (h63 : x.n + m ≤ maxLen) (hbytes : (x.n + m) * bytes ≤ 140737488355328) (hbase : base ≤ w.heap.size) :
    ∃ A' c' w', (Builtin.append_ #[t, t] ty #[.slice x.A x.n x.c, .slice (some ad) m c]).run P w = .ok (.slice A' (x.n + m) c') w' ∧ Grew w w' base e x ⟨A', x.n + m, c'⟩ m bs news := by
  have hl' : (bv news).length = m * 1 := by rw [bv_length]; omega
  obtain ⟨A, n, cap⟩ := x
  rcases hown.addr with ⟨h1, h2, h3⟩ | ⟨g, h1, _, h2, h3⟩
  · obtain rfl : A = none := h1
    obtain rfl : n = 0 := h2
    obtain rfl : cap = 0 := h3
    obtain ⟨v', w', hr, o2, o3, _, o5⟩ := run_append_own_at (P := P) w base t ty e i z 1 bytes ht hi hz hsize hby hzs (by omega) _ 0 _ hown ad m c (bv news) hl' hnews (bv_one _) h63 hbytes hbase
    obtain ⟨g', cap', rfl, hb', hlt⟩ := o2.form (by omega)
    refine ⟨_, _, w', hr, by rw [← bv_append] at o2; exact o2, rfl, .inr ⟨g', rfl, ?_, o3⟩⟩
    rcases o5 with o5 | o5
    · simp [Value.ownBlock, Rw.v] at o5
    · simp [Value.ownBlock] at o5; omega
  · obtain rfl : A = some ⟨g, 0, none⟩ := h1
    have hxl : (bv bs).length = n * 1 := by rw [bv_length, hown.len]; simp
    rcases Nat.lt_or_ge cap (n + m) with hr | hr
    · obtain ⟨v', w', hrun, o2, o3⟩ := run_append_arg_grows (P := P) w t ty e i z 1 bytes ht hi hz hsize hby hzs (by omega) ⟨g, 0, none⟩ n cap (bv bs) hxl
        (fun j u hu => by
          have hj : j < (bv bs).length := (List.getElem?_eq_some_iff.1 hu).1
          rw [Addr.add_lit, Nat.zero_add]
          have hc := World.ownsRow.cellAt hown j (by rw [hxl] at hj; exact hj)
          rw [hc, hu]) ad m c (bv news) hl' hnews hr h63 hbytes
      obtain ⟨g', cap', rfl, hg', hlt⟩ := o2.form (by omega)
      refine ⟨_, _, w', hrun, ?_, rfl, .inr ⟨g', rfl, hg', o3⟩⟩
      rw [← bv_append] at o2
      exact ⟨o2.1, o2.2.elim .inl fun ⟨a, b, cur, hv, hb, r⟩ => .inr ⟨a, b, cur, hv, Nat.le_trans hbase hb, r⟩⟩
    · obtain ⟨w', hrun, o2, o3⟩ := run_append_fits (P := P) w base t ty e i 1 ht hi hsize g n cap (bv bs) hown ad m c (bv news) hl' hnews (bv_one _) hr
      rw [← bv_append] at o2
      exact ⟨_, _, w', hrun, o2, rfl, .inl ⟨rfl, rfl, g, rfl, o3⟩⟩

theorem wpList_append_either {ops : Array Oper} {rest : List Oper} {o : Oper} {a : Act} {Q : Exit → Act → World → Prop} (hgd : o.guard = Option.none) (s y : Operand) (t : TypeId)
    (ho : o.op = .call { callee := .builtin .append, args := #[s, y], argTypes := #[t, t] })
    (base : Nat) (e : TypeId) (i : TypeInfo) (z : Value) (bytes : Nat) (ht : P.underlying t = some (.slice e)) (hi : P.info? e = some i) (hz : i.zero = some z)
    (hsize : i.size = 1) (hby : i.bytes = bytes) (hzs : z.cells.size = 1) (x : Rw) (bs : List (BitVec 8)) (hs : a.eval s = .slice x.A x.n x.c) (hown : x.own w base e bs)
    (ad : Addr) (m c : Nat) (news : List (BitVec 8)) (hx : a.eval y = .slice (some ad) m c) (hl : news.length = m) (hnews : ∀ j u, (bv news)[j]? = some u → w.cell? (ad.add j) = some u)
    (hm : 0 < m) (h63 : x.n + m ≤ maxLen) (hbytes : (x.n + m) * bytes ≤ 140737488355328) (hbase : base ≤ w.heap.size)
    (h : ∀ A' c' w', Grew w w' base e x ⟨A', x.n + m, c'⟩ m bs news → wpList P ops Q rest (a.put o.dst (.slice A' (x.n + m) c')) w') : wpList P ops Q (o :: rest) a w := by
  refine wpList_plain hgd fun K hK => ?_
  obtain ⟨A', c', w', hr, h2⟩ := run_append_either (P := P) w t o.type base e i z bytes ht hi hz hsize hby hzs x bs hown ad m c news hl hnews hm h63 hbytes hbase
  unfold Oper.wp execOp
  simp only [ho, resolve, invoke, builtin, Sem.run_bind, Sem.run_pure, Result.andThen_ok, List.map_toArray, List.map_cons, List.map_nil, hs, hx, hr]
  exact hK _ _ (h A' c' w' h2)
end

def upd {α : Type} (f : Nat → α) (k : Nat) (x : α) : Nat → α := fun j => if j = k then x else f j
theorem upd_same {α : Type} (f : Nat → α) (k : Nat) (x : α) : upd f k x k = x := by simp [upd]
theorem upd_other {α : Type} (f : Nat → α) (k : Nat) (x : α) {j : Nat} (h : j ≠ k) : upd f k x j = f j := by simp [upd, h]

/-- m rows r that read f, and k rows r' that read F; no two of one set lie in one block, nor one of r and another one's of r'; none lies in a block of Z -/
structure Sit (w : World) (base : Nat) (e : TypeId) (m : Nat) (Z : Nat → Prop) (r : Nat → Rw) (f : Nat → List (BitVec 8)) (k : Nat) (r' : Nat → Rw) (F : Nat → List (BitVec 8)) : Prop where
  own : ∀ j, j < m → (r j).own w base e (f j)
  sep : ∀ i j, i < m → j < m → i ≠ j → ∀ b, (r i).blk = some b → (r j).blk ≠ some b
  own' : ∀ j, j < k → (r' j).own w base e (F j)
  sep' : ∀ i j, i < m → j < k → i ≠ j → ∀ b, (r' j).blk = some b → (r i).blk ≠ some b
  sep2 : ∀ i j, i < k → j < k → i ≠ j → ∀ b, (r' i).blk = some b → (r' j).blk ≠ some b
  z : ∀ b, Z b → b < w.heap.size ∧ (∀ j, j < m → (r j).blk ≠ some b) ∧ (∀ j, j < k → (r' j).blk ≠ some b)
/-- a row x that stands for the k-th one of r' -/
structure Cur (w : World) (base : Nat) (e : TypeId) (m : Nat) (Z : Nat → Prop) (r : Nat → Rw) (f : Nat → List (BitVec 8)) (k : Nat) (r' : Nat → Rw) (x : Rw) (bs : List (BitVec 8)) : Prop where
  own : x.own w base e bs
  sep : ∀ j, j < m → j ≠ k → ∀ b, x.blk = some b → (r j).blk ≠ some b
  sep' : ∀ j, j < k → ∀ b, x.blk = some b → (r' j).blk ≠ some b
  z : ∀ b, Z b → x.blk ≠ some b
  same : ∀ b, x.blk = some b → (r k).blk = some b → x.A = (r k).A ∧ x.c = (r k).c ∧ (r k).n ≤ x.n ∧ bs.take (r k).n = f k

section
variable {w w' : World} {base : Nat} {e : TypeId} {m : Nat} {Z : Nat → Prop} {r r' : Nat → Rw} {f F : Nat → List (BitVec 8)} {k : Nat} {x : Rw} {bs : List (BitVec 8)}

theorem Sit.kept (S : Sit w base e m Z r f k r' F) {row : Option Nat} (hg : w.grownBy w' row) (h1 : ∀ j, j < m → ∀ b, (r j).blk = some b → row ≠ some b) (h2 : ∀ j, j < k → ∀ b, (r' j).blk = some b → row ≠ some b) : Sit w' base e m Z r f k r' F :=
  ⟨fun j hj => (S.own j hj).kept hg (h1 j hj), S.sep, fun j hj => (S.own' j hj).kept hg (h2 j hj), S.sep', S.sep2, fun b hb => ⟨Nat.lt_of_lt_of_le (S.z b hb).1 hg.size, (S.z b hb).2⟩⟩
theorem Sit.alloc (S : Sit w base e m Z r f k r' F) (o : Obj) : Sit (w.alloc o) base e m Z r f k r' F :=
  S.kept (World.grownBy_alloc w o none) (fun _ _ _ _ h => by cases h) (fun _ _ _ _ h => by cases h)
theorem Sit.grown (S : Sit w base e m Z r f k r' F) (hg : w.grownBy w' none) : Sit w' base e m Z r f k r' F :=
  S.kept hg (fun _ _ _ _ h => by cases h) (fun _ _ _ _ h => by cases h)
theorem grownBy_setCell (w : World) (g i : Nat) (v : Value) : w.grownBy (w.setCell ⟨g, i, none⟩ v) (some g) :=
  ⟨rfl, rfl, rfl, by simp, fun k' _ hk => heap_setCell_other w ⟨g, i, none⟩ k' v (fun e => hk (by simp [e]))⟩
theorem cell_setCell_ne {w : World} {g b i j : Nat} (v : Value) (hb : g ≠ b) : (w.setCell ⟨b, i, none⟩ v).cell? ⟨g, j, none⟩ = w.cell? ⟨g, j, none⟩ := by
  refine World.cell?_setCell_other _ _ _ _ (fun e => hb ?_)
  injection e with e1 _
  exact e1.symm
theorem Grew.block {w w' : World} {base : Nat} {e : TypeId} {x x' : Rw} {m : Nat} {bs news : List (BitVec 8)} (h : Grew w w' base e x x' m bs news) {b : Nat} (hb : b < w.heap.size) (hx : x.blk ≠ some b) : w'.heap[b]? = w.heap[b]? := by
  rcases h.2.2 with ⟨_, _, g, hg, h⟩ | ⟨_, _, _, h⟩
  · refine h.block b hb fun e => hx ?_
    cases e
    simp [Rw.blk, Rw.v, hg, Value.ownBlock]
  · exact h.block b hb (by simp)
theorem Sit.less (S : Sit w base e m Z r f k r' F) {Z' : Nat → Prop} (h : ∀ b, Z' b → Z b) : Sit w base e m Z' r f k r' F := ⟨S.own, S.sep, S.own', S.sep', S.sep2, fun b hb => S.z b (h b hb)⟩
theorem Sit.congr (S : Sit w base e m Z r f k r' F) {f' : Nat → List (BitVec 8)} (h : ∀ j, j < m → f j = f' j) : Sit w base e m Z r f' k r' F := ⟨fun j hj => by rw [← h j hj]; exact S.own j hj, S.sep, S.own', S.sep', S.sep2, S.z⟩
theorem Sit.congr' (S : Sit w base e m Z r f k r' F) {F' : Nat → List (BitVec 8)} (h : ∀ j, j < k → F j = F' j) : Sit w base e m Z r f k r' F' := ⟨S.own, S.sep, fun j hj => by rw [← h j hj]; exact S.own' j hj, S.sep', S.sep2, S.z⟩
/-- a store into a block of Z -/
theorem Sit.storeZ (S : Sit w base e m Z r f k r' F) {g : Nat} (hz : Z g) (i : Nat) (v : Value) : Sit (w.setCell ⟨g, i, none⟩ v) base e m Z r f k r' F :=
  S.kept (grownBy_setCell w g i v) (fun j hj b hb h => (S.z g hz).2.1 j hj (by cases h; exact hb)) (fun j hj b hb h => (S.z g hz).2.2 j hj (by cases h; exact hb))
theorem Sit.drewN (S : Sit w base e m Z r f k r' F) (q : Nat) : Sit (w.drewN q) base e m Z r f k r' F := ⟨S.own, S.sep, S.own', S.sep', S.sep2, S.z⟩
theorem Sit.drew (S : Sit w base e m Z r f k r' F) : Sit w.drew base e m Z r f k r' F := ⟨S.own, S.sep, S.own', S.sep', S.sep2, S.z⟩
/-- one block more that no row lies in -/
theorem Sit.addZ (S : Sit w base e m Z r f k r' F) (g : Nat) (h0 : g < w.heap.size) (h1 : ∀ j, j < m → (r j).blk ≠ some g) (h2 : ∀ j, j < k → (r' j).blk ≠ some g) : Sit w base e m (fun b => Z b ∨ b = g) r f k r' F :=
  ⟨S.own, S.sep, S.own', S.sep', S.sep2, fun b hb => hb.elim (S.z b) (fun h => by subst h; exact ⟨h0, h1, h2⟩)⟩
theorem Sit.lt (S : Sit w base e m Z r f k r' F) {j : Nat} (hj : j < m) {b : Nat} (hb : (r j).blk = some b) : b < w.heap.size := ((S.own j hj).lt b hb).2
theorem Sit.lt' (S : Sit w base e m Z r f k r' F) {j : Nat} (hj : j < k) {b : Nat} (hb : (r' j).blk = some b) : b < w.heap.size := ((S.own' j hj).lt b hb).2
/-- a store into a row (none of r' is there yet) -/
theorem Sit.store (S : Sit w base e m Z r f 0 r' F) {j i : Nat} (hj : j < m) (hi : i < (r j).n) (y : BitVec 8) :
    ∃ g, (r j).A = some ⟨g, 0, none⟩ ∧ base ≤ g ∧ w.cell? ⟨g, i, none⟩ = some (B8 ((f j).getD i 0)) ∧ w.frozen? ⟨g, i, none⟩ = false ∧ (∀ b, Z b → b ≠ g) ∧ Sit (w.setCell ⟨g, i, none⟩ (B8 y)) base e m Z r (upd f j ((f j).set i y)) 0 r' F := by
  have ho := S.own j hj
  rcases ho.addr with ⟨_, h0, _⟩ | ⟨g, hA, hb, hbase, hlt⟩
  · omega
  have ho2 : w.ownsRow base e 1 (.slice (some ⟨g, 0, none⟩) (r j).n (r j).c) (r j).n (bv (f j)) := by
    have := ho; unfold Rw.own Rw.v at this; rw [hA] at this; exact this
  have hl := ho.len
  refine ⟨g, hA, hbase, ?_, ho2.frozenAt i, fun b hz e => (S.z b hz).2.1 j hj (by rw [e]; exact hb), ?_⟩
  · rw [ho2.cellAt i (by omega)]
    simp [bv, show i < (f j).length by omega]
  · have hs := (ho2.stored i (B8 y)).1
    refine ⟨fun j' hj' => ?_, S.sep, fun j' hj' => absurd hj' (Nat.not_lt_zero _), S.sep', S.sep2, fun b hz => ?_⟩
    · by_cases e : j' = j
      · subst e
        rw [upd_same]
        unfold Rw.own Rw.v
        rw [hA]
        have e2 : bv ((f j').set i y) = (bv (f j')).set i (B8 y) := by simp [bv]
        rw [e2]; exact hs
      · rw [upd_other _ _ _ e]
        exact (S.own j' hj').kept (grownBy_setCell w g i (B8 y)) (fun b hb' h => S.sep j j' hj hj' (Ne.symm e) g hb (by cases h; exact hb'))
    · have := S.z b hz
      exact ⟨by simpa using this.1, this.2⟩

theorem Cur.start (S : Sit w base e m Z r f k r' F) (hk : k < m) : Cur w base e m Z r f k r' (r k) (f k) :=
  ⟨S.own k hk, fun j hj hjk b hb => S.sep k j hk hj (Ne.symm hjk) b hb, fun j hj b hb h => S.sep' k j hk hj (by omega) b h hb, fun b hz => (S.z b hz).2.1 k hk,
    fun b _ _ => ⟨rfl, rfl, Nat.le_refl _, by rw [List.take_of_length_le (by rw [(S.own k hk).len]; exact Nat.le_refl _)]⟩⟩
theorem Cur.alloc (C : Cur w base e m Z r f k r' x bs) (o : Obj) : Cur (w.alloc o) base e m Z r f k r' x bs :=
  ⟨C.own.kept (World.grownBy_alloc w o none) (fun _ _ h => by cases h), C.sep, C.sep', C.z, C.same⟩
theorem Cur.grown (C : Cur w base e m Z r f k r' x bs) (hg : w.grownBy w' none) : Cur w' base e m Z r f k r' x bs :=
  ⟨C.own.kept hg (fun _ _ h => by cases h), C.sep, C.sep', C.z, C.same⟩
theorem Cur.drew (C : Cur w base e m Z r f k r' x bs) : Cur w.drew base e m Z r f k r' x bs := ⟨C.own, C.sep, C.sep', C.z, C.same⟩
theorem Cur.grew (S : Sit w base e m Z r f k r' F) (C : Cur w base e m Z r f k r' x bs) (hk : k < m) {x' : Rw} {mm : Nat} {news : List (BitVec 8)} (G : Grew w w' base e x x' mm bs news) :
    Sit w' base e m Z r f k r' F ∧ Cur w' base e m Z r f k r' x' (bs ++ news) := by
  obtain ⟨ho, hn, h⟩ := G
  rcases h with ⟨hA, hc, g, hg, hgr⟩ | ⟨g, hg, hge, hgr⟩
  · have hxb : x.blk = some g := by simp [Rw.blk, Rw.v, hg, Value.ownBlock]
    have hxb' : x'.blk = some g := by simp [Rw.blk, Rw.v, hA, hg, Value.ownBlock]
    have hbl := C.own.len
    refine ⟨⟨fun j hj => ?_, S.sep, fun j hj => (S.own' j hj).kept hgr (fun b hb h => by cases h; exact C.sep' j hj g hxb hb), S.sep', S.sep2, fun b hz => ⟨Nat.lt_of_lt_of_le (S.z b hz).1 hgr.size, (S.z b hz).2⟩⟩,
      ⟨ho, fun j hj hjk b hb => C.sep j hj hjk b (by rw [hxb'] at hb; rw [hxb]; exact hb), fun j hj b hb => C.sep' j hj b (by rw [hxb'] at hb; rw [hxb]; exact hb), fun b hz => by rw [hxb', ← hxb]; exact C.z b hz, fun b hb hb' => ?_⟩⟩
    · by_cases hjk : j = k
      · subst hjk
        by_cases hs : (r j).blk = some g
        · obtain ⟨h1, h2, h3, h4⟩ := C.same g hxb hs
          have ho2 : w'.ownsRow base e 1 (.slice (some ⟨g, 0, none⟩) x'.n x'.c) x'.n (bv (bs ++ news)) := by
            have := ho; unfold Rw.own Rw.v at this; rw [hA, hg] at this; exact this
          have ht := own_take ho2 (k := (r j).n) (by omega)
          rw [List.take_append_of_le_length (by omega), h4, hc, h2] at ht
          unfold Rw.own Rw.v
          rw [← h1, hg]; exact ht
        · exact (S.own j hj).kept hgr (fun b hb h => by cases h; exact hs hb)
      · exact (S.own j hj).kept hgr (fun b hb h => by cases h; exact C.sep j hj hjk g hxb hb)
    · obtain ⟨h1, h2, h3, h4⟩ := C.same b (by rw [hxb'] at hb; rw [hxb]; exact hb) hb'
      exact ⟨hA.trans h1, hc.trans h2, by omega, by rw [List.take_append_of_le_length (by omega)]; exact h4⟩
  · have hxb' : x'.blk = some g := by simp [Rw.blk, Rw.v, hg, Value.ownBlock]
    refine ⟨S.grown hgr, ⟨ho, fun j hj _ b hb h => ?_, fun j hj b hb h => ?_, fun b hz h => ?_, fun b hb h => ?_⟩⟩
    · have := S.lt hj h; rw [hxb'] at hb; cases hb; omega
    · have := S.lt' hj h; rw [hxb'] at hb; cases hb; omega
    · have := (S.z b hz).1; rw [hxb'] at h; cases h; omega
    · have := S.lt hk h; rw [hxb'] at hb; cases hb; omega
theorem Sit.push (S : Sit w base e m Z r f k r' F) (C : Cur w base e m Z r f k r' x bs) : Sit w base e m Z r f (k + 1) (upd r' k x) (upd F k bs) where
  own := S.own
  sep := S.sep
  own' := fun j hj => by
    by_cases h : j = k
    · subst h; rw [upd_same, upd_same]; exact C.own
    · rw [upd_other _ _ _ h, upd_other _ _ _ h]; exact S.own' j (by omega)
  sep' := fun i j hi hj hij b hb => by
    by_cases h : j = k
    · subst h; rw [upd_same] at hb; exact C.sep i hi hij b hb
    · rw [upd_other _ _ _ h] at hb; exact S.sep' i j hi (by omega) hij b hb
  sep2 := fun i j hi hj hij b hb => by
    by_cases h : j = k
    · subst h
      rw [upd_other _ _ _ hij] at hb
      rw [upd_same]
      exact fun h' => C.sep' i (by omega) b h' hb
    · rw [upd_other _ _ _ h]
      by_cases h' : i = k
      · subst h'; rw [upd_same] at hb; exact C.sep' j (by omega) b hb
      · rw [upd_other _ _ _ h'] at hb; exact S.sep2 i j (by omega) (by omega) hij b hb
  z := fun b hz => ⟨(S.z b hz).1, (S.z b hz).2.1, fun j hj => by
    by_cases h : j = k
    · subst h; rw [upd_same]; exact C.z b hz
    · rw [upd_other _ _ _ h]; exact (S.z b hz).2.2 j (by omega)⟩
/-- the second set forgotten -/
theorem Sit.zero (S : Sit w base e m Z r f k r' F) : Sit w base e m Z r f 0 r' F :=
  ⟨S.own, S.sep, fun _ h => absurd h (Nat.not_lt_zero _), fun _ _ _ h => absurd h (Nat.not_lt_zero _), fun _ _ h => absurd h (Nat.not_lt_zero _), fun b hz => ⟨(S.z b hz).1, (S.z b hz).2.1, fun _ h => absurd h (Nat.not_lt_zero _)⟩⟩
/-- a place of a row -/
theorem Sit.at (S : Sit w base e m Z r f k r' F) {j i : Nat} (hj : j < m) (hi : i < (r j).n) : ∃ g, (r j).A = some ⟨g, 0, none⟩ ∧ w.cell? ⟨g, i, none⟩ = some (B8 ((f j).getD i 0)) := by
  have ho := S.own j hj
  rcases ho.addr with ⟨_, h0, _⟩ | ⟨g, hA, hb, hbase, hlt⟩
  · omega
  have ho2 : w.ownsRow base e 1 (.slice (some ⟨g, 0, none⟩) (r j).n (r j).c) (r j).n (bv (f j)) := by
    have := ho; unfold Rw.own Rw.v at this; rw [hA] at this; exact this
  have hl := ho.len
  exact ⟨g, hA, by rw [ho2.cellAt i (by omega)]; simp [bv, show i < (f j).length by omega]⟩
theorem Sit.at' (S : Sit w base e m Z r f k r' F) {j i : Nat} (hj : j < k) (hi : i < (r' j).n) : ∃ g, (r' j).A = some ⟨g, 0, none⟩ ∧ w.cell? ⟨g, i, none⟩ = some (B8 ((F j).getD i 0)) := by
  have ho := S.own' j hj
  rcases ho.addr with ⟨_, h0, _⟩ | ⟨g, hA, hb, hbase, hlt⟩
  · omega
  have ho2 : w.ownsRow base e 1 (.slice (some ⟨g, 0, none⟩) (r' j).n (r' j).c) (r' j).n (bv (F j)) := by
    have := ho; unfold Rw.own Rw.v at this; rw [hA] at this; exact this
  have hl := ho.len
  exact ⟨g, hA, by rw [ho2.cellAt i (by omega)]; simp [bv, show i < (F j).length by omega]⟩
end
end Go.Proofs.YtfpjmeknjhhakaaGreat.K

/- More plain laws on rows that a world owns. -/
namespace Go.Proofs.YtfpjmeknjhhakaaGreat.K
open Go Go.RowKit
theorem row_kept {w w' : World} {base : Nat} {e : TypeId} {v : Value} {n : Nat} {xs : List Value} (h : w.ownsRow base e 1 v n xs) (hb : Below w.heap.size w w') : w'.ownsRow base e 1 v n xs := by
  refine h.kept (row := none) ⟨hb.os, hb.tape, hb.output, hb.size, fun k hk _ => hb.block k hk⟩ ?_
  cases hv : v.ownBlock with
  | none => exact .inl rfl
  | some x => exact .inr (by simp)
theorem row_lt {w : World} {base : Nat} {e : TypeId} {g n c : Nat} {xs : List Value} (h : w.ownsRow base e 1 (.slice (some ⟨g, 0, none⟩) n c) n xs) : base ≤ g ∧ g < w.heap.size := h.lt g rfl
theorem row_weaken {w : World} {base base' : Nat} {e : TypeId} {v : Value} {n : Nat} {xs : List Value} (h : w.ownsRow base e 1 v n xs) (hb : base' ≤ base) : w.ownsRow base' e 1 v n xs :=
  ⟨h.1, h.2.elim .inl fun ⟨a, b, cur, hv, hbb, r⟩ => .inr ⟨a, b, cur, hv, Nat.le_trans hb hbb, r⟩⟩
theorem row_room {w : World} {base : Nat} {e : TypeId} {A : Option Addr} {n c : Nat} {xs : List Value} (h : w.ownsRow base e 1 (.slice A n c) n xs) : n ≤ c ∧ c ≤ 9223372036854775807 ∧ (A = none → n = 0 ∧ c = 0) ∧ ∀ a, A = some a → ∃ g, a = ⟨g, 0, none⟩ ∧ base ≤ g ∧ g < w.heap.size := by
  rcases h.2 with ⟨h1, h2⟩ | ⟨g', cap', cur, h', hb, hg, hnc, hcm, _⟩
  · simp only [Value.slice.injEq] at h1
    obtain ⟨rfl, rfl, rfl⟩ := h1
    exact ⟨by omega, by omega, fun _ => ⟨rfl, rfl⟩, (fun a h => by cases h)⟩
  · simp only [Value.slice.injEq, true_and] at h'
    obtain ⟨rfl, rfl⟩ := h'
    exact ⟨hnc, by unfold maxLen at hcm; omega, (fun h => by cases h), fun a h => by cases h; exact ⟨_, rfl, hb, (Array.getElem?_eq_some_iff.1 hg).1⟩⟩
theorem Rd.pre {w : World} {A : Option Addr} {bs ms : List (BitVec 8)} (h : Rd w A (bs ++ ms)) : Rd w A bs := fun k hk => by
  obtain ⟨b, o, e, hc⟩ := h k (by rw [List.length_append]; omega)
  exact ⟨b, o, e, by rw [hc, List.getElem_append_left hk]⟩
theorem below_of_drew {w w' : World} (h : Below w.drew.heap.size w.drew w') : Below w.heap.size w w' := ⟨h.os, h.tape, h.output, h.size, h.block⟩
theorem cells3 (w : World) (a b c : Value) (t : TypeId) : ∀ j u, [a, b, c][j]? = some u → (w.alloc (.cells #[a, b, c] t)).cell? ⟨w.heap.size, j, none⟩ = some u := by
  intro j u hu
  rw [World.cell?_alloc_new, ← hu]
  simp
/-- three rows -/
def three (x y z : Rw) : Nat → Rw
  | 0 => x
  | 1 => y
  | _ => z
def threeB (x y z : List (BitVec 8)) : Nat → List (BitVec 8)
  | 0 => x
  | 1 => y
  | _ => z
theorem three_le {P : Nat → Prop} (h0 : P 0) (h1 : P 1) (h2 : P 2) : ∀ j, j < 3 → P j := fun j hj => by
  match j, hj with
  | 0, _ => exact h0
  | 1, _ => exact h1
  | 2, _ => exact h2
theorem three_sep {P : Nat → Nat → Prop} (h01 : P 0 1) (h02 : P 0 2) (h10 : P 1 0) (h12 : P 1 2) (h20 : P 2 0) (h21 : P 2 1) : ∀ i j, i < 3 → j < 3 → i ≠ j → P i j := fun i j hi hj hij => by
  match i, j, hi, hj, hij with
  | 0, 0, _, _, h => exact absurd rfl h
  | 1, 1, _, _, h => exact absurd rfl h
  | 2, 2, _, _, h => exact absurd rfl h
  | 0, 1, _, _, _ => exact h01
  | 0, 2, _, _, _ => exact h02
  | 1, 0, _, _, _ => exact h10
  | 1, 2, _, _, _ => exact h12
  | 2, 0, _, _, _ => exact h20
  | 2, 1, _, _, _ => exact h21
end Go.Proofs.YtfpjmeknjhhakaaGreat.K

/- Contracts of the small functions that only reckon. -/
namespace Go.Proofs.YtfpjmeknjhhakaaGreat.K
open Go Go.RowKit

/-- barbicankit.mark, as the walk has it. -/
def markI (k i : Int) : Int := wrap64 (wrap64 (1000003 * wrap64 (k + 7)) + i)
def markB (k i : Int) : BitVec 8 := BitVec.ofInt 8 (IntKind.u64.wrap (IntKind.u64.wrap (wrap64 (wrap64 (1000003 * wrap64 (k + 7)) + i)) * 11400714819323198485) / 72057594037927936)
theorem markB_eq (k i : Int) : Value.int .u8 (IntKind.u64.wrap (IntKind.u64.wrap (wrap64 (wrap64 (1000003 * wrap64 (k + 7)) + i)) * 11400714819323198485) / 72057594037927936 % 256) = B8 (markB k i) := by
  simp only [B8, markB, BitVec.toNat_ofInt, Value.int.injEq, true_and]
  omega

theorem mark_any (k i : Int) (w : World) :
    Calls Tryz.prog 92 #[.int .i64 k, .int .i64 i] w fun e w' => e = .returned (.int .i64 (markI k i)) ∧ w = w' := by
  go_enter Tryz.func92, Tryz.ntmps92
  go_wp2
  go_ret
  exact ⟨rfl, rfl⟩
theorem markByte_any (k i : Int) (w : World) :
    Calls Tryz.prog 109 #[.int .i64 k, .int .i64 i] w fun e w' => e = .returned (B8 (markB k i)) ∧ w = w' := by
  go_enter Tryz.func109, Tryz.ntmps109
  go_wp2
  go_ret
  exact ⟨by rw [← markB_eq]; rfl, rfl⟩

/-- barbicankit.Pick: any number brought into 0 to n - 1 (n from 1 on). -/
def pick (x n : Int) : Int := x % n
theorem pick_lo (x n : Int) (h : 1 ≤ n) : 0 ≤ pick x n := Int.emod_nonneg _ (by omega)
theorem pick_hi (x n : Int) (h : 1 ≤ n) : pick x n < n := Int.emod_lt_of_pos _ (by omega)
theorem Pick_any (x n : Int) (w : World) (hn : 1 ≤ n) (hn2 : n ≤ 4611686018427387904) :
    Calls Tryz.prog 9 #[.int .i64 x, .int .i64 n] w fun e w' => e = .returned (.int .i64 (pick x n)) ∧ w = w' := by
  have h1 : -n < x.tmod n := by have := Int.lt_tmod_of_pos x (show (0:Int) < n by omega); omega
  have h2 : x.tmod n < n := Int.tmod_lt_of_pos x (by omega)
  go_enter Tryz.func9, Tryz.ntmps9
  go_wp2
  · go_ret
    rename_i h
    refine ⟨?_, rfl⟩
    have e : x.tmod n + n = pick x n := by
      unfold pick
      have := Int.emod_nonneg x (show n ≠ 0 by omega)
      have h5 := Int.tmod_eq_emod (a := x) (b := n)
      split at h5 <;> omega
    show Ending.returned (Value.int .i64 (x.tmod n + n)) = _
    rw [e]
  · go_ret
    rename_i h
    refine ⟨?_, rfl⟩
    have e : x.tmod n = pick x n := by
      unfold pick
      have h5 := Int.tmod_eq_emod (a := x) (b := n)
      have h6 := Int.emod_lt_of_pos x (show (0 : Int) < n by omega)
      split at h5 <;> omega
    show Ending.returned (Value.int .i64 (x.tmod n)) = _
    rw [e]


set_option maxHeartbeats 400000 in
theorem SameBytes_any (A B : Option Addr) (n m c d : Nat) (xs ys : List (BitVec 8)) (w : World) (hx : Rd w A xs) (hy : Rd w B ys) (hn : xs.length = n) (hm : ys.length = m) (hn2 : n ≤ 4611686018427387904) (hm2 : m ≤ 4611686018427387904) :
    Calls Tryz.prog 15 #[.slice A n c, .slice B m d] w fun e w' => e = .returned (.bool (decide (xs = ys))) ∧ ∃ k, w' = w.drewN k := by
  subst hn hm
  by_cases hl : xs.length = ys.length
  · have hne : ((xs.length : Int) != (ys.length : Int)) = false := by simp; omega
    have HL := Lib.hid hl; clear hl
    go_enter Tryz.func15, Tryz.ntmps15
    go_wp2
    go_loopw [5] (fun i wr => ∃ k : Nat, k ≤ xs.length ∧ i = .int .i64 k ∧ (∀ j, j < k → xs[j]? = ys[j]?) ∧ ∃ q, wr = w.drewN q) (fun i _ => xs.length - (intOf i).toNat)
    case atStart => exact ⟨0, Nat.zero_le _, rfl, fun j hj => absurd hj (Nat.not_lt_zero _), 0, rfl⟩
    case round =>
      obtain ⟨k, hk, rfl, hpre, q, rfl⟩ := hrel
      by_cases hlt : k < xs.length
      · obtain ⟨b, o, rfl, hcx⟩ := hx k hlt
        obtain ⟨b', o', rfl, hcy⟩ := hy k (by have := HL.out; omega)
        have i1 : (0 : Int) ≤ (k : Int) := by omega
        have i2 : (k : Int) < (xs.length : Int) := by omega
        have i3 : (k : Int) < (ys.length : Int) := by have := HL.out; omega
        have HP := Lib.hid hpre
        clear hx hy hpre
        go_wp2
        go_quiet (fail)
        go_wp2
        · go_ret
          have hne : (xs[k] != ys[k]) = true := by assumption
          refine ⟨?_, _, World.drewN_drewN _ _ _⟩
          rw [decide_eq_false (fun e => by subst e; simp at hne)]; rfl
        · have heq : (xs[k] != ys[k]) = false := by assumption
          go_roundw
          case rel =>
            refine ⟨k + 1, by omega, by go_num, fun j hj => ?_, _, rfl⟩
            by_cases e : j = k
            · subst e
              rw [List.getElem?_eq_getElem hlt, List.getElem?_eq_getElem (by have := HL.out; omega)]
              simpa using heq
            · exact HP.out j (by omega)
          case measure => simp [intOf]; omega
      · have hge : ¬ ((k : Int) < (xs.length : Int)) := by omega
        obtain rfl : k = xs.length := by omega
        have HP := Lib.hid hpre; clear hpre
        go_wp2
        go_ret
        refine ⟨?_, _, rfl⟩
        rw [decide_eq_true]; · rfl
        apply List.ext_getElem? 
        intro j
        by_cases hj : j < xs.length
        · exact HP.out j hj
        · rw [List.getElem?_eq_none (by omega), List.getElem?_eq_none (by have := HL.out; omega)]
  · have hne : ((xs.length : Int) != (ys.length : Int)) = true := by simp; omega
    go_enter Tryz.func15, Tryz.ntmps15
    go_wp2
    go_ret
    exact ⟨by rw [decide_eq_false (fun e => hl (by rw [e]))]; rfl, 0, rfl⟩
end Go.Proofs.YtfpjmeknjhhakaaGreat.K

/- Contracts of barbicankit.LentBytes and KeptBytes. -/
namespace Go.Proofs.YtfpjmeknjhhakaaGreat.K
open Go Go.RowKit

theorem infoByte : (Tryz.prog.info? 5).map (fun i => (i.zero, i.size, i.bytes)) = some (some (.int .u8 0), 1, 1) := by kernel_rfl
/-- the marks of number k from place i on -/
def marks (k i n : Nat) : List (BitVec 8) := (List.range n).map fun j => markB k (i + j : Nat)
theorem marks_length (k i n : Nat) : (marks k i n).length = n := by simp [marks]
theorem marks_succ (k i n : Nat) : marks k i (n + 1) = marks k i n ++ [markB k (i + n : Nat)] := by simp [marks, List.range_succ]

theorem cell_last (w : World) (v : Value) (t : TypeId) : ∀ j u, [v][j]? = some u → (w.alloc (.cells #[v] t)).cell? ((⟨w.heap.size, 0, none⟩ : Addr).add j) = some u := by
  intro j u hu
  match j, hu with
  | 0, hu => simp at hu; subst hu; simp [Addr.add]

set_option maxHeartbeats 400000 in
theorem LentBytes_any (A : Option Addr) (n c : Nat) (bs : List (BitVec 8)) (w : World) (hr : Rd w A bs) (hn : bs.length = n) (hn2 : n ≤ 140737488000000) (hnone : A = none → c = 0) :
    Calls Tryz.prog 91 #[.slice A n c] w fun e w' => ∃ g, e = .returned (.slice (some ⟨g, 0, none⟩) n (n + 12)) ∧ w.heap.size ≤ g ∧
      w'.heap[g]? = some (.cells (bv (bs ++ marks 1 0 12)).toArray 5 (0, 0)) ∧ Below w.heap.size w w' := by
  obtain ⟨i0, hi, hz0, hz1, hz2⟩ := info_parts infoByte
  have hL : Hid ((bv bs).length = n * 1) := by show _ = _; rw [bv_length]; omega
  have hnone' : A = none → n = 0 ∧ c = 0 := fun h => ⟨by subst h; rw [hr.empty] at hn; simpa using hn.symm, hnone h⟩
  have HN := Lib.hid hnone'
  have hcells := hr.cells
  have HC := Lib.hid hcells
  clear hcells hnone hnone'
  have HR := Lib.hid hr
  have HLEN := Lib.hid hn
  clear hr hn
  go_enter Tryz.func91, Tryz.ntmps91
  go_wp2_with (first
    | (at_make; refine wpList_make_own _ rfl _ _ 37 rfl w.heap.size 5 i0 (.int .u8 0) 1 Tryz.underlying37 hi hz0 hz1 _ _ _ (n + 12) rfl rfl (by omega) (by rw [hz2]; omega) (by unfold maxLen; omega) (Nat.le_refl _) ?_; intro w1 hown1 hgrow1)
    | (at_builtin; refine wpList_append_fits_any _ rfl _ _ 37 rfl w.heap.size 5 i0 1 Tryz.underlying37 hi hz1 w.heap.size 0 (n + 12) [] rfl hown1 A n c (bv bs) rfl hL.out HN.out (fun ad had j u hu => hgrow1.cell (HC.out ad had j u hu) (by simp)) (bv_one bs) (by omega) ?_; intro w2 hown2 hgrow2))
  have hb2 : Below w.heap.size w w2 := ((Below.refl _ _).grown hgrow1 (Nat.le_refl _) (by simp)).grown hgrow2 hgrow1.size (by simp)
  clear hgrow1 hown1 hgrow2
  go_loopw [3, 4] (fun v i wr => ∃ k : Nat, k ≤ 12 ∧ i = .int .i64 k ∧ v = .slice (some ⟨w.heap.size, 0, none⟩) (n + k) (n + 12) ∧
      wr.ownsRow w.heap.size 5 1 (.slice (some ⟨w.heap.size, 0, none⟩) (n + k) (n + 12)) (n + k) (bv (bs ++ marks 1 0 k)) ∧ Below w.heap.size w wr) (fun _ i _ => 12 - (intOf i).toNat)
  case atStart => exact ⟨0, by omega, rfl, rfl, by simpa [marks] using hown2, hb2⟩
  case round =>
    clear hown2 hb2
    obtain ⟨k, hk, rfl, rfl, hown, hb⟩ := hrel
    by_cases hlt : k < 12
    · have i1 : (k : Int) < 12 := by omega
      go_wp2_with (first
        | (go_at_call 109; refine (markByte_any _ _ _).mono ?_; rintro e w' ⟨rfl, rfl⟩)
        | (at_builtin; refine wpList_append_fits _ rfl _ _ 37 rfl w.heap.size 5 i0 1 Tryz.underlying37 hi hz1 w.heap.size (n + k) (n + 12) (bv (bs ++ marks 1 0 k)) rfl (hown.alloc _) ⟨wr.heap.size, 0, none⟩ 1 1 [B8 (markB 1 k)] rfl rfl (cell_last _ _ _) (by intro u hu; simp at hu; subst hu; rfl) (by omega) ?_; intro w3 hown3 hgrow3))
      have hb3 : Below w.heap.size w w3 := (hb.alloc hb.size _).grown hgrow3 (by have := hb.size; simp; omega) (by simp)
      clear hgrow3 hb hown
      go_roundw
      case rel => exact ⟨k + 1, by omega, by go_num, by rw [Nat.add_assoc], by rw [marks_succ, ← List.append_assoc, bv_append, ← Nat.add_assoc]; simpa [bv] using hown3, hb3⟩
      case measure => simp [intOf]; omega
    · obtain rfl : k = 12 := by omega
      go_wp2
      go_ret
      have ⟨h1, h2⟩ := own_full hown
      exact ⟨_, rfl, h1, h2, hb⟩

/-- what KeptBytes looks at, place by place -/
theorem kept_at {bs : List (BitVec 8)} {k i n j : Nat} (hj : j < n) : (bs ++ marks k i n)[bs.length + j]? = some (markB k (i + j : Nat)) := by
  rw [List.getElem?_append_right (by omega)]
  simp [marks, hj]

set_option maxHeartbeats 400000 in
theorem KeptBytes_any (g : Nat) (A : Option Addr) (n c : Nat) (bs : List (BitVec 8)) (w : World) (hg : w.heap[g]? = some (.cells (bv (bs ++ marks 1 0 12)).toArray 5 (0, 0))) (hr : Rd w A bs) (hn : bs.length = n) (hn2 : n ≤ 140737488000000) :
    Calls Tryz.prog 93 #[.slice (some ⟨g, 0, none⟩) n (n + 12), .slice A n c] w fun e w' => e = .returned (.bool true) ∧ ∃ k, w' = w.drewN k := by
  subst hn
  have hR2 : Rd w (some ⟨g, 0, none⟩) (bs ++ marks 1 0 12) := Rd.of_block hg (by rw [← bv_length, List.take_length])
  have HG := Lib.hid hR2
  clear hR2 hg
  go_enter Tryz.func93, Tryz.ntmps93
  go_wp2
  go_loopw [6] (fun i wr => ∃ k : Nat, k ≤ bs.length + 12 ∧ i = .int .i64 k ∧ ∃ q, wr = w.drewN q) (fun i _ => bs.length + 12 - (intOf i).toNat)
  case atStart => exact ⟨0, Nat.zero_le _, rfl, 0, rfl⟩
  case round =>
    obtain ⟨k, hk, rfl, q, rfl⟩ := hrel
    have i0 : (0 : Int) ≤ (k : Int) := by omega
    rcases Nat.lt_or_ge k bs.length with h1 | h1
    · obtain ⟨b, o, rfl, hcx⟩ := hr k (by omega)
      obtain ⟨b', o', ea, hcy⟩ := HG.out k (by simp; omega)
      obtain ⟨rfl, rfl⟩ : g = b' ∧ 0 = o' := by simpa using ea
      rw [List.getElem_append_left (by omega)] at hcy
      have hcy' : w.cell? ⟨g, k, none⟩ = some (B8 (bs[k]'(by omega))) := by simpa using hcy
      have i1 : (k : Int) < (bs.length : Int) := by omega
      have d1 : decide ((k : Int) < (bs.length : Int)) = true := by simpa using i1
      have d2 : decide (bs.length ≤ k) = false := by simp; omega
      have d3 : decide (k < bs.length) = true := by simp; omega
      have i2 : (k : Int) < (bs.length : Int) + 12 := by omega
      clear hcy ea hr
      go_wp2
      go_quiet (fail)
      go_wp2
      go_roundw
      case rel => exact ⟨k + 1, by omega, by go_num, _, rfl⟩
      case measure => simp [intOf]; omega
    · rcases Nat.lt_or_ge k (bs.length + 12) with h2 | h2
      · obtain ⟨b', o', ea, hcy⟩ := HG.out k (by simp [marks_length]; omega)
        obtain ⟨rfl, rfl⟩ : g = b' ∧ 0 = o' := by simpa using ea
        have e1 := kept_at (bs := bs) (k := 1) (i := 0) (n := 12) (j := k - bs.length) (by omega)
        rw [show bs.length + (k - bs.length) = k by omega, List.getElem?_eq_getElem (by simp [marks_length]; omega)] at e1
        rw [Option.some.inj e1] at hcy
        have hcy' : w.cell? ⟨g, k, none⟩ = some (B8 (markB 1 ((k : Int) - (bs.length : Int)))) := by
          rw [show ((0 + (k - bs.length) : Nat) : Int) = (k : Int) - (bs.length : Int) by omega] at hcy
          simpa using hcy
        have i1 : (bs.length : Int) ≤ (k : Int) := by omega
        have d1 : decide (k < bs.length) = false := by simp; omega
        have d2 : decide (bs.length ≤ k) = true := by simp; omega
        have i2 : (k : Int) < (bs.length : Int) + 12 := by omega
        clear hcy ea hr e1
        go_wp2
        go_quiet ((go_at_call 109; exact q_add (markByte_any _ _ _)))
        go_wp2
        go_roundw
        case rel => exact ⟨k + 1, by omega, by go_num, _, rfl⟩
        case measure => simp [intOf]; omega
      · obtain rfl : k = bs.length + 12 := by omega
        have i2 : ¬ (((bs.length + 12 : Nat) : Int) < (bs.length : Int) + 12) := by omega
        go_wp2
        go_ret
        exact ⟨rfl, _, rfl⟩
end Go.Proofs.YtfpjmeknjhhakaaGreat.K
