/- Numbers, bytes and entries as bytes: plain Lean functions. No program in sight. -/
import Derived.Test.YtfpjmeknjhhakaaShaMath
namespace Go.Proofs.Ytfpjmeknjhhakaa.M
abbrev U64 := BitVec 64
/-- the byte of a number that stands i bytes above the lowest one -/
def byteOf (n : Int) (i : Nat) : B := (BitVec.ofInt 64 n >>> (8 * i)).setWidth 8
/-- a number's bytes, the highest first -/
def num (n : Int) : List B := (List.range 8).map fun i => byteOf n (7 - i)
theorem num_length (n : Int) : (num n).length = 8 := rfl
theorem byteOf_int (n : Int) (i : Nat) (h : i < 8) : ((byteOf n i).toNat : Int) = n / 2 ^ (8 * i) % 256 := by
  unfold byteOf
  rw [BitVec.toNat_setWidth, BitVec.toNat_ushiftRight, BitVec.toNat_ofInt, Nat.shiftRight_eq_div_pow]
  rcases i with _ | _ | _ | _ | _ | _ | _ | _ | i
  all_goals first | omega | (simp only [Nat.reduceMul, Nat.reduceAdd, Nat.reducePow, Int.reducePow]; omega)
/-- bytes with how many they are ahead -/
def blob (b : List B) : List B := num b.length ++ b
theorem blob_length (b : List B) : (blob b).length = 8 + b.length := by simp [blob, num_length]
structure Ent where
  term : Int
  kind : BitVec 8
  version : Int
  server : Int
  good : Bool
  data : List B
def flag (b : Bool) : Int := if b then 1 else 0
def ent (e : Ent) : List B := num e.term ++ num e.kind.toNat ++ num e.version ++ num e.server ++ num (flag e.good) ++ blob e.data
end Go.Proofs.Ytfpjmeknjhhakaa.M
