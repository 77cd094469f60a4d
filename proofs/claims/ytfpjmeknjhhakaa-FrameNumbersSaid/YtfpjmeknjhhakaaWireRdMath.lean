/- What is read of bytes, as plain Lean functions: a reader is what is left, or none (bad). -/
import Derived.Test.YtfpjmeknjhhakaaWireMath
namespace Go.Proofs.Ytfpjmeknjhhakaa.M
def w64 (l : List B) : U64 := l.foldl (fun a x => 256 * a + x.setWidth 64) 0
def val (l : List B) : Int := (w64 l).toInt
theorem w64_snoc (l : List B) (x : B) : w64 (l ++ [x]) = 256 * w64 l + x.setWidth 64 := by simp [w64, List.foldl_append]
theorem shift_or (a : U64) (x : B) : (a <<< 8) ||| x.setWidth 64 = 256 * a + x.setWidth 64 := by
  have h : (a <<< 8) &&& x.setWidth 64 = 0#64 := by
    apply BitVec.eq_of_getLsbD_eq
    intro i hi
    rw [BitVec.getLsbD_and, BitVec.getLsbD_shiftLeft, BitVec.getLsbD_setWidth]
    by_cases h : i < 8
    · simp [h]
    · rw [BitVec.getLsbD_of_ge x i (by omega)]; simp
  rw [← BitVec.add_eq_or_of_and_eq_zero _ _ h]
  congr 1
  apply BitVec.eq_of_toNat_eq
  rw [BitVec.toNat_shiftLeft, BitVec.toNat_mul, Nat.shiftLeft_eq, Nat.mul_comm]; rfl
theorem byteOf_nat (n : Int) (i : Nat) (h : i < 8) : (byteOf n i).toNat = (BitVec.ofInt 64 n).toNat / 2 ^ (8 * i) % 256 := by
  unfold byteOf
  rw [BitVec.toNat_setWidth, BitVec.toNat_ushiftRight, Nat.shiftRight_eq_div_pow]
theorem w64_step {a : U64} {x : B} {N p q : Nat} (ha : a.toNat = N / p) (hx : x.toNat = N / q % 256) (hp : p = q * 256) (hN : N < 18446744073709551616) : (256 * a + x.setWidth 64).toNat = N / q := by
  have h256 : (256 : U64).toNat = 256 := rfl
  rw [BitVec.toNat_add, BitVec.toNat_mul, BitVec.toNat_setWidth, ha, hx, h256, hp, ← Nat.div_div_eq_div_mul]
  have hm : N / q ≤ N := Nat.div_le_self _ _
  generalize N / q = m at *
  omega
theorem w64_num (n : Int) : w64 (num n) = BitVec.ofInt 64 n := by
  apply BitVec.eq_of_toNat_eq
  have hN := (BitVec.ofInt 64 n).isLt
  have e : num n = [byteOf n 7, byteOf n 6, byteOf n 5, byteOf n 4, byteOf n 3, byteOf n 2, byteOf n 1, byteOf n 0] := rfl
  have h0 : (0 : U64).toNat = (BitVec.ofInt 64 n).toNat / 2 ^ 64 := by
    rw [Nat.div_eq_of_lt hN]; rfl
  have s7 := w64_step h0 (byteOf_nat n 7 (by omega)) (by decide) hN
  have s6 := w64_step s7 (byteOf_nat n 6 (by omega)) (by decide) hN
  have s5 := w64_step s6 (byteOf_nat n 5 (by omega)) (by decide) hN
  have s4 := w64_step s5 (byteOf_nat n 4 (by omega)) (by decide) hN
  have s3 := w64_step s4 (byteOf_nat n 3 (by omega)) (by decide) hN
  have s2 := w64_step s3 (byteOf_nat n 2 (by omega)) (by decide) hN
  have s1 := w64_step s2 (byteOf_nat n 1 (by omega)) (by decide) hN
  have s0 := w64_step s1 (byteOf_nat n 0 (by omega)) (by decide) hN
  rw [e]
  simp only [w64, List.foldl_cons, List.foldl_nil]
  rw [s0]
  simp
theorem val_num (n : Int) (h0 : -9223372036854775808 ≤ n) (h1 : n ≤ 9223372036854775807) : val (num n) = n := by
  rw [val, w64_num, BitVec.toInt_ofInt]
  exact Int.bmod_eq_of_le (by omega) (by omega)
/-- a reader: what is left, or bad -/
abbrev Rdr := Option (List B)
def rdNumber : Rdr → Int × Rdr
  | none => (0, none)
  | some l => if l.length < 8 then (0, none) else (val (l.take 8), some (l.drop 8))
def rdBytes (s : Rdr) : List B × Rdr :=
  match rdNumber s with
  | (_, none) => ([], none)
  | (n, some l) => if n < 0 ∨ (l.length : Int) < n then ([], none) else (l.take n.toNat, some (l.drop n.toNat))
def zeroEnt : Ent := ⟨0, 0#8, 0, 0, false, []⟩
def rdEntry (s : Rdr) : Ent × Rdr :=
  let p1 := rdNumber s
  let p2 := rdNumber p1.2
  let p3 := rdNumber p2.2
  let p4 := rdNumber p3.2
  let p5 := rdNumber p4.2
  let p6 := rdBytes p5.2
  if p6.2 = none ∨ p2.1 < 0 ∨ 255 < p2.1 ∨ p5.1 < 0 ∨ 1 < p5.1 then (zeroEnt, none) else (⟨p1.1, BitVec.ofInt 8 p2.1, p3.1, p4.1, p5.1 == 1, p6.1⟩, p6.2)
end Go.Proofs.Ytfpjmeknjhhakaa.M
