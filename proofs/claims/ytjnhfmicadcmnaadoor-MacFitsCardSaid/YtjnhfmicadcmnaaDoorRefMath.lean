/- The reference's great numbers as plain Lean functions on words of 64 bits (limbs), step by step as its text goes. No program in sight. -/
import Derived.Test.YtjnhfmicadcmnaaDoorShaMath
namespace Go.Proofs.YtjnhfmicadcmnaaDoor.M

abbrev U := BitVec 64
def atU (l : List U) (i : Nat) : U := l.getD i 0
def mask : U := 4294967295

/-- one row of the product: k limbs of b done, out and what is carried over -/
def rowTo (ai : U) (b : List U) (i : Nat) (out : List U) : Nat → List U × U
  | 0 => (out, 0)
  | k + 1 =>
    let s := rowTo ai b i out k
    let x := atU s.1 (i + k) + ai * atU b k + s.2
    (s.1.set (i + k) (x &&& mask), x >>> 32)
/-- the product when i rows are done -/
def timesTo (a b : List U) : Nat → List U
  | 0 => List.replicate (a.length + b.length) 0
  | i + 1 =>
    let s := rowTo (atU a i) b i (timesTo a b i) b.length
    s.1.set (i + b.length) s.2
def times (a b : List U) : List U := timesTo a b a.length
theorem rowTo_length (ai : U) (b : List U) (i : Nat) (out : List U) (k : Nat) : (rowTo ai b i out k).1.length = out.length := by
  induction k with
  | zero => rfl
  | succ k ih => simp [rowTo, ih]
theorem timesTo_length (a b : List U) (i : Nat) : (timesTo a b i).length = a.length + b.length := by
  induction i with
  | zero => simp [timesTo]
  | succ i ih => simp [timesTo, rowTo_length, ih]

/-- is one above another one, from limb i - 1 down -/
def aboveFrom (a b : List U) : Nat → Bool
  | 0 => false
  | i + 1 => if atU a i ≠ atU b i then decide (atU b i < atU a i) else aboveFrom a b i
def above (a b : List U) : Bool := aboveFrom a b (max a.length b.length)

def limbs (x : U) : List U := [x &&& mask, x >>> 32]
/-- the power's limbs when so many products are done -/
def powTo (n : List U) : Nat → List U
  | 0 => n
  | i + 1 => times (powTo n i) n
def goal (p : U) (power : Nat) : List U := List.replicate power 0 ++ [p]
/-- the root when the bits from 36 down, so many of them, are done -/
def rootTo (p : U) (power : Nat) : Nat → U
  | 0 => 0
  | j + 1 =>
    let x := rootTo p power j
    let try' := x ||| ((1 : U) <<< (36 - j))
    if above (powTo (limbs try') (power - 1)) (goal p power) then x else try'
def root (p : U) (power : Nat) : U := rootTo p power 37 &&& mask

/-- is n prime: divisors from k on, so many of them at the most -/
def primeFrom (n : Nat) : Nat → Nat → Bool
  | 0, _ => decide (1 < n)
  | f + 1, k => if k * k ≤ n then (if n % k = 0 then false else primeFrom n f (k + 1)) else decide (1 < n)
def prime (n : Nat) : Bool := primeFrom n n 2
/-- the roots of the primes below p -/
def rootsTo (power : Nat) : Nat → List U
  | 0 => []
  | p + 1 => if prime p then rootsTo power p ++ [root (BitVec.ofNat 64 p) power] else rootsTo power p
theorem roots8 : rootsTo 2 20 = first.list.map (·.setWidth 64) := by decide +kernel
theorem roots64 : rootsTo 3 312 = kList.map (·.setWidth 64) := by decide +kernel
end Go.Proofs.YtjnhfmicadcmnaaDoor.M
