/- Merged: FrWords, FrMath, FrSum, FrFour, FrStart, FrCatch, Open, FrOpen, FrPutS, FrNumber. -/
import Derived.Test.YtfpjmeknjhhakaaSq5
import Derived.WalkLawsBesides
import Derived.Deep.RegionHeld3
import Derived.Deep.DeepCutAuto
import Derived.Laws.Pointers
import Derived.OpenShut
import Derived.ShutString
import Derived.ChangeOld
import Derived.Below
import Derived.Deep.Slices
import Derived.Deep.Fields
import Derived.Deep.DeepHandedRow
import Derived.LaidLaws
import Derived.SizedLaws
import Derived.Deep.RegionLaw
import Derived.Deep.QuietTactic
import Derived.BigQuiet
set_option linter.unusedVariables false
/- More laws on opaque words: unary minus, comparisons with constants, conversions. -/
namespace Go.Proofs.Ytfpjmeknjhhakaa.K
open Go Go.RowKit

theorem wrap_u32' (n : Int) : IntKind.u32.wrap n = n % 4294967296 := by simp [IntKind.wrap, IntKind.bits, IntKind.signed]
theorem W32_neg (x : BitVec 32) : Op.unary .neg (W32 x) = pure (W32 (-x)) := by
  have h : IntKind.u32.wrap (0 - (x.toNat : Int)) = ((-x).toNat : Int) := by
    rw [wrap_u32', BitVec.toNat_neg]
    have := x.isLt
    omega
  show Op.intArith .sub .u32 0 (x.toNat : Int) = _
  simp [Op.intArith]
  exact congrArg (fun z => (pure (Value.int .u32 z) : Sem Value)) (by simpa using h)
attribute [go_sem] W32_neg
section
variable {P : Program} (w : World) (src dst : TypeId)
theorem conv_W32_int (x : BitVec 32) (hs : P.underlying src = some (.int .u32)) (hd : P.underlying dst = some (.int .i64)) : (convert src dst (W32 x)).run P w = .ok (.int .i64 (x.toNat : Int)) w := by
  have h : IntKind.i64.wrap (x.toNat : Int) = (x.toNat : Int) := IntWalk.i64_in _ (by have := x.isLt; omega)
  simp [convert, run_underlying hs, run_underlying hd, Conv.intToInt, W32, h]
theorem conv_int_W32 (n : Nat) (hs : P.underlying src = some (.int .i64)) (hd : P.underlying dst = some (.int .u32)) : (convert src dst (.int .i64 (n : Int))).run P w = .ok (W32 (BitVec.ofNat 32 n)) w := by
  have h : IntKind.u32.wrap (n : Int) = ((BitVec.ofNat 32 n).toNat : Int) := wrap_u32_nat n
  simp [convert, run_underlying hs, run_underlying hd, Conv.intToInt, W32, h]
end
theorem W32_gtr_lit (t : TypeId) (x : BitVec 32) (k : Nat) (hk : k < 4294967296) : binOp .gtr t (W32 x) (.int .u32 (k : Int)) = pure (.bool (decide (k < x.toNat))) := by
  have e : Value.int .u32 (k : Int) = W32 (BitVec.ofNat 32 k) := by
    rw [W32, BitVec.toNat_ofNat, Nat.mod_eq_of_lt (by omega)]
  rw [e, W32_gtr]
  congr 2
  rw [decide_eq_decide, BitVec.lt_def, BitVec.toNat_ofNat, Nat.mod_eq_of_lt (by omega)]
end Go.Proofs.Ytfpjmeknjhhakaa.K

/- Frames, their sums and their scan as plain Lean functions, and what is known of them. No program in sight. -/
namespace Go.Proofs.Ytfpjmeknjhhakaa.F
abbrev W := BitVec 32
abbrev B := BitVec 8

def poly : W := 0x82F63B78#32
def cstep (w : W) : W := (w >>> 1) ^^^ (if w.getLsbD 0 then poly else 0#32)
def csteps : Nat → W → W
  | 0, w => w
  | n + 1, w => csteps n (cstep w)
def cbyte (w : W) (c : B) : W := csteps 8 (w ^^^ c.setWidth 32)
def crc (w : W) (bs : List B) : W := bs.foldl cbyte w
def fsum (bs : List B) : W := ~~~ crc (~~~0#32) bs

theorem cstep_xor (x y : W) : cstep (x ^^^ y) = cstep x ^^^ cstep y := by
  unfold cstep
  rw [BitVec.ushiftRight_xor_distrib, BitVec.getLsbD_xor]
  cases x.getLsbD 0 <;> cases y.getLsbD 0 <;> simp <;> apply BitVec.eq_of_getLsbD_eq <;> intro i _ <;> simp [BitVec.getLsbD_xor]
  all_goals (cases (x.getLsbD (1 + i)) <;> cases (y.getLsbD (1 + i)) <;> cases poly.getLsbD i <;> rfl)
theorem csteps_xor (n : Nat) (x y : W) : csteps n (x ^^^ y) = csteps n x ^^^ csteps n y := by
  induction n generalizing x y with
  | zero => rfl
  | succ n ih => rw [csteps, csteps, csteps, cstep_xor, ih]
theorem csteps_add (m n : Nat) (x : W) : csteps (m + n) x = csteps n (csteps m x) := by
  induction m generalizing x with
  | zero => simp [csteps]
  | succ m ih => rw [Nat.succ_add, csteps, csteps, ih]
theorem cstep_zero : cstep 0#32 = 0#32 := by decide
theorem csteps_zero (n : Nat) : csteps n 0#32 = 0#32 := by
  induction n with
  | zero => rfl
  | succ n ih => rw [csteps, cstep_zero, ih]
/-- the low bits all nought: a shift -/
theorem csteps_shift (n : Nat) (x : W) (h : ∀ i, i < n → x.getLsbD i = false) : csteps n x = x >>> n := by
  induction n generalizing x with
  | zero => simp [csteps]
  | succ n ih =>
    rw [csteps]
    have h0 : cstep x = x >>> 1 := by unfold cstep; rw [h 0 (by omega)]; simp
    rw [h0, ih]
    · rw [← BitVec.shiftRight_add]; congr 1; omega
    · intro i hi
      rw [BitVec.getLsbD_ushiftRight]; exact h (1 + i) (by omega)
/-- as the program does a byte -/
theorem cbyte_eq (w : W) (c : B) : cbyte w c = (w >>> 8) ^^^ csteps 8 ((w &&& 255#32) ^^^ c.setWidth 32) := by
  unfold cbyte
  have e : w ^^^ c.setWidth 32 = (w &&& ~~~255#32) ^^^ ((w &&& 255#32) ^^^ c.setWidth 32) := by
    rw [← BitVec.xor_assoc]; congr 1
    apply BitVec.eq_of_getLsbD_eq; intro i hi
    simp only [BitVec.getLsbD_xor, BitVec.getLsbD_and, BitVec.getLsbD_not]
    cases w.getLsbD i <;> cases (255#32).getLsbD i <;> simp [hi]
  rw [e, csteps_xor]
  congr 1
  rw [csteps_shift]
  · apply BitVec.eq_of_getLsbD_eq; intro i hi
    rw [BitVec.getLsbD_ushiftRight, BitVec.getLsbD_ushiftRight, BitVec.getLsbD_and, BitVec.getLsbD_not]
    by_cases h : 8 + i < 32
    · have h2 : (255#32).getLsbD (8 + i) = false := by
        have : i < 24 := by omega
        revert i; decide
      rw [h2]; simp [h]
    · rw [BitVec.getLsbD_of_ge w _ (by omega)]; simp
  · intro i hi
    rw [BitVec.getLsbD_and, BitVec.getLsbD_not]
    have h2 : (255#32).getLsbD i = true := by revert i; decide
    simp [h2]
theorem and_neg_one (w : W) : poly &&& -(w &&& 1#32) = if w.getLsbD 0 then poly else 0#32 := by
  have h : w &&& 1#32 = if w.getLsbD 0 then 1#32 else 0#32 := by
    apply BitVec.eq_of_getLsbD_eq; intro i hi
    rw [BitVec.getLsbD_and]
    cases i with
    | zero => cases w.getLsbD 0 <;> simp
    | succ i =>
      have : (1#32).getLsbD (i + 1) = false := by simp [BitVec.getLsbD_one]
      rw [this]; cases w.getLsbD 0 <;> simp [BitVec.getLsbD_one]
  rw [h]; cases w.getLsbD 0
  · simp
  · simp; decide
theorem cstep_eq (w : W) : (w >>> 1) ^^^ (poly &&& -(w &&& 1#32)) = cstep w := by rw [and_neg_one]; rfl
theorem crc_append (w : W) (a b : List B) : crc w (a ++ b) = crc (crc w a) b := by simp [crc]
theorem crc_cons (w : W) (c : B) (b : List B) : crc w (c :: b) = crc (cbyte w c) b := rfl

/-! ### errors -/
theorem poly_top : poly.getLsbD 31 = true := by decide
theorem cstep_inj (x : W) (h : cstep x = 0#32) : x = 0#32 := by
  have h31 : (cstep x).getLsbD 31 = x.getLsbD 0 := by
    unfold cstep
    rw [BitVec.getLsbD_xor, BitVec.getLsbD_ushiftRight, BitVec.getLsbD_of_ge x 32 (by omega)]
    cases x.getLsbD 0 <;> simp [poly_top]
  rw [h] at h31
  have h0 : x.getLsbD 0 = false := by rw [← h31]; simp
  have h1 : cstep x = x >>> 1 := by unfold cstep; rw [h0]; simp
  rw [h1] at h
  apply BitVec.eq_of_getLsbD_eq; intro i hi
  cases i with
  | zero => rw [h0]; simp
  | succ i =>
    have : (x >>> 1).getLsbD i = false := by rw [h]; simp
    rw [BitVec.getLsbD_ushiftRight, Nat.add_comm] at this
    rw [this]; simp
theorem csteps_ne (n : Nat) (x : W) (h : x ≠ 0#32) : csteps n x ≠ 0#32 := by
  induction n generalizing x with
  | zero => exact h
  | succ n ih => rw [csteps]; exact ih _ fun e => h (cstep_inj x e)
/-- bits, one by one -/
def bit (b : Bool) : W := if b then 1#32 else 0#32
def feed (w : W) (l : List Bool) : W := l.foldl (fun w b => cstep (w ^^^ bit b)) w
theorem feed_append (w : W) (a b : List Bool) : feed w (a ++ b) = feed (feed w a) b := by simp [feed]
def bitsOf (c : B) : List Bool := (List.range 8).map fun i => c.getLsbD i
/-- the low k bits of a word fed one by one: the word put on at once, and k steps, if nothing else stands above -/
theorem feed_word (k : Nat) (w x : W) (hx : ∀ i, k ≤ i → x.getLsbD i = false) : feed w ((List.range k).map fun i => x.getLsbD i) = csteps k (w ^^^ x) := by
  induction k generalizing w x with
  | zero =>
    have : x = 0#32 := by apply BitVec.eq_of_getLsbD_eq; intro i _; rw [hx i (by omega)]; simp
    subst this; simp [feed, csteps]
  | succ k ih =>
    rw [List.range_succ_eq_map, List.map_cons, List.map_map]
    show feed (cstep (w ^^^ bit (x.getLsbD 0))) _ = _
    have e : ((fun i => x.getLsbD i) ∘ Nat.succ) = fun i => (x >>> 1).getLsbD i := by
      funext i; simp only [Function.comp, BitVec.getLsbD_ushiftRight]; congr 1; omega
    rw [e, ih]
    · rw [csteps]
      congr 1
      have ex : x = bit (x.getLsbD 0) ^^^ (x &&& ~~~1#32) := by
        apply BitVec.eq_of_getLsbD_eq; intro i hi
        rw [BitVec.getLsbD_xor, BitVec.getLsbD_and, BitVec.getLsbD_not]
        cases i with
        | zero => unfold bit; cases x.getLsbD 0 <;> simp
        | succ i => unfold bit; cases x.getLsbD 0 <;> simp [hi]
      have e2 : cstep (x &&& ~~~1#32) = x >>> 1 := by
        unfold cstep
        rw [show (x &&& ~~~1#32).getLsbD 0 = false by simp]
        simp only [Bool.false_eq_true, if_false, BitVec.xor_zero]
        apply BitVec.eq_of_getLsbD_eq; intro i hi
        rw [BitVec.getLsbD_ushiftRight, BitVec.getLsbD_ushiftRight, BitVec.getLsbD_and, BitVec.getLsbD_not]
        by_cases h : 1 + i < 32
        · simp [h]
        · simp [h]; rw [BitVec.getLsbD_of_ge x _ (by omega)]
      conv => rhs; rw [ex, ← BitVec.xor_assoc, cstep_xor, e2]
    · intro i hi
      rw [BitVec.getLsbD_ushiftRight]; exact hx _ (by omega)
theorem cbyte_feed (w : W) (c : B) : cbyte w c = feed w (bitsOf c) := by
  unfold cbyte bitsOf
  rw [← feed_word 8 w (c.setWidth 32)]
  · have e : ((List.range 8).map fun i => (c.setWidth 32).getLsbD i) = (List.range 8).map fun i => c.getLsbD i := by
      apply List.map_congr_left; intro i hi
      rw [BitVec.getLsbD_setWidth]; simp at hi; simp [show i < 32 by omega]
    rw [e]
  · intro i hi
    rw [BitVec.getLsbD_setWidth, BitVec.getLsbD_of_ge c i hi]; simp
theorem crc_feed (w : W) (bs : List B) : crc w bs = feed w (bs.flatMap bitsOf) := by
  induction bs generalizing w with
  | nil => rfl
  | cons c bs ih => rw [crc_cons, List.flatMap_cons, feed_append, ← cbyte_feed, ih]
theorem feed_xor (l e : List Bool) (h : l.length = e.length) (w v : W) : feed (w ^^^ v) (List.zipWith xor l e) = feed w l ^^^ feed v e := by
  induction l generalizing e w v with
  | nil => cases e with
    | nil => rfl
    | cons _ _ => simp at h
  | cons a l ih => cases e with
    | nil => simp at h
    | cons b e =>
      show feed (cstep ((w ^^^ v) ^^^ bit (xor a b))) (List.zipWith xor l e) = feed (cstep (w ^^^ bit a)) l ^^^ feed (cstep (v ^^^ bit b)) e
      rw [← ih e (by simpa using h), ← cstep_xor]
      congr 2
      have : bit (xor a b) = bit a ^^^ bit b := by cases a <;> cases b <;> simp [bit]
      rw [this]
      apply BitVec.eq_of_getLsbD_eq; intro i _
      simp only [BitVec.getLsbD_xor]
      cases w.getLsbD i <;> cases v.getLsbD i <;> cases (bit a).getLsbD i <;> cases (bit b).getLsbD i <;> rfl
theorem feed_noughts (n : Nat) (w : W) : feed w (List.replicate n false) = csteps n w := by
  induction n generalizing w with
  | zero => rfl
  | succ n ih => rw [List.replicate_succ]; show feed (cstep (w ^^^ bit false)) _ = _; rw [ih, csteps]; simp [bit]
theorem feed_burst (a c : Nat) (t : W) (h : t ≠ 0#32) : feed 0#32 (List.replicate a false ++ ((List.range 32).map fun i => t.getLsbD i) ++ List.replicate c false) ≠ 0#32 := by
  rw [feed_append, feed_append, feed_noughts c, feed_noughts a, csteps_zero, feed_word 32 _ t (fun i hi => BitVec.getLsbD_of_ge t i hi)]
  refine csteps_ne _ _ (csteps_ne _ _ ?_)
  simpa using h

/-! ### frames -/
structure Fr where
  kind : Int
  data : List B
deriving DecidableEq
def be4 (n : W) : List B := [(n >>> 24).setWidth 8, (n >>> 16).setWidth 8, (n >>> 8).setWidth 8, n.setWidth 8]
def of4 (a b c d : B) : W := (a.setWidth 32 <<< 24) ||| (b.setWidth 32 <<< 16) ||| (c.setWidth 32 <<< 8) ||| d.setWidth 32
def num4 (l : List B) : W := of4 (l.getD 0 0) (l.getD 1 0) (l.getD 2 0) (l.getD 3 0)
theorem be4_length (n : W) : (be4 n).length = 4 := rfl
theorem of4_be4 (n : W) : of4 ((n >>> 24).setWidth 8) ((n >>> 16).setWidth 8) ((n >>> 8).setWidth 8) (n.setWidth 8) = n := by
  unfold of4
  apply BitVec.eq_of_getLsbD_eq; intro i hi
  simp only [BitVec.getLsbD_or, BitVec.getLsbD_shiftLeft, BitVec.getLsbD_setWidth, BitVec.getLsbD_ushiftRight]
  by_cases h1 : i < 8
  · simp [hi, h1, show i < 16 by omega, show i < 24 by omega]
  · by_cases h2 : i < 16
    · simp [hi, h1, h2, show i < 24 by omega, show i - 8 < 32 by omega, show i - 8 < 8 by omega, show 8 + (i - 8) = i by omega]
    · by_cases h3 : i < 24
      · simp [hi, h1, h2, h3, show i - 16 < 32 by omega, show i - 16 < 8 by omega, show 16 + (i - 16) = i by omega, show ¬ (i - 8 < 8) by omega]
      · simp [hi, h1, h2, h3, show i - 24 < 32 by omega, show i - 24 < 8 by omega, show 24 + (i - 24) = i by omega, show ¬ (i - 8 < 8) by omega, show ¬ (i - 16 < 8) by omega]
theorem be4_of4 (a b c d : B) : be4 (of4 a b c d) = [a, b, c, d] := by
  unfold be4 of4
  have key : ∀ x : B, ∀ i, 8 ≤ i → x.getLsbD i = false := fun x i hi => BitVec.getLsbD_of_ge x i hi
  congr 1
  · apply BitVec.eq_of_getLsbD_eq; intro i hi
    simp only [BitVec.getLsbD_or, BitVec.getLsbD_shiftLeft, BitVec.getLsbD_setWidth, BitVec.getLsbD_ushiftRight]
    simp [hi, show 24 + i < 32 by omega, show ¬ (24 + i < 24) by omega, key _ (24 + i - 16) (by omega), key _ (24 + i - 8) (by omega), key _ (24 + i) (by omega)]
    intro h; omega
  congr 1
  · apply BitVec.eq_of_getLsbD_eq; intro i hi
    simp only [BitVec.getLsbD_or, BitVec.getLsbD_shiftLeft, BitVec.getLsbD_setWidth, BitVec.getLsbD_ushiftRight]
    simp [hi, show 16 + i < 32 by omega, show (16 + i < 24) by omega, key _ (16 + i - 8) (by omega), key _ (16 + i) (by omega), show ¬ (16 + i < 16) by omega, show i < 32 by omega]
  congr 1
  · apply BitVec.eq_of_getLsbD_eq; intro i hi
    simp only [BitVec.getLsbD_or, BitVec.getLsbD_shiftLeft, BitVec.getLsbD_setWidth, BitVec.getLsbD_ushiftRight]
    simp [hi, show 8 + i < 32 by omega, show (8 + i < 24) by omega, show (8 + i < 16) by omega, show ¬ (8 + i < 8) by omega, show i < 32 by omega]
  congr 1
  · apply BitVec.eq_of_getLsbD_eq; intro i hi
    simp only [BitVec.getLsbD_or, BitVec.getLsbD_shiftLeft, BitVec.getLsbD_setWidth]
    simp [hi, show i < 24 by omega, show i < 16 by omega, show i < 32 by omega]
theorem num4_be4 (n : W) (r : List B) : num4 (be4 n ++ r) = n := of4_be4 n
theorem be4_num4 (l : List B) (h : 4 ≤ l.length) : be4 (num4 l) = l.take 4 := by
  match l, h with
  | a :: b :: c :: d :: r, _ => exact be4_of4 a b c d
/-- as the program adds up a number -/
theorem of4_loop (a b c d : B) : (((((0#32 <<< 8 ||| a.setWidth 32) <<< 8 ||| b.setWidth 32) <<< 8) ||| c.setWidth 32) <<< 8) ||| d.setWidth 32 = of4 a b c d := by
  unfold of4
  simp only [BitVec.shiftLeft_or_distrib, ← BitVec.shiftLeft_add, Nat.reduceAdd]
  simp

def five (f : Fr) : List B := BitVec.ofInt 8 f.kind :: be4 (BitVec.ofNat 32 f.data.length)
def one (f : Fr) : List B := five f ++ (be4 (fsum (five f ++ f.data)) ++ f.data)
theorem five_length (f : Fr) : (five f).length = 5 := rfl
theorem one_length (f : Fr) : (one f).length = 9 + f.data.length := by simp [one, five_length, be4_length]; omega
def errOf (f : Fr) : Nat := if f.kind < 0 ∨ 255 < f.kind then 2 else if 262144 < f.data.length then 3 else 0
theorem errOf_ok (f : Fr) : errOf f = 0 ↔ 0 ≤ f.kind ∧ f.kind ≤ 255 ∧ f.data.length ≤ 262144 := by
  unfold errOf; split
  · constructor
    · intro h; cases h
    · omega
  · split
    · constructor
      · intro h; cases h
      · omega
    · constructor
      · intro _; omega
      · intro _; rfl
def perr : List Fr → Nat
  | [] => 0
  | f :: l => if errOf f = 0 then perr l else errOf f
def pbytes (l : List Fr) : List B := l.flatMap one
theorem pbytes_cons (f : Fr) (l : List Fr) : pbytes (f :: l) = one f ++ pbytes l := rfl
theorem pbytes_append (a b : List Fr) : pbytes (a ++ b) = pbytes a ++ pbytes b := by simp [pbytes]
theorem perr_zero (l : List Fr) : perr l = 0 ↔ ∀ f ∈ l, errOf f = 0 := by
  induction l with
  | nil => simp [perr]
  | cons f l ih =>
    rw [perr]
    by_cases h : errOf f = 0
    · rw [if_pos h]; simp [h, ih]
    · rw [if_neg h]; simp [h]
theorem perr_append (a b : List Fr) (h : perr a = 0) : perr (a ++ b) = perr b := by
  induction a with
  | nil => rfl
  | cons f a ih =>
    rw [perr] at h
    by_cases hf : errOf f = 0
    · rw [if_pos hf] at h; rw [List.cons_append, perr, if_pos hf, ih h]
    · rw [if_neg hf] at h; exact absurd h hf

/-! ### the scan -/
/-- the first frame, if it is there whole; and whether it is spoilt -/
def first (l : List B) : Option Fr × Bool :=
  if l.length < 9 then (none, false)
  else if 262144 < (num4 (l.drop 1)).toNat then (none, true)
  else if l.length < 9 + (num4 (l.drop 1)).toNat then (none, false)
  else if num4 (l.drop 5) = fsum (l.take 5 ++ (l.drop 9).take (num4 (l.drop 1)).toNat) then (some ⟨((l.getD 0 0).toNat : Int), (l.drop 9).take (num4 (l.drop 1)).toNat⟩, false)
  else (none, true)
def scanF : Nat → List B → List Fr × Nat × Bool
  | 0, l => ([], 0, (first l).2)
  | n + 1, l => match first l with
    | (none, s) => ([], 0, s)
    | (some f, _) => (f :: (scanF n (l.drop (9 + f.data.length))).1, 9 + f.data.length + (scanF n (l.drop (9 + f.data.length))).2.1, (scanF n (l.drop (9 + f.data.length))).2.2)
theorem take5 (l : List B) (h : 9 ≤ l.length) : l.getD 0 0 :: (l.drop 1).take 4 = l.take 5 := by
  cases l with
  | nil => simp at h
  | cons a b => simp
theorem first_some {l : List B} {f : Fr} {s : Bool} (h : first l = (some f, s)) : errOf f = 0 ∧ one f = l.take (9 + f.data.length) ∧ 9 + f.data.length ≤ l.length ∧ s = false := by
  unfold first at h
  obtain ⟨w, hw⟩ : ∃ w, w = num4 (l.drop 1) := ⟨_, rfl⟩
  rw [← hw] at h
  obtain ⟨n, hn⟩ : ∃ n, n = w.toNat := ⟨_, rfl⟩
  rw [← hn] at h
  by_cases h1 : l.length < 9
  · rw [if_pos h1] at h; cases h
  rw [if_neg h1] at h
  by_cases h2 : 262144 < n
  · rw [if_pos h2] at h; cases h
  rw [if_neg h2] at h
  by_cases h3 : l.length < 9 + n
  · rw [if_pos h3] at h; cases h
  rw [if_neg h3] at h
  by_cases h4 : num4 (l.drop 5) = fsum (l.take 5 ++ (l.drop 9).take n)
  · rw [if_pos h4] at h
    simp only [Prod.mk.injEq, Option.some.injEq] at h
    obtain ⟨h, rfl⟩ := h
    have hl : ((l.drop 9).take n).length = n := by rw [List.length_take, List.length_drop]; omega
    have hfd : f.data = (l.drop 9).take n := by rw [← h]
    have hfk : f.kind = ((l.getD 0 0).toNat : Int) := by rw [← h]
    have hfl : f.data.length = n := by rw [hfd, hl]
    have hb := (l.getD 0 0).isLt
    have hw2 : BitVec.ofNat 32 n = w := by rw [hn]; simp
    have h5 : five f = l.take 5 := by
      unfold five
      rw [hfl, hfk, BitVec.ofInt_natCast, hw2, hw, be4_num4 _ (by rw [List.length_drop]; omega), BitVec.ofNat_toNat, BitVec.setWidth_eq]
      exact take5 l (by omega)
    refine ⟨(errOf_ok _).2 ⟨by rw [hfk]; omega, by rw [hfk]; omega, by rw [hfl]; omega⟩, ?_, by rw [hfl]; omega, rfl⟩
    unfold one
    rw [h5, hfl, hfd, ← h4, be4_num4 _ (by rw [List.length_drop]; omega), ← List.append_assoc]
    rw [show l.take 5 ++ (l.drop 5).take 4 = l.take 9 from (List.take_add (l := l) (i := 5) (j := 4)).symm, ← List.take_add]
  · rw [if_neg h4] at h; cases h
theorem first_one {f : Fr} (h : errOf f = 0) (r : List B) : first (one f ++ r) = (some f, false) := by
  obtain ⟨h0, h1, h2⟩ := (errOf_ok f).1 h
  have e1 : (one f ++ r).drop 1 = be4 (BitVec.ofNat 32 f.data.length) ++ (be4 (fsum (five f ++ f.data)) ++ (f.data ++ r)) := by simp [one, five]
  have e5 : (one f ++ r).drop 5 = be4 (fsum (five f ++ f.data)) ++ (f.data ++ r) := by simp [one, five, be4]
  have e9 : (one f ++ r).drop 9 = f.data ++ r := by simp [one, five, be4]
  have et : (one f ++ r).take 5 = five f := by simp [one, five, be4]
  have e0 : (one f ++ r).getD 0 0 = BitVec.ofInt 8 f.kind := by simp [one, five]
  have hn : (BitVec.ofNat 32 f.data.length).toNat = f.data.length := by rw [BitVec.toNat_ofNat]; omega
  unfold first
  rw [e1, num4_be4, hn, e5, num4_be4, e9, et, e0, List.length_append, one_length, if_neg (by omega), if_neg (by omega), if_neg (by omega), List.take_left, if_pos rfl]
  congr 2
  have : ((BitVec.ofInt 8 f.kind).toNat : Int) = f.kind := by
    rw [BitVec.toNat_ofInt]; omega
  rw [this]
theorem first_cut {f : Fr} (h : errOf f = 0) (k : Nat) (hk : k < (one f).length) : first ((one f).take k) = (none, false) := by
  obtain ⟨h0, h1, h2⟩ := (errOf_ok f).1 h
  rw [one_length] at hk
  unfold first
  have hl : ((one f).take k).length = k := by rw [List.length_take, one_length]; omega
  rw [hl]
  by_cases h9 : k < 9
  · rw [if_pos h9]
  · have e1 : num4 (((one f).take k).drop 1) = BitVec.ofNat 32 f.data.length := by
      have e : ((one f).take k).drop 1 = be4 (BitVec.ofNat 32 f.data.length) ++ ((be4 (fsum (five f ++ f.data)) ++ f.data).take (k - 5)) := by
        rw [List.drop_take]
        have : (one f).drop 1 = be4 (BitVec.ofNat 32 f.data.length) ++ (be4 (fsum (five f ++ f.data)) ++ f.data) := by simp [one, five]
        rw [this, List.take_append, be4_length, List.take_of_length_le (by rw [be4_length]; omega)]; congr 2
      rw [e, num4_be4]
    have hn : (BitVec.ofNat 32 f.data.length).toNat = f.data.length := by rw [BitVec.toNat_ofNat]; omega
    rw [if_neg h9, e1, hn, if_neg (by omega), if_pos (by omega)]

def scan (l : List B) : List Fr × Nat × Bool := scanF l.length l
theorem scanF_fuel (n m : Nat) (l : List B) (hn : l.length ≤ n) (hm : l.length ≤ m) : scanF n l = scanF m l := by
  induction n generalizing m l with
  | zero =>
    obtain rfl : l = [] := List.length_eq_zero_iff.1 (by omega)
    cases m with
    | zero => rfl
    | succ m => simp [scanF, first]
  | succ n ih =>
    cases m with
    | zero =>
      obtain rfl : l = [] := List.length_eq_zero_iff.1 (by omega)
      simp [scanF, first]
    | succ m =>
      rw [scanF, scanF]
      cases hf : first l with
      | mk o s =>
        cases o with
        | none => rfl
        | some f =>
          have := (first_some hf).2.2.1
          show (f :: (scanF n _).1, _ + (scanF n _).2.1, (scanF n _).2.2) = _
          rw [ih m (l.drop (9 + f.data.length)) (by rw [List.length_drop]; omega) (by rw [List.length_drop]; omega)]
theorem scan_none {l : List B} {s : Bool} (h : first l = (none, s)) : scan l = ([], 0, s) := by
  unfold scan
  cases hl : l.length with
  | zero => rw [scanF, h]
  | succ n => rw [scanF, h]
theorem scan_some {l : List B} {f : Fr} {s : Bool} (h : first l = (some f, s)) : scan l = (f :: (scan (l.drop (9 + f.data.length))).1, 9 + f.data.length + (scan (l.drop (9 + f.data.length))).2.1, (scan (l.drop (9 + f.data.length))).2.2) := by
  have h9 := (first_some h).2.2.1
  unfold scan
  obtain ⟨n, hn⟩ : ∃ n, l.length = n + 1 := ⟨l.length - 1, by omega⟩
  rw [hn, scanF, h]
  show (f :: (scanF n _).1, _ + (scanF n _).2.1, (scanF n _).2.2) = _
  rw [scanF_fuel n (l.drop (9 + f.data.length)).length (l.drop (9 + f.data.length)) (by rw [List.length_drop]; omega) (by omega)]
theorem scan_nil : scan [] = ([], 0, false) := rfl
theorem scan_put (fs : List Fr) (h : perr fs = 0) (r : List B) : scan (pbytes fs ++ r) = (fs ++ (scan r).1, (pbytes fs).length + (scan r).2.1, (scan r).2.2) := by
  induction fs with
  | nil => simp [pbytes]
  | cons f fs ih =>
    rw [perr] at h
    by_cases hf : errOf f = 0
    · rw [if_pos hf] at h
      rw [pbytes_cons, List.append_assoc, scan_some (first_one hf _), ← one_length, List.drop_left, ih h]
      simp [Nat.add_assoc]
    · rw [if_neg hf] at h; exact absurd h hf
theorem scan_back (n : Nat) (b : List B) (hn : b.length ≤ n) : perr (scan b).1 = 0 ∧ pbytes (scan b).1 = b.take (scan b).2.1 ∧ (scan b).2.1 ≤ b.length := by
  induction n generalizing b with
  | zero =>
    obtain rfl : b = [] := List.length_eq_zero_iff.1 (by omega)
    exact ⟨rfl, rfl, Nat.le_refl _⟩
  | succ n ih =>
    cases hf : first b with
    | mk o s =>
      cases o with
      | none => rw [scan_none hf]; exact ⟨rfl, rfl, Nat.zero_le _⟩
      | some f =>
        obtain ⟨h1, h2, h3, _⟩ := first_some hf
        obtain ⟨i1, i2, i3⟩ := ih (b.drop (9 + f.data.length)) (by rw [List.length_drop]; omega)
        rw [List.length_drop] at i3
        rw [scan_some hf]
        refine ⟨by show perr (f :: _) = 0; rw [perr, if_pos h1, i1], ?_, by show _ + _ ≤ _; omega⟩
        show pbytes (f :: _) = b.take (_ + _)
        rw [pbytes_cons, i2, h2, ← List.take_add]
theorem scan_cut (fs : List Fr) (h : perr fs = 0) (cut k : Nat) (hk : k ≤ fs.length) (hc : (pbytes (fs.take k)).length ≤ cut) (hn : (hl : k < fs.length) → cut < (pbytes (fs.take k)).length + 9 + fs[k].data.length) :
    scan ((pbytes fs).take cut) = (fs.take k, (pbytes (fs.take k)).length, false) := by
  have hz := (perr_zero fs).1 h
  have hk0 : perr (fs.take k) = 0 := (perr_zero _).2 fun f hf => hz f (List.mem_of_mem_take hf)
  have e : (pbytes fs).take cut = pbytes (fs.take k) ++ (pbytes (fs.drop k)).take (cut - (pbytes (fs.take k)).length) := by
    conv => lhs; rw [← List.take_append_drop k fs, pbytes_append, List.take_append, List.take_of_length_le hc]
  have hs : scan ((pbytes (fs.drop k)).take (cut - (pbytes (fs.take k)).length)) = ([], 0, false) := by
    by_cases hl : k < fs.length
    · have hd : fs.drop k = fs[k] :: fs.drop (k + 1) := List.drop_eq_getElem_cons hl
      have h1 := one_length fs[k]
      have h2 := hn hl
      rw [hd, pbytes_cons, List.take_append_of_le_length (by omega)]
      exact scan_none (first_cut (hz _ (List.getElem_mem _)) _ (by omega))
    · rw [List.drop_of_length_le (by omega)]
      simp [pbytes, scan_nil]
  rw [e, scan_put _ hk0, hs]
  simp
theorem scan_spoilt (fs : List Fr) (h : perr fs = 0) (f : Fr) (hf : errOf f = 0) (d : List B) (hd : d.length = f.data.length) (hs : fsum (five f ++ d) ≠ fsum (five f ++ f.data)) (r : List B) :
    scan (pbytes fs ++ (five f ++ (be4 (fsum (five f ++ f.data)) ++ d) ++ r)) = (fs, (pbytes fs).length, true) := by
  have h2 := ((errOf_ok f).1 hf).2.2
  have e1 : (five f ++ (be4 (fsum (five f ++ f.data)) ++ d) ++ r).drop 1 = be4 (BitVec.ofNat 32 f.data.length) ++ (be4 (fsum (five f ++ f.data)) ++ (d ++ r)) := by simp [five]
  have e5 : (five f ++ (be4 (fsum (five f ++ f.data)) ++ d) ++ r).drop 5 = be4 (fsum (five f ++ f.data)) ++ (d ++ r) := by simp [five, be4]
  have e9 : (five f ++ (be4 (fsum (five f ++ f.data)) ++ d) ++ r).drop 9 = d ++ r := by simp [five, be4]
  have et : (five f ++ (be4 (fsum (five f ++ f.data)) ++ d) ++ r).take 5 = five f := by simp [five, be4]
  have el : (five f ++ (be4 (fsum (five f ++ f.data)) ++ d) ++ r).length = 9 + f.data.length + r.length := by simp [five, be4, hd]; omega
  have hn : (BitVec.ofNat 32 f.data.length).toNat = f.data.length := by rw [BitVec.toNat_ofNat]; omega
  have hff : first (five f ++ (be4 (fsum (five f ++ f.data)) ++ d) ++ r) = (none, true) := by
    unfold first
    rw [e1, num4_be4, hn, e5, num4_be4, e9, et, el, if_neg (by omega), if_neg (by omega), if_neg (by omega), ← hd, List.take_left, if_neg (Ne.symm hs)]
  rw [scan_put _ h, scan_none hff]
  simp

/-! ### bits turned -/
def bitAt (l : List B) (i : Nat) : Bool := (l.getD (i / 8) 0).getLsbD (i % 8)
theorem bits_eq (l : List B) : l.flatMap bitsOf = (List.range (8 * l.length)).map (bitAt l) := by
  induction l with
  | nil => rfl
  | cons c l ih =>
    rw [List.flatMap_cons, ih, List.length_cons, show 8 * (l.length + 1) = 8 + 8 * l.length by omega, List.range_add, List.map_append, List.map_map]
    have h1 : bitsOf c = (List.range 8).map (bitAt (c :: l)) := by
      unfold bitsOf
      apply List.map_congr_left; intro i hi
      simp at hi
      unfold bitAt
      rw [show i / 8 = 0 by omega, show i % 8 = i by omega]; rfl
    rw [h1]
    congr 1
    · apply List.map_congr_left; intro i _
      unfold bitAt
      simp only [Function.comp]
      rw [show (8 + i) / 8 = i / 8 + 1 by omega, show (8 + i) % 8 = i % 8 by omega]
      rfl
def flip (l : List B) (p : Nat) : List B := l.set (p / 8) (l.getD (p / 8) 0 ^^^ (1#8 <<< (p % 8)))
theorem flip_length (l : List B) (p : Nat) : (flip l p).length = l.length := by simp [flip]
theorem one_bit (p i : Nat) (hi : i < 8) : (1#8 <<< p).getLsbD i = decide (i = p) := by
  rw [BitVec.getLsbD_shiftLeft, BitVec.getLsbD_one]
  by_cases h : i = p
  · subst h; simp [hi]
  · by_cases h2 : i < p
    · simp [h, h2]
    · simp [h]; intro _ _; omega
theorem bitAt_flip (l : List B) (p i : Nat) (hp : p / 8 < l.length) : bitAt (flip l p) i = xor (bitAt l i) (decide (i = p)) := by
  unfold bitAt flip
  rw [List.getD_eq_getElem?_getD, List.getElem?_set]
  by_cases h : p / 8 = i / 8
  · rw [if_pos h, if_pos hp, Option.getD_some, BitVec.getLsbD_xor, h, one_bit _ _ (by omega)]
    congr 1
    by_cases h2 : i = p
    · simp [h2]
    · rw [decide_eq_false h2, decide_eq_false (by omega)]
  · rw [if_neg h, decide_eq_false (show ¬ i = p from fun e => h (by rw [e])), ← List.getD_eq_getElem?_getD]; simp
/-- the first k of 32 bits from `a` on, those of t turned -/
def turn (l : List B) (a : Nat) (t : W) : Nat → List B
  | 0 => l
  | k + 1 => if t.getLsbD k then flip (turn l a t k) (a + k) else turn l a t k
theorem turn_length (l : List B) (a : Nat) (t : W) (k : Nat) : (turn l a t k).length = l.length := by
  induction k with
  | zero => rfl
  | succ k ih => rw [turn]; split <;> simp [flip_length, ih]
theorem bitAt_turn (l : List B) (a : Nat) (t : W) (k i : Nat) (h : a + k ≤ 8 * l.length) : bitAt (turn l a t k) i = xor (bitAt l i) (decide (a ≤ i ∧ i < a + k) && t.getLsbD (i - a)) := by
  induction k with
  | zero => rw [turn, decide_eq_false (by omega)]; simp
  | succ k ih =>
    rw [turn]
    split
    · rename_i ht
      rw [bitAt_flip _ _ _ (by rw [turn_length]; omega), ih (by omega)]
      by_cases e : i = a + k
      · subst e
        rw [decide_eq_false (show ¬ (a ≤ a + k ∧ a + k < a + k) by omega), decide_eq_true (show a ≤ a + k ∧ a + k < a + (k + 1) by omega), show a + k - a = k by omega, ht]; simp
      · rw [decide_eq_false e]
        have : decide (a ≤ i ∧ i < a + k) = decide (a ≤ i ∧ i < a + (k + 1)) := by
          rw [decide_eq_decide]; omega
        rw [this]; simp
    · rename_i ht
      rw [ih (by omega)]
      by_cases e : i = a + k
      · subst e
        rw [show a + k - a = k by omega]
        simp only [Bool.not_eq_true] at ht
        rw [ht]; simp
      · have : decide (a ≤ i ∧ i < a + k) = decide (a ≤ i ∧ i < a + (k + 1)) := by
          rw [decide_eq_decide]; omega
        rw [this]
def errs (n a : Nat) (t : W) : List Bool := List.replicate a false ++ ((List.range 32).map fun i => t.getLsbD i) ++ List.replicate (n - a - 32) false
theorem bits_turn (l : List B) (a : Nat) (t : W) (h : a + 32 ≤ 8 * l.length) : (turn l a t 32).flatMap bitsOf = List.zipWith xor (l.flatMap bitsOf) (errs (8 * l.length) a t) := by
  rw [bits_eq, bits_eq, turn_length]
  apply List.ext_getElem?
  intro i
  by_cases hi : i < 8 * l.length
  · rw [List.getElem?_zipWith, List.getElem?_map, List.getElem?_map, List.getElem?_range hi]
    simp only [Option.map_some]
    have he : (errs (8 * l.length) a t)[i]? = some (decide (a ≤ i ∧ i < a + 32) && t.getLsbD (i - a)) := by
      unfold errs
      by_cases h1 : i < a
      · rw [List.append_assoc, List.getElem?_append_left (by simpa using h1), List.getElem?_replicate, if_pos h1, decide_eq_false (by omega)]; rfl
      · by_cases h2 : i < a + 32
        · rw [List.getElem?_append_left (by simp; omega), List.getElem?_append_right (by simp; omega), List.getElem?_map, List.length_replicate, List.getElem?_range (by omega), decide_eq_true (by omega)]
          simp
        · rw [List.getElem?_append_right (by simp; omega), List.getElem?_replicate, if_pos (by simp; omega), decide_eq_false (by omega)]; rfl
    rw [he, bitAt_turn _ _ _ _ _ h]
  · rw [List.getElem?_eq_none (by simp; omega), List.getElem?_eq_none]
    simp [List.length_zipWith]; omega
theorem crc_turn (w : W) (p l : List B) (a : Nat) (t : W) (h : a + 32 ≤ 8 * l.length) (ht : t ≠ 0#32) : crc w (p ++ turn l a t 32) ≠ crc w (p ++ l) := by
  rw [crc_append, crc_append, crc_feed _ (turn l a t 32), crc_feed _ l, bits_turn l a t h]
  obtain ⟨v, hv⟩ : ∃ v, v = crc w p := ⟨_, rfl⟩
  rw [← hv]
  have hl : (l.flatMap bitsOf).length = (errs (8 * l.length) a t).length := by
    rw [bits_eq]; simp [errs]; omega
  have := feed_xor (l.flatMap bitsOf) (errs (8 * l.length) a t) hl v 0#32
  rw [BitVec.xor_zero] at this
  rw [this]
  intro e
  have hb := feed_burst a (8 * l.length - a - 32) t ht
  apply hb
  have e2 : feed v (l.flatMap bitsOf) ^^^ (feed v (l.flatMap bitsOf) ^^^ feed 0#32 (errs (8 * l.length) a t)) = feed v (l.flatMap bitsOf) ^^^ feed v (l.flatMap bitsOf) := by rw [e]
  rw [← BitVec.xor_assoc, BitVec.xor_self, BitVec.zero_xor] at e2
  exact e2
theorem fsum_turn (p l : List B) (a : Nat) (t : W) (h : a + 32 ≤ 8 * l.length) (ht : t ≠ 0#32) : fsum (p ++ turn l a t 32) ≠ fsum (p ++ l) := by
  unfold fsum
  intro e
  exact crc_turn _ p l a t h ht (by simpa using congrArg (fun x => ~~~x) e)
end Go.Proofs.Ytfpjmeknjhhakaa.F

/- The contracts of frame's sums, and of the reference's. -/
namespace Go.Proofs.Ytfpjmeknjhhakaa.K
open Go Go.RowKit

theorem csteps_succ (k : Nat) (w : F.W) : F.csteps (k + 1) w = F.cstep (F.csteps k w) := by rw [F.csteps_add]; rfl
set_option maxHeartbeats 1000000 in
theorem turned_any (x : BitVec 32) (w : World) :
    Calls Try.prog 103 #[W32 x] w fun e w' => e = .returned (W32 (F.csteps 8 x)) ∧ w = w' := by
  have h1 : ∀ t (x : BitVec 32), binOp .and t (W32 x) (.int .u32 1) = pure (W32 (x &&& 1#32)) := fun t x => W32_and t x 1#32
  have h2 : ∀ t (x : BitVec 32), binOp .and t (.int .u32 2197175160) (W32 x) = pure (W32 (F.poly &&& x)) := fun t x => W32_and t F.poly x
  go_enter Try.func103, Try.ntmps103
  go_wp2
  go_loop [0, 3] (fun v i => ∃ k : Nat, k ≤ 8 ∧ i = .int .i64 (k : Int) ∧ v = W32 (F.csteps k x)) (fun _ i => 8 - (intOf i).toNat)
  case atStart => exact ⟨0, by omega, rfl, rfl⟩
  case round =>
    obtain ⟨k, hk, rfl, rfl⟩ := hrel
    by_cases hlt : k < 8
    · have i1 : (k : Int) < 8 := by omega
      go_wp2
      go_round
      case rel => exact ⟨k + 1, by omega, by go_num, by rw [csteps_succ, ← F.cstep_eq]⟩
      case measure => simp [intOf]; omega
    · have i1 : ¬ (k : Int) < 8 := by omega
      obtain rfl : k = 8 := by omega
      go_wp2
      go_ret
      exact ⟨rfl, rfl⟩
theorem crc_take (x : BitVec 32) (bs : List (BitVec 8)) (k : Nat) (h : k < bs.length) : F.crc x (bs.take (k + 1)) = F.cbyte (F.crc x (bs.take k)) bs[k] := by
  rw [List.take_succ_eq_append_getElem h, F.crc_append]; rfl
set_option maxHeartbeats 1000000 in
theorem more_any (x : BitVec 32) (A : Option Addr) (n c : Nat) (bs : List (BitVec 8)) (w : World) (hr : RowRd w ⟨A, n, c⟩ bs) (hn : n ≤ 9223372036854775807) :
    Calls Try.prog 50 #[W32 x, .slice A n c] w fun e w' => e = .returned (W32 (F.crc x bs)) ∧ w = w' := by
  have h1 : ∀ t (x : BitVec 32), binOp .and t (W32 x) (.int .u32 255) = pure (W32 (x &&& 255#32)) := fun t x => W32_and t x 255#32
  have hcv := fun w (x : BitVec 8) => conv_B8_W32 (P := Try.prog) w 5 40 x Try.underlying5 Try.underlying40
  have HR := Lib.hid hr; have HL := Lib.hid (show bs.length = n from hr.len)
  clear hr
  go_enter Try.func50, Try.ntmps50
  go_wp2
  go_loop [0, 6, 9] (fun v _ i => ∃ k : Nat, k ≤ n ∧ i = .int .i64 (k : Int) ∧ v = W32 (F.crc x (bs.take k))) (fun _ _ i => n - (intOf i).toNat)
  case atStart => exact ⟨0, by omega, rfl, rfl⟩
  case round =>
    obtain ⟨k, hk, rfl, rfl⟩ := hrel
    have k0 : (0 : Int) ≤ (k : Int) := by omega
    by_cases hlt : k < n
    · have i1 : (k : Int) < (n : Int) := by omega
      have hkl : k < bs.length := by rw [HL.out]; exact hlt
      obtain ⟨b, o, hA, hc⟩ := HR.out.rd k hkl
      have hct := Lib.hid (crc_take x bs k hkl)
      have hA' : A = some ⟨b, o, none⟩ := hA
      subst hA'
      generalize bs[k] = y at *
      clear hA
      go_wp2_with (go_at_call 103; refine (turned_any _ _).mono ?_; rintro e w' ⟨rfl, rfl⟩)
      go_round
      case rel => exact ⟨k + 1, by omega, by go_num, by rw [hct.out, F.cbyte_eq]⟩
      case measure => simp [intOf]; omega
    · have i1 : ¬ (k : Int) < (n : Int) := by omega
      have hk2 : k = n := by omega
      have HE := Lib.hid (show bs.take k = bs from List.take_of_length_le (by rw [HL.out]; omega))
      clear hk2
      go_wp2
      go_ret
      exact ⟨by rw [HE.out]; rfl, rfl⟩
theorem fsum_any (A : Option Addr) (n c : Nat) (bs : List (BitVec 8)) (w : World) (hr : RowRd w ⟨A, n, c⟩ bs) (hn : n ≤ 9223372036854775807) :
    Calls Try.prog 20 #[.slice A n c] w fun e w' => e = .returned (W32 (F.fsum bs)) ∧ w = w' := by
  have HR := Lib.hid hr
  clear hr
  go_enter Try.func20, Try.ntmps20
  go_wp2_with fail
  refine (more_any (~~~0#32) A n c bs w HR.out hn).mono ?_
  rintro e w' ⟨rfl, rfl⟩
  go_wp2
  go_ret
  exact ⟨rfl, rfl⟩
set_option maxHeartbeats 2000000 in
theorem rsum_any (A : Option Addr) (n c : Nat) (bs : List (BitVec 8)) (w : World) (hr : RowRd w ⟨A, n, c⟩ bs) (hn : n ≤ 9223372036854775807) :
    Calls Try.prog 21 #[.slice A n c] w fun e w' => e = .returned (W32 (F.fsum bs)) ∧ ∃ q, w' = w.drewN q := by
  have h1 : ∀ t (x : BitVec 32), binOp .and t (W32 x) (.int .u32 1) = pure (W32 (x &&& 1#32)) := fun t x => W32_and t x 1#32
  have h2 : ∀ t (x : BitVec 32), binOp .xor t (W32 x) (.int .u32 2197175160) = pure (W32 (x ^^^ F.poly)) := fun t x => W32_xor t x F.poly
  have h3 : ∀ t (x : BitVec 32), binOp .eql t (W32 x) (.int .u32 1) = pure (.bool (x == 1#32)) := fun t x => W32_eql t x 1#32
  have hcv := fun w (x : BitVec 8) => conv_B8_W32 (P := Try.prog) w 5 40 x Try.underlying5 Try.underlying40
  have HR := Lib.hid hr; have HL := Lib.hid (show bs.length = n from hr.len)
  clear hr
  go_enter Try.func21, Try.ntmps21
  go_wp2
  go_loop [3, 4, 5, 6] (fun v i _ _ => ∃ k : Nat, k ≤ n ∧ i = .int .i64 (k : Int) ∧ v = W32 (F.crc (~~~0#32) (bs.take k))) (fun _ i _ _ => n - (intOf i).toNat)
  case atStart => exact ⟨0, by omega, rfl, rfl⟩
  case round =>
    obtain ⟨k, hk, rfl, rfl⟩ := hrel
    have k0 : (0 : Int) ≤ (k : Int) := by omega
    by_cases hlt : k < n
    · have i1 : (k : Int) < (n : Int) := by omega
      have hkl : k < bs.length := by rw [HL.out]; exact hlt
      obtain ⟨b, o, hA, hc⟩ := HR.out.rd k hkl
      have hct := Lib.hid (crc_take (~~~0#32) bs k hkl)
      have hA' : A = some ⟨b, o, none⟩ := hA
      subst hA'
      generalize bs[k] = y at *
      clear hA
      go_wp2
      go_loop [3, 5, 6] (fun v i _ => ∃ j : Nat, j ≤ 8 ∧ i = .int .i64 (j : Int) ∧ v = W32 (F.csteps j (F.crc (~~~0#32) (bs.take k) ^^^ y.setWidth 32))) (fun _ i _ => 8 - (intOf i).toNat)
      case atStart => exact ⟨0, by omega, rfl, rfl⟩
      case round =>
        obtain ⟨j, hj, rfl, rfl⟩ := hrel
        by_cases hlt2 : j < 8
        · have j1 : (j : Int) < 8 := by omega
          have hst : F.csteps (j + 1) (F.crc (~~~0#32) (bs.take k) ^^^ y.setWidth 32) = F.cstep (F.csteps j (F.crc (~~~0#32) (bs.take k) ^^^ y.setWidth 32)) := csteps_succ _ _
          generalize F.csteps j (F.crc (~~~0#32) (bs.take k) ^^^ y.setWidth 32) = u at *
          have hst := Lib.hid hst
          by_cases hb : u.getLsbD 0 = true
          · have hu : ((u &&& 1#32) == 1#32) = true := by
              have h4 : u &&& 1#32 = 1#32 := by
                apply BitVec.eq_of_getLsbD_eq; intro i hi
                rw [BitVec.getLsbD_and, BitVec.getLsbD_one]
                cases i with
                | zero => simpa using hb
                | succ i => simp
              rw [h4]; rfl
            have hcs := Lib.hid (show F.cstep u = (u >>> 1) ^^^ F.poly by unfold F.cstep; rw [hb]; rfl)
            clear hb
            go_wp2
            go_round
            case rel => exact ⟨j + 1, by omega, by go_num, by rw [hst.out, hcs.out]⟩
            case measure => simp [intOf]; omega
          · have hb' : u.getLsbD 0 = false := by simpa using hb
            have hu : ((u &&& 1#32) == 1#32) = false := by
              have h4 : u &&& 1#32 = 0#32 := by
                apply BitVec.eq_of_getLsbD_eq; intro i hi
                rw [BitVec.getLsbD_and, BitVec.getLsbD_one]
                cases i with
                | zero => simpa using hb'
                | succ i => simp
              rw [h4]; rfl
            have hcs := Lib.hid (show F.cstep u = u >>> 1 by unfold F.cstep; rw [hb']; simp)
            clear hb hb'
            go_wp2
            go_round
            case rel => exact ⟨j + 1, by omega, by go_num, by rw [hst.out, hcs.out]⟩
            case measure => simp [intOf]; omega
        · have j1 : ¬ (j : Int) < 8 := by omega
          obtain rfl : j = 8 := by omega
          go_wp2
          go_round
          case rel => exact ⟨k + 1, by omega, by go_num, by rw [hct.out]; rfl⟩
          case measure => simp [intOf]; omega
    · have i1 : ¬ (k : Int) < (n : Int) := by omega
      have HE := Lib.hid (show bs.take k = bs from List.take_of_length_le (by rw [HL.out]; omega))
      go_wp2
      go_ret
      exact ⟨by rw [HE.out]; rfl, 0, rfl⟩
end Go.Proofs.Ytfpjmeknjhhakaa.K

/- The contracts of frame.four, the reference's four, and frame.check. -/
namespace Go.Proofs.Ytfpjmeknjhhakaa.K
open Go Go.RowKit

def FourPost (w : World) (n : F.W) (e : Ending) (w' : World) : Prop := e = .returned (.agg (bv (F.be4 n)).toArray) ∧ Since w w'
theorem infoFour (l : List (BitVec 8)) (h : l.length = 4) : (Try.prog.info? 157).map (·.size) = some (bv l).toArray.size := by
  rw [show (bv l).toArray.size = 4 by rw [List.size_toArray, bv_length, h]]; kernel_rfl
set_option maxHeartbeats 1000000 in
theorem four_any (x : BitVec 32) (w : World) : Calls Try.prog 79 #[W32 x] w (FourPost w x) := by
  have hcv := fun w (x : BitVec 32) => conv_W32_B8 (P := Try.prog) w 40 5 x Try.underlying40 Try.underlying5
  go_enter Try.func79, Try.ntmps79
  go_wp2
  refine bodyPost_ret (v := .agg (bv (F.be4 x)).toArray) ?_ ?_ ?_
  · exact results_cell_row rfl _ _ w.heap.size 157 (bv (F.be4 x)).toArray (0, 0) _ rfl (heap_alloc_new w _) Try.underlying157 rfl (infoFour _ rfl)
  · rfl
  · exact ⟨rfl, (Below.refl _ _).alloc (Nat.le_refl _) _⟩
set_option maxHeartbeats 1000000 in
theorem rfour_any (x : BitVec 32) (w : World) : Calls Try.prog 80 #[W32 x] w (Made w (F.be4 x)) := by
  have hcv := fun w (x : BitVec 32) => conv_W32_B8 (P := Try.prog) w 40 5 x Try.underlying40 Try.underlying5
  have HFIN := Lib.hid (show Made w (F.be4 x) (.returned (.slice (some ⟨w.heap.size, 0, none⟩) 4 4)) (w.alloc (.cells (bv (F.be4 x)).toArray 5)) from
    ⟨w.heap.size, 4, 4, rfl, rfl, by have := World.ownsRow_lit (base := w.heap.size) (size := 1) (e := 5) w (bv (F.be4 x)).toArray 4 (Nat.le_refl _) (by unfold maxLen; omega) rfl; exact this, (Below.refl _ _).alloc (Nat.le_refl _) _⟩)
  go_enter Try.func80, Try.ntmps80
  go_wp2
  go_ret
  exact HFIN.out

/-- the error that a frame's check throws -/
def errP (n : Int) : List PanicEntry := [{ v := .iface 28 (.int .i64 n), recovered := false }]
def CheckPost (w : World) (f : F.Fr) (e : Ending) (w' : World) : Prop := e = (if F.errOf f = 0 then .returned (.tuple #[]) else .panicked (errP (F.errOf f))) ∧ Since w w'
set_option maxHeartbeats 1000000 in
theorem check_any (k : Int) (A : Option Addr) (n c : Nat) (bs : List (BitVec 8)) (w : World) (hn : bs.length = n) :
    Calls Try.prog 44 #[.agg #[.int .i64 k, .slice A n c]] w (CheckPost w ⟨k, bs⟩) := by
  have hb : Since w (w.alloc (.cells #[.int .i64 k, .slice A n c] 36)) := (Below.refl _ _).alloc (Nat.le_refl _) _
  have HB := Lib.hid hb
  clear hb
  by_cases h1 : k < 0
  · have HE := Lib.hid (show F.errOf ⟨k, bs⟩ = 2 by unfold F.errOf; rw [if_pos (.inl h1)])
    have d1 : decide (k < 0) = true := by simpa using h1
    go_enter Try.func44, Try.ntmps44
    go_wp2
    exact ⟨rfl, by rw [HE.out]; rfl, HB.out⟩
  · have d1 : decide (k < 0) = false := by simpa using h1
    by_cases h2 : 255 < k
    · have HE := Lib.hid (show F.errOf ⟨k, bs⟩ = 2 by unfold F.errOf; rw [if_pos (.inr h2)])
      go_enter Try.func44, Try.ntmps44
      go_wp2
      exact ⟨rfl, by rw [HE.out]; rfl, HB.out⟩
    · by_cases h3 : 262144 < n
      · have HE := Lib.hid (show F.errOf ⟨k, bs⟩ = 3 by unfold F.errOf; rw [if_neg (by show ¬ (k < 0 ∨ 255 < k); omega), if_pos (by show _ < bs.length; omega)])
        have i3 : (262144 : Int) < (n : Int) := by omega
        go_enter Try.func44, Try.ntmps44
        go_wp2
        exact ⟨rfl, by rw [HE.out]; rfl, HB.out⟩
      · have HE := Lib.hid (show F.errOf ⟨k, bs⟩ = 0 by unfold F.errOf; rw [if_neg (by show ¬ (k < 0 ∨ 255 < k); omega), if_neg (by show ¬ _ < bs.length; omega)])
        have i3 : ¬ (262144 : Int) < (n : Int) := by omega
        go_enter Try.func44, Try.ntmps44
        go_wp2
        go_end0
        exact ⟨by rw [HE.out]; rfl, HB.out⟩
end Go.Proofs.Ytfpjmeknjhhakaa.K

/- The contract of frame.start. -/
namespace Go.Proofs.Ytfpjmeknjhhakaa.K
open Go Go.RowKit

/-- a frame's box -/
abbrev Box2 (w : World) (b : Nat) (k : Int) (A : Option Addr) (n c : Nat) : Prop := w.cell? ⟨b, 0, none⟩ = some (.int .i64 k) ∧ w.cell? ⟨b, 1, none⟩ = some (.slice A n c)
theorem box2_since {w w' : World} {b : Nat} {k : Int} {A : Option Addr} {n c : Nat} (h : Box2 w b k A n c) (hs : Since w w') : Box2 w' b k A n c :=
  ⟨(hs.cell (p := ⟨b, 0, none⟩) (block_lt_of_cell h.1)).trans h.1, (hs.cell (p := ⟨b, 1, none⟩) (block_lt_of_cell h.2)).trans h.2⟩
theorem kind_B8 (y : Int) : Value.int .u8 (IntKind.u8.wrap y) = B8 (BitVec.ofInt 8 y) := by
  have h : IntKind.u8.wrap y = ((BitVec.ofInt 8 y).toNat : Int) := by
    rw [IntKind.wrap_u8', BitVec.toNat_ofInt]; omega
  rw [B8, h]
theorem conv_kind {P : Program} (w : World) (src dst : TypeId) (y : Int) (hs : P.underlying src = some (.int .i64)) (hd : P.underlying dst = some (.int .u8)) : (convert src dst (.int .i64 y)).run P w = .ok (B8 (BitVec.ofInt 8 y)) w := by
  rw [← kind_B8]
  simp [convert, run_underlying hs, run_underlying hd, Conv.intToInt]
/-- a four's block reads as its bytes -/
theorem four_row {w : World} (x : F.W) (t : TypeId) : RowRd (w.alloc (.cells (bv (F.be4 x)).toArray t)) ⟨some ⟨w.heap.size, 0, none⟩, 4, 4⟩ (F.be4 x) :=
  ⟨Rd.of_block (heap_alloc_new w _) (by rfl), rfl, fun h => by cases h⟩
theorem four_lit (x : BitVec 32) (w : World) : Calls Try.prog 79 #[W32 x] w fun e w' => ∃ a b c d, F.be4 x = [a, b, c, d] ∧ e = .returned (.agg #[B8 a, B8 b, B8 c, B8 d]) ∧ Since w w' :=
  (four_any x w).mono fun e w' ⟨he, hs⟩ => ⟨_, _, _, _, rfl, he, hs⟩
/-- a four's block, still noughts -/
def Zero4 (w : World) (X : Nat) : Prop := w.heap[X]? = some (.cells [Value.int .u8 0, .int .u8 0, .int .u8 0, .int .u8 0].toArray 157 (0, 0))
theorem Zero4.new (w : World) : Zero4 (w.alloc (.cells #[.int .u8 0, .int .u8 0, .int .u8 0, .int .u8 0] 157)).drew w.heap.size := heap_alloc_new w _
theorem Zero4.since {w w' : World} {X : Nat} (h : Zero4 w X) (hs : Since w w') : Zero4 w' X := Since.at hs h
theorem Zero4.cells {w : World} {X : Nat} (h : Zero4 w X) : w.cell? ⟨X, 0, none⟩ = some (.int .u8 0) ∧ w.cell? ⟨X, 1, none⟩ = some (.int .u8 0) ∧ w.cell? ⟨X, 2, none⟩ = some (.int .u8 0) ∧ w.cell? ⟨X, 3, none⟩ = some (.int .u8 0) :=
  ⟨block_cell h rfl, block_cell h rfl, block_cell h rfl, block_cell h rfl⟩
theorem Zero4.free {w : World} {X : Nat} (h : Zero4 w X) : w.frozen? ⟨X, 0, none⟩ = false ∧ w.frozen? ⟨X, 1, none⟩ = false ∧ w.frozen? ⟨X, 2, none⟩ = false ∧ w.frozen? ⟨X, 3, none⟩ = false :=
  ⟨frozen_of_row w X 0 _ _ h, frozen_of_row w X 1 _ _ h, frozen_of_row w X 2 _ _ h, frozen_of_row w X 3 _ _ h⟩
theorem Zero4.set {w : World} {X : Nat} (h : Zero4 w X) (a b c d : BitVec 8) : RowRd ((((w.setCell ⟨X, 0, none⟩ (B8 a)).setCell ⟨X, 1, none⟩ (B8 b)).setCell ⟨X, 2, none⟩ (B8 c)).setCell ⟨X, 3, none⟩ (B8 d)) ⟨some ⟨X, 0, none⟩, 4, 4⟩ [a, b, c, d] :=
  ⟨Rd.of_block (block_set (block_set (block_set (block_set h 0 _) 1 _) 2 _) 3 _) rfl, rfl, fun h => by cases h⟩
theorem Since.set4 {w0 w : World} (h : Since w0 w) {X : Nat} (hX : w0.heap.size ≤ X) (a b c d : Value) : Since w0 ((((w.setCell ⟨X, 0, none⟩ a).setCell ⟨X, 1, none⟩ b).setCell ⟨X, 2, none⟩ c).setCell ⟨X, 3, none⟩ d) :=
  Since.set (Since.set (Since.set (Since.set h hX 0 a) hX 1 b) hX 2 c) hX 3 d
theorem own_somes' {w : World} {base : Nat} {e : TypeId} {A : Option Addr} {n c : Nat} {xs : List Value} (h : w.ownsRow base e 1 (.slice A n c) n xs) (hp : 0 < n) : ∃ g, A = some ⟨g, 0, none⟩ := by
  rcases h.2 with ⟨h0, _⟩ | ⟨g, cp, cur, h2, _⟩
  · simp at h0; omega
  · simp at h2; exact ⟨g, h2.1⟩
theorem more_first (A : Option Addr) (n c : Nat) (bs : List (BitVec 8)) (w : World) (hr : RowRd w ⟨A, n, c⟩ bs) (hn : n ≤ 9223372036854775807) :
    Calls Try.prog 50 #[.int .u32 4294967295, .slice A n c] w fun e w' => e = .returned (W32 (F.crc 4294967295#32 bs)) ∧ w = w' := more_any (~~~0#32) A n c bs w hr hn
theorem four_row' {w : World} (x : F.W) (a b c d : BitVec 8) (h : F.be4 x = [a, b, c, d]) (t : TypeId) : RowRd (w.alloc (.cells #[B8 a, B8 b, B8 c, B8 d] t)) ⟨some ⟨w.heap.size, 0, none⟩, 4, 4⟩ (F.be4 x) := by
  have := four_row (w := w) x t
  rw [h] at this ⊢
  exact this
set_option maxHeartbeats 4000000 in
set_option maxRecDepth 100000 in
theorem start_any (k : Int) (A : Option Addr) (n c : Nat) (bs : List (BitVec 8)) (w : World) (hr : RowRd w ⟨A, n, c⟩ bs) (hn : n ≤ 9223372036854775807) :
    Calls Try.prog 45 #[.agg #[.int .i64 k, .slice A n c]] w (Made w (F.five ⟨k, bs⟩ ++ F.be4 (F.fsum (F.five ⟨k, bs⟩ ++ bs)))) := by
  have hbx : Box2 (w.alloc (.cells #[.int .i64 k, .slice A n c] 36)) w.heap.size k A n c := ⟨by rw [World.cell?_alloc_new]; rfl, by rw [World.cell?_alloc_new]; rfl⟩
  have hs0 : Since w (w.alloc (.cells #[.int .i64 k, .slice A n c] 36)) := (Below.refl _ _).alloc (Nat.le_refl _) _
  have HBX := Lib.hid hbx; have HS0 := Lib.hid hs0; have HR := Lib.hid hr; have HL := Lib.hid (show bs.length = n from hr.len)
  have hcv := fun w (n : Nat) => conv_int_W32 (P := Try.prog) w 3 40 n Try.underlying3 Try.underlying40
  have hcv2 := fun w (y : Int) => conv_kind (P := Try.prog) w 3 5 y Try.underlying3 Try.underlying5
  clear hbx hs0 hr
  go_enter Try.func45, Try.ntmps45
  go_wp2_with fail
  refine (four_lit _ _).mono ?_
  rintro e w1 ⟨a, b, c', d, hfour, rfl, hs1⟩
  have S1 := Lib.hid (HS0.out.add hs1); have BX1 := Lib.hid (box2_since HBX.out hs1); have FO := Lib.hid hfour
  clear hs1 hfour HS0 HBX
  have RF := Lib.hid (four_row' (w := w1) _ a b c' d FO.out 157)
  have S2 := Lib.hid (S1.out.alloc (.cells #[B8 a, B8 b, B8 c', B8 d] 157)); have BX2 := Lib.hid (box2_since BX1.out ((Below.refl _ _).alloc (Nat.le_refl _) (.cells #[B8 a, B8 b, B8 c', B8 d] 157)))
  go_upto_region 2 with fail
  generalize w1.alloc (.cells #[B8 a, B8 b, B8 c', B8 d] 157) = w2 at *
  generalize w1.heap.size = X at *
  clear BX1 S1
  have hB := Bank.nil (Below.refl w2.heap.size w2)
  have hbd : Box2 w2.drew w.heap.size k A n c := BX2.out
  have hrd : RowRd (w2.alloc (.cells #[B8 (BitVec.ofInt 8 k)] 5)).drew ⟨some ⟨X, 0, none⟩, 4, 4⟩ (F.be4 (BitVec.ofNat 32 n)) := RF.out.below (Since.drew (Since.alloc (Below.refl _ _) _))
  have HBL := Lib.hid (box2_since BX2.out (Since.drew (Since.alloc (Below.refl w2.heap.size w2) (.cells #[B8 (BitVec.ofInt 8 k)] 5))))
  go_region_held3 (fun w' => Box2 w' w.heap.size k A n c)
    (first
      | with_reducible exact hbd
      | with_reducible exact HBL.out
      | with_reducible exact box2_since BX2.out hB.since
      | fail "keep")
    (first
      | (((with_reducible refine step_bank (Bank.drew (Bank.litV hB _ _ (by simp))) ?_); intro hB); refine step_append_bytes hB rfl _ _ 27 rfl 5 infoByte Try.underlying27 0 _ _ _ [BitVec.ofInt 8 k] rfl rfl _ _ _ _ rfl hrd (by omega) ?_; intro A' n' c' w3 hn' hB; have hn'' := Nat.le_of_eq hn'; clear hn'; dsimp only [List.set] at hB)
      | fail "arm")
  have BKA := Lib.hid hB
  clear hbd hrd HBL hB RF
  have RFI := Lib.hid (BKA.out.row 0 rfl)
  have HLF := Lib.hid (show [BitVec.ofInt 8 k] ++ F.be4 (BitVec.ofNat 32 n) = F.five ⟨k, bs⟩ by unfold F.five; rw [HL.out]; rfl)
  have BX3 := Lib.hid (box2_since BX2.out BKA.out.since)
  have R3 := Lib.hid (Since.row (S2.out.add BKA.out.since) HR.out)
  have HRF := Lib.hid (show RowRd w3 ⟨A', n', c'⟩ (F.five ⟨k, bs⟩) by rw [← HLF.out]; exact RFI.out)
  have BKB := Lib.hid (show Bank w2 w3 [⟨.slice A' n' c', n', 5, 1, bv (F.five ⟨k, bs⟩)⟩] by rw [← HLF.out]; exact BKA.out)
  clear BKA RFI HLF
  go_upto_region 3 with fail
  go_cut [5] (fun s5 wx => ∃ X5, s5 = .pointer (some ⟨X5, 0, none⟩) ∧ RowRd wx ⟨some ⟨X5, 0, none⟩, 4, 4⟩ (F.be4 (F.fsum (F.five ⟨k, bs⟩ ++ bs))) ∧ Since w3 wx)
  case first =>
    have hsd : Since w3 w3.drew := Since.drew (Below.refl _ _)
    have hsda : Since w3 (w3.alloc (.cells #[.int .u8 0, .int .u8 0, .int .u8 0, .int .u8 0] 157)).drew := Since.drew (Since.alloc (Below.refl _ _) _)
    have hbd := box2_since BX3.out hsd
    have hbda := box2_since BX3.out hsda
    have HN' := Lib.hid (show n' ≤ 9223372036854775807 by omega)
    have HSM := Lib.hid (F.crc_append 4294967295#32 (F.five ⟨k, bs⟩) bs)
    go_region_held3 (fun w' => Box2 w' w.heap.size k A n c)
      (first
        | with_reducible exact hbd
        | with_reducible exact box2_since BX3.out hs4
        | with_reducible exact hbda
        | with_reducible exact box2_since BX3.out (Since.set4 hs4 (Nat.le_refl _) _ _ _ _)
        | with_reducible exact box2_since BX3.out (Since.alloc hs4 _)
        | fail "keep")
      (first
        | (go_at_call 50; ((with_reducible refine (more_first A' n' c' (F.five ⟨k, bs⟩) _ (Since.row hsd HRF.out) HN'.out).mono ?_); rintro e w' ⟨rfl, rfl⟩))
        | (go_at_call 50; ((with_reducible refine (more_any (F.crc 4294967295#32 (F.five ⟨k, bs⟩)) A n c bs _ (Since.row hsd R3.out) hn).mono ?_); rintro e w' ⟨rfl, rfl⟩; rw [← HSM.out]))
        | (go_at_call 79; ((with_reducible refine (four_lit _ _).mono ?_); rintro e w4 ⟨a4, b4, c4, d4, hfour4, rfl, hs4'⟩; (first | have hs4 := Since.add hsd hs4' | (have hs4 := Since.add hsda hs4'; have hz4 := Zero4.since (Zero4.new w3) hs4'; obtain ⟨z0, z1, z2, z3⟩ := Zero4.cells hz4; obtain ⟨y0, y1, y2, y3⟩ := Zero4.free hz4)); have HF4 := Lib.hid hfour4; clear hfour4))
        | (go_at_call 50; ((with_reducible refine (more_first A' n' c' (F.five ⟨k, bs⟩) _ (Since.row hsda HRF.out) HN'.out).mono ?_); rintro e w' ⟨rfl, rfl⟩))
        | (go_at_call 50; ((with_reducible refine (more_any (F.crc 4294967295#32 (F.five ⟨k, bs⟩)) A n c bs _ (Since.row hsda R3.out) hn).mono ?_); rintro e w' ⟨rfl, rfl⟩; rw [← HSM.out]))
        | fail "arm")
    all_goals
      have hfin : (∃ X5, Value.pointer (some ⟨w4.heap.size, 0, none⟩) = .pointer (some ⟨X5, 0, none⟩) ∧ RowRd (w4.alloc (.cells #[B8 a4, B8 b4, B8 c4, B8 d4] 157)) ⟨some ⟨X5, 0, none⟩, 4, 4⟩ (F.be4 (F.fsum (F.five ⟨k, bs⟩ ++ bs))) ∧ Since w3 (w4.alloc (.cells #[B8 a4, B8 b4, B8 c4, B8 d4] 157))) :=
        ⟨_, rfl, four_row' _ _ _ _ _ HF4.out _, hs4.alloc _⟩
      have HFIN := Lib.hid hfin
      have hfin2 : (∃ z : Zero4 w4 w3.heap.size, True) → ∃ X5, Value.pointer (some ⟨w3.heap.size, 0, none⟩) = .pointer (some ⟨X5, 0, none⟩) ∧ RowRd ((((w4.setCell ⟨w3.heap.size, 0, none⟩ (B8 a4)).setCell ⟨w3.heap.size, 1, none⟩ (B8 b4)).setCell ⟨w3.heap.size, 2, none⟩ (B8 c4)).setCell ⟨w3.heap.size, 3, none⟩ (B8 d4)) ⟨some ⟨X5, 0, none⟩, 4, 4⟩ (F.be4 (F.fsum (F.five ⟨k, bs⟩ ++ bs))) ∧ Since w3 ((((w4.setCell ⟨w3.heap.size, 0, none⟩ (B8 a4)).setCell ⟨w3.heap.size, 1, none⟩ (B8 b4)).setCell ⟨w3.heap.size, 2, none⟩ (B8 c4)).setCell ⟨w3.heap.size, 3, none⟩ (B8 d4)) :=
        fun ⟨z, _⟩ => ⟨_, rfl, by rw [show F.be4 (F.fsum (F.five ⟨k, bs⟩ ++ bs)) = [a4, b4, c4, d4] from HF4.out]; exact z.set a4 b4 c4 d4, Since.set4 hs4 (Nat.le_refl _) _ _ _ _⟩
      have HFIN2 := Lib.hid hfin2
      clear hfin hfin2
      first
        | (go_wp2_with fail; go_meet; exact HFIN.out)
        | (go_wp2_with fail; go_meet; exact HFIN2.out ⟨hz4, trivial⟩)
  case rest =>
    obtain ⟨X5, rfl, hr5, hs5⟩ := hcut
    have BK5 := Lib.hid (BKB.out.call hs5); have R5 := Lib.hid hr5
    clear hr5 hs5 BKB
    go_wp2_with (at_builtin; refine wpList_append_bytes BK5.out rfl _ _ 27 rfl 5 infoByte Try.underlying27 0 _ _ _ _ rfl rfl _ _ _ _ rfl R5.out (by omega) ?_; intro A6 n6 c6 w6 hn6 hB6; dsimp only [List.set] at hB6; have B6 := Lib.hid hB6; have hn6' := Lib.hid hn6; clear hB6 hn6)
    have ho6 := B6.out.at 0 rfl
    have hs6 := S2.out.trans ((B6.out.since).mono S2.out.size)
    have hl5 : n' = 5 := (HRF.out.len).symm
    obtain ⟨g6, rfl⟩ := own_somes' ho6 (by have := hn6'.out; omega)
    have HFIN := Lib.hid (show Made w (F.five ⟨k, bs⟩ ++ F.be4 (F.fsum (F.five ⟨k, bs⟩ ++ bs))) (.returned (.slice (some ⟨g6, 0, none⟩) n6 c6)) w6 from ⟨g6, n6, c6, rfl, by rw [hn6'.out, hl5]; rfl, row_base ho6 S2.out.size, hs6⟩)
    clear ho6 hs6 hl5
    go_wp2
    go_ret
    exact HFIN.out
end Go.Proofs.Ytfpjmeknjhhakaa.K

/- The deferred closure of frame.Put. -/
namespace Go.Proofs.Ytfpjmeknjhhakaa.K
open Go Go.RowKit

theorem tmps15 (a b x : Value) : (#[a, b] ++ ((Array.replicate 13 undef).setIfInBounds 2 x).setIfInBounds 0 x) = #[a, b, x, undef, x, undef, undef, undef, undef, undef, undef, undef, undef, undef, undef] := by
  apply Array.toList_inj.1
  simp [List.replicate]
theorem catchPut_idle (p q : Addr) (w : World) :
    CallsD Try.prog 43 #[.pointer (some p), .pointer (some q)] .returning w fun e u' w' => e = .returned (.tuple #[]) ∧ u' = .returning ∧ w' = w := by
  refine callsD_of_wpS Try.func43 rfl fun c₀ cs hu => ?_
  apply wpS_seq
  apply wpS_region
  simp [wpOpsS, go_sem, recoverD, hu, Try.ntmps43, Exit.thenS]
  refine wpS_of_wp ?_
  rw [tmps15]
  go_wp2
  cases c₀
  simp_all [bodyPostS, results, Try.results43]
set_option maxHeartbeats 1000000 in
set_option maxRecDepth 100000 in
theorem catchPut_panicking (E B : Nat) (n y : Int) (v : Value) (w : World) (he : w.cell? ⟨E, 0, none⟩ = some (.int .i64 y)) (hef : w.frozen? ⟨E, 0, none⟩ = false) (hb : w.heap[B]? = some (.cells #[v] 27 (0, 0))) (hv : v.oneCell' = true) (hEB : E ≠ B) :
    CallsD Try.prog 43 #[.pointer (some ⟨E, 0, none⟩), .pointer (some ⟨B, 0, none⟩)] (.panicking (errP n)) w fun e u' w' =>
      e = .returned (.tuple #[]) ∧ u' = .panicking [{ v := .iface 28 (.int .i64 n), recovered := true }] ∧ w' = (w.setCell ⟨E, 0, none⟩ (.int .i64 n)).setCell ⟨B, 0, none⟩ (.slice none 0 0) := by
  have hta : ∀ w, (Instr.typeAssert (.iface 28 (.int .i64 n)) 20 28 true).run Try.prog w = .ok (.tuple #[.int .i64 n, .bool true]) w := fun _ => by kernel_rfl
  have hbc : (w.setCell ⟨E, 0, none⟩ (.int .i64 n)).cell? ⟨B, 0, none⟩ = some v := (World.cell?_setCell_other _ _ _ _ (fun e => hEB (by injection e))).trans (block_cell (xs := [v]) hb rfl)
  have hbf : w.frozen? ⟨B, 0, none⟩ = false := frozen_of_row w B 0 _ _ hb
  refine callsD_of_wpS Try.func43 rfl fun c₀ cs hu => ?_
  unfold errP at hu
  clear hb hv
  apply wpS_seq
  apply wpS_region
  simp [wpOpsS, go_sem, recoverD, hu, Try.ntmps43, Exit.thenS]
  refine wpS_of_wp ?_
  rw [tmps15]
  go_wp2
  cases c₀
  simp_all [bodyPostS, results, Try.results43]
end Go.Proofs.Ytfpjmeknjhhakaa.K

/- What comes in: bytes, numbers, entries, lists of them, out of the statement's own reading of the arguments. -/
namespace Go.Proofs.Ytfpjmeknjhhakaa.K
open Go Go.RowKit Go.ChangeShapes Go.WideShapes Go.Deep

set_option maxRecDepth 100000
theorem own : ownKnob Try.prog.godebug = none := by kernel_rfl
theorem laidOut : laidOutB Try.prog = true := by kernel_rfl
noncomputable def laidWorld (os : Os) : World := World.holding Try.prog os ⟨#[], #[], []⟩

/-- a byte that came in -/
theorem B8_of_wf {n : Int} (h : (Lit.int .u8 n).wf = true) : ∃ b : BitVec 8, Value.int .u8 n = B8 b := by
  have h' : 0 ≤ n ∧ n < 256 := by
    simp [Lit.wf, IntKind.min, IntKind.max, IntKind.bits, IntKind.signed] at h
    omega
  refine ⟨BitVec.ofInt 8 n, ?_⟩
  simp only [B8, BitVec.toNat_ofInt, Value.int.injEq, true_and]
  omega
/-- a slice of bytes that came in reads as a list -/
theorem Rd.of_ints {w : World} {x : Addr} {zs : List Int} (hcell : ∀ i, i < zs.length → w.cell? (x.add i) = some (.int .u8 (zs.getD i 0))) (hwz : ∀ n ∈ zs, (Lit.int .u8 n).wf = true) (n : Nat) :
    Rd w (some x) ((zs.take n).map (BitVec.ofInt 8)) := by
  intro k hk
  have hk2 : k < zs.length := by simp at hk; omega
  have hc := hcell k hk2
  obtain ⟨b, o, s⟩ := x
  have hs : s = none := by simpa [Addr.add] using World.cell?_spot (hcell 0 (by omega))
  subst hs
  refine ⟨b, o, rfl, ?_⟩
  rw [Addr.add_lit] at hc
  rw [hc]
  obtain ⟨y, hy⟩ := B8_of_wf (hwz zs[k] (List.getElem_mem _))
  have e : zs.getD k 0 = zs[k] := by simp [hk2]
  rw [e, hy]
  simp only [B8, Value.int.injEq, true_and] at hy
  simp only [List.getElem_map, List.getElem_take, hy, BitVec.ofInt_natCast, ofNat_self]
theorem inI64_of_wf {n : Int} (h : (Lit.int .i64 n).wf = true) : M.inI64 n := by
  simp [Lit.wf, IntKind.min, IntKind.max, IntKind.bits, IntKind.signed] at h
  exact ⟨by omega, by omega⟩

theorem cellsByte : Try.prog.cellsOf 5 = 1 := by kernel_rfl
theorem cellsInt : Try.prog.cellsOf 3 = 1 := by kernel_rfl
theorem cellsBool : Try.prog.cellsOf 4 = 1 := by kernel_rfl
theorem cellsBytes : Try.prog.cellsOf 27 = 1 := by kernel_rfl
theorem cellsEnt : Try.prog.cellsOf 81 = 6 := by kernel_rfl
theorem cellsKind : Try.prog.cellsOf 79 = 1 := by kernel_rfl

section
variable {H : Type} {enc : TypeId × Value → H} {W : World} {base b0 : Nat} {sp : Nat → Bool} {held : Bool} {r : Reach}
theorem cs_bytes {fuel : Nat} {v : Value} {x : DataW H × List MemPlace} (h : DataW.trod enc Try.prog W base sp held fuel 27 [v] = some x) :
    ∃ A n c bs, v = .slice A n c ∧ RowRd W ⟨A, n, c⟩ bs ∧ n ≤ c ∧ c ≤ 9223372036854775807 := by
  rcases open_ints Try.underlying27 Try.underlying5 cellsByte h with ⟨hcs, _⟩ | ⟨x, l, c, zs, hcs, _, hl, hm, hz, hx, hcell, hwz⟩
  · obtain rfl : v = .slice none 0 0 := by simpa using hcs
    exact ⟨none, 0, 0, [], rfl, ⟨Rd.of_nil _ _, rfl, fun _ => rfl⟩, by omega, by omega⟩
  · obtain rfl : v = .slice (some x) l c := by simpa using hcs
    unfold maxLen at hm
    refine ⟨some x, l, c, _, rfl, ⟨Rd.of_ints hcell hwz l, ?_, fun h => by cases h⟩, hl, hm⟩
    simp only [List.length_map, List.length_take]
    split at hz <;> omega
theorem cs_int {fuel : Nat} {v : Value} {x : DataW H × List MemPlace} (h : DataW.trod enc Try.prog W base sp held fuel 3 [v] = some x) : ∃ n, v = .int .i64 n ∧ M.inI64 n := by
  obtain ⟨n, hcs, _, hw⟩ := DataW.trod_int Try.underlying3 h
  obtain rfl : v = .int .i64 n := by simpa using hcs
  exact ⟨n, rfl, inI64_of_wf hw⟩
theorem cs_bool {fuel : Nat} {v : Value} {x : DataW H × List MemPlace} (h : DataW.trod enc Try.prog W base sp held fuel 4 [v] = some x) : ∃ b, v = .bool b := by
  obtain ⟨b, hcs, _⟩ := DataW.trod_bool Try.underlying4 h
  exact ⟨b, by simpa using hcs⟩
theorem cs_kind {fuel : Nat} {v : Value} {x : DataW H × List MemPlace} (h : DataW.trod enc Try.prog W base sp held fuel 79 [v] = some x) : ∃ b, v = B8 b := by
  obtain ⟨n, hcs, _, hw⟩ := DataW.trod_int Try.underlying79 h
  obtain rfl : v = .int .u8 n := by simpa using hcs
  exact B8_of_wf hw
/-- bytes that came in -/
theorem open_bytes {v : Value} {d : DataW H} {p : List MemPlace} (hv : Value.okWide Try.prog W r b0 27 v) (h : DataW.Trod enc Try.prog W base sp held 27 v d p) :
    ∃ A n c bs, v = .slice A n c ∧ RowRd W ⟨A, n, c⟩ bs ∧ n ≤ c ∧ c ≤ 9223372036854775807 := by
  obtain ⟨A, l, c, rfl⟩ := okWide_slice Try.underlying27 hv
  obtain ⟨fuel, hf⟩ := h
  exact cs_bytes hf
/-- a number that came in -/
theorem open_num {v : Value} {d : DataW H} {p : List MemPlace} (hv : Value.okWide Try.prog W r b0 3 v) (h : DataW.Trod enc Try.prog W base sp held 3 v d p) : ∃ n, v = .int .i64 n ∧ M.inI64 n := by
  obtain ⟨n, rfl, _, _, hw⟩ := open_int Try.underlying3 hv h
  exact ⟨n, rfl, inI64_of_wf hw⟩
/-- numbers that came in: those that are read -/
def Nums (W : World) (A : Option Addr) (n : Nat) : Prop := ∀ i, i < n → ∃ b o z, A = some ⟨b, o, none⟩ ∧ W.cell? ⟨b, o + i, none⟩ = some (.int .i64 z)
theorem Nums.below {w w' : World} {A : Option Addr} {n : Nat} (h : Nums w A n) (hb : Below w.heap.size w w') : Nums w' A n := fun i hi => by
  obtain ⟨b, o, z, e, hc⟩ := h i hi
  exact ⟨b, o, z, e, (hb.cell (p := ⟨b, o + i, none⟩) (block_lt_of_cell hc)).trans hc⟩
theorem open_nums {v : Value} {d : DataW H} {p : List MemPlace} (hv : Value.okWide Try.prog W r b0 43 v) (h : DataW.Trod enc Try.prog W base sp held 43 v d p) :
    ∃ A n c, v = .slice A n c ∧ Nums W A n ∧ n ≤ c ∧ c ≤ 9223372036854775807 := by
  obtain ⟨A, l, c, rfl⟩ := okWide_slice Try.underlying43 hv
  obtain ⟨fuel, hf⟩ := h
  rcases open_ints Try.underlying43 Try.underlying3 cellsInt hf with ⟨hcs, _⟩ | ⟨x, l, c, zs, hcs, _, hl, hm, hz, hx, hcell, hwz⟩
  · simp [Value.cells] at hcs
    obtain ⟨rfl, rfl, rfl⟩ := hcs
    exact ⟨none, 0, 0, rfl, fun i hi => absurd hi (Nat.not_lt_zero _), by omega, by omega⟩
  · simp [Value.cells] at hcs
    obtain ⟨rfl, rfl, rfl⟩ := hcs
    unfold maxLen at hm
    have hlz : l ≤ zs.length := by split at hz <;> omega
    refine ⟨_, _, _, rfl, fun i hi => ?_, hl, hm⟩
    obtain ⟨b, o, s⟩ := x
    have hs : s = none := by simpa [Addr.add] using World.cell?_spot (hcell 0 (by omega))
    subst hs
    exact ⟨b, o, _, rfl, by rw [← Addr.add_lit]; exact hcell i (by omega)⟩
/-- six cells that read as an entry -/
theorem cs_entry {fuel : Nat} {cs : List Value} {x : DataW H × List MemPlace} (h : DataW.trod enc Try.prog W base sp held fuel 81 cs = some x) :
    ∃ (e : M.Ent) (A : Option Addr) (n c : Nat), cs = [.int .i64 e.term, B8 e.kind, .int .i64 e.version, .int .i64 e.server, .bool e.good, .slice A n c] ∧ M.inI64 e.term ∧ M.inI64 e.version ∧ M.inI64 e.server ∧ RowRd W ⟨A, n, c⟩ e.data ∧ n ≤ c ∧ c ≤ 9223372036854775807 := by
  obtain ⟨xs, n, _, _, hlen, hxl, hf⟩ := DataW.trod_struct Try.underlying81 h
  rw [cellsEnt] at hlen
  match cs, hlen with
  | [c0, c1, c2, c3, c4, c5], _ =>
    match xs, hxl with
    | [y0, y1, y2, y3, y4, y5], _ =>
      have f0 : DataW.trod enc Try.prog W base sp held n 3 [c0] = some y0 := by simpa [cellsInt] using hf 0 _ rfl
      have f1 : DataW.trod enc Try.prog W base sp held n 79 [c1] = some y1 := by simpa [cellsKind] using hf 1 _ rfl
      have f2 : DataW.trod enc Try.prog W base sp held n 3 [c2] = some y2 := by simpa [cellsInt] using hf 2 _ rfl
      have f3 : DataW.trod enc Try.prog W base sp held n 3 [c3] = some y3 := by simpa [cellsInt] using hf 3 _ rfl
      have f4 : DataW.trod enc Try.prog W base sp held n 4 [c4] = some y4 := by simpa [cellsBool] using hf 4 _ rfl
      have f5 : DataW.trod enc Try.prog W base sp held n 27 [c5] = some y5 := by simpa [cellsBytes] using hf 5 _ rfl
      obtain ⟨t, rfl, ht⟩ := cs_int f0
      obtain ⟨k, rfl⟩ := cs_kind f1
      obtain ⟨v, rfl, hv⟩ := cs_int f2
      obtain ⟨s, rfl, hs⟩ := cs_int f3
      obtain ⟨g, rfl⟩ := cs_bool f4
      obtain ⟨A, m, c, bs, rfl, hr, h1, h2⟩ := cs_bytes f5
      exact ⟨⟨t, k, v, s, g, bs⟩, A, m, c, rfl, ht, hv, hs, hr, h1, h2⟩
theorem open_entry {v : Value} {d : DataW H} {p : List MemPlace} (hv : Value.okWide Try.prog W r b0 81 v) (h : DataW.Trod enc Try.prog W base sp held 81 v d p) :
    ∃ (e : M.Ent) (A : Option Addr) (n c : Nat), v = .agg #[.int .i64 e.term, B8 e.kind, .int .i64 e.version, .int .i64 e.server, .bool e.good, .slice A n c] ∧ M.inI64 e.term ∧ M.inI64 e.version ∧ M.inI64 e.server ∧ RowRd W ⟨A, n, c⟩ e.data ∧ n ≤ c ∧ c ≤ 9223372036854775807 := by
  obtain ⟨cs, rfl, hsz⟩ := okWide_struct Try.underlying81 hv
  obtain ⟨fuel, hf⟩ := h
  obtain ⟨e, A, n, c, h0, h1⟩ := cs_entry hf
  refine ⟨e, A, n, c, ?_, h1⟩
  have : cs.toList = _ := h0
  rw [← this]
/-- an entry in memory, its first cell at o of block b -/
def EntAt (W : World) (b o : Nat) (e : M.Ent) : Prop := ∃ A n c, (∀ j u, [Value.int .i64 e.term, B8 e.kind, .int .i64 e.version, .int .i64 e.server, .bool e.good, .slice A n c][j]? = some u → W.cell? ⟨b, o + j, none⟩ = some u) ∧ M.inI64 e.term ∧ M.inI64 e.version ∧ M.inI64 e.server ∧ RowRd W ⟨A, n, c⟩ e.data ∧ n ≤ c ∧ c ≤ 9223372036854775807
/-- entries that came in -/
def Ents (W : World) (A : Option Addr) (es : List M.Ent) : Prop := ∀ i, (h : i < es.length) → ∃ b o, A = some ⟨b, o, none⟩ ∧ EntAt W b (o + i * 6) es[i]
theorem EntAt.below {w w' : World} {b o : Nat} {e : M.Ent} (h : EntAt w b o e) (hb : Below w.heap.size w w') : EntAt w' b o e := by
  obtain ⟨A, n, c, hc, h1, h2, h3, h4, h5⟩ := h
  exact ⟨A, n, c, fun j u hu => (hb.cell (p := ⟨b, o + j, none⟩) (block_lt_of_cell (hc j u hu))).trans (hc j u hu), h1, h2, h3, h4.below hb, h5⟩
theorem Ents.below {w w' : World} {A : Option Addr} {es : List M.Ent} (h : Ents w A es) (hb : Below w.heap.size w w') : Ents w' A es := fun i hi => by
  obtain ⟨b, o, e, hc⟩ := h i hi
  exact ⟨b, o, e, hc.below hb⟩
theorem open_entries {v : Value} {d : DataW H} {p : List MemPlace} (hv : Value.okWide Try.prog W r b0 66 v) (h : DataW.Trod enc Try.prog W base sp held 66 v d p) :
    ∃ A n c es, v = .slice A n c ∧ Ents W A es ∧ es.length = n ∧ (A = none → c = 0) ∧ n ≤ c ∧ c ≤ 9223372036854775807 := by
  obtain ⟨A, l, c, rfl⟩ := okWide_slice Try.underlying66 hv
  obtain ⟨fuel, hf⟩ := h
  rcases open_slice Try.underlying66 hf with ⟨hcs, _⟩ | ⟨a, len, cap, m, n, D, Pl, hcs, hb, hl, hm, hmm, hx, hi⟩
  · simp [Value.cells] at hcs
    obtain ⟨rfl, rfl, rfl⟩ := hcs
    exact ⟨none, 0, 0, [], rfl, fun i hi => absurd hi (Nat.not_lt_zero _), rfl, fun _ => rfl, by omega, by omega⟩
  · simp [Value.cells] at hcs
    obtain ⟨rfl, rfl, rfl⟩ := hcs
    unfold maxLen at hm
    have hlm : l ≤ m := by split at hmm <;> omega
    rw [cellsEnt] at hi
    have hev : ∀ i : Nat, ∃ e : M.Ent, i < l → ∃ b o, a = ⟨b, o, none⟩ ∧ EntAt W b (o + i * 6) e := by
      intro i
      by_cases hil : i < l
      · obtain ⟨cs', hc, ht⟩ := hi i (by omega)
        obtain ⟨e, A, n2, c2, rfl, hr⟩ := cs_entry ht
        obtain ⟨_, _, hat⟩ := World.cells?_some hc
        obtain ⟨b, o, s⟩ := a
        obtain ⟨cs0, hc0, ht0⟩ := hi 0 (by omega)
        obtain ⟨_, _, _, _, rfl, _⟩ := cs_entry ht0
        obtain ⟨_, _, hat0⟩ := World.cells?_some hc0
        have hs : s = none := by simpa [Addr.add] using World.cell?_spot ((hat0 0 (by omega)).trans rfl)
        subst hs
        refine ⟨e, fun _ => ⟨b, o, rfl, A, n2, c2, fun j u hu => ?_, hr⟩⟩
        have hj : j < 6 := (List.getElem?_eq_some_iff.1 hu).1
        have h1 := hat j hj
        rw [hu, Addr.add_lit, Addr.add_lit] at h1
        exact h1
      · exact ⟨M.zeroEnt, fun h => absurd h hil⟩
    obtain ⟨f, hf⟩ := Classical.axiomOfChoice hev
    refine ⟨_, _, _, (List.range l).map f, rfl, fun i hi2 => ?_, by simp, (fun h => by cases h), hl, hm⟩
    have hil : i < l := by simpa using hi2
    obtain ⟨b, o, rfl, he⟩ := hf i hil
    exact ⟨b, o, rfl, by simpa using he⟩
end
end Go.Proofs.Ytfpjmeknjhhakaa.K

/- Frames in memory, and frames that came in. -/
namespace Go.Proofs.Ytfpjmeknjhhakaa.K
open Go Go.RowKit Go.ChangeShapes Go.WideShapes Go.Deep

set_option maxRecDepth 100000

/-- a frame in memory, its first cell at o of block b -/
def OneAt (W : World) (b o : Nat) (f : F.Fr) : Prop := ∃ A n c, (∀ j u, [Value.int .i64 f.kind, .slice A n c][j]? = some u → W.cell? ⟨b, o + j, none⟩ = some u) ∧ M.inI64 f.kind ∧ RowRd W ⟨A, n, c⟩ f.data ∧ n ≤ c ∧ c ≤ 9223372036854775807
/-- frames in memory -/
def Ones (W : World) (A : Option Addr) (fs : List F.Fr) : Prop := ∀ i, (h : i < fs.length) → ∃ b o, A = some ⟨b, o, none⟩ ∧ OneAt W b (o + i * 2) fs[i]
theorem OneAt.below {w w' : World} {b o : Nat} {f : F.Fr} (h : OneAt w b o f) (hb : Below w.heap.size w w') : OneAt w' b o f := by
  obtain ⟨A, n, c, hc, h1, h2, h3⟩ := h
  exact ⟨A, n, c, fun j u hu => (hb.cell (p := ⟨b, o + j, none⟩) (block_lt_of_cell (hc j u hu))).trans (hc j u hu), h1, h2.below hb, h3⟩
theorem Ones.below {w w' : World} {A : Option Addr} {fs : List F.Fr} (h : Ones w A fs) (hb : Below w.heap.size w w') : Ones w' A fs := fun i hi => by
  obtain ⟨b, o, e, hc⟩ := h i hi
  exact ⟨b, o, e, hc.below hb⟩
theorem cellsOne : Try.prog.cellsOf 37 = 2 := by kernel_rfl
section
variable {H : Type} {enc : TypeId × Value → H} {W : World} {base b0 : Nat} {sp : Nat → Bool} {held : Bool} {r : Reach}
theorem weights_mem_all {P : Program} {e : TypeId} : ∀ {ds : List (DataW H)} {j : Nat} {d : DataW H}, ds[j]? = some d → ∀ n ∈ d.weights P e, n ∈ DataW.weightsAll P e ds
  | [], _, _, hd, _, _ => by simp at hd
  | x :: r, 0, d, hd, n, hn => by
    simp at hd; subst hd
    rw [DataW.weightsAll]; exact List.mem_append_left _ hn
  | x :: r, j + 1, d, hd, n, hn => by
    simp at hd
    rw [DataW.weightsAll]; exact List.mem_append_right _ (weights_mem_all hd n hn)
theorem bytesOfByte : Try.prog.bytesOf 5 = 1 := by kernel_rfl
/-- bytes that came in, their length under the reach -/
theorem cs_bytesW {fuel : Nat} {v : Value} {x : DataW H × List MemPlace} (h : DataW.trod enc Try.prog W base sp held fuel 27 [v] = some x) :
    ∃ A n c bs, v = .slice A n c ∧ RowRd W ⟨A, n, c⟩ bs ∧ n ≤ c ∧ c ≤ 9223372036854775807 ∧ ((∀ z ∈ x.1.weights Try.prog 27, z ≤ reachBytes) → n ≤ 140737488351232) := by
  rcases open_ints Try.underlying27 Try.underlying5 cellsByte h with ⟨hcs, _⟩ | ⟨a, l, c, zs, hcs, _, hl, hm, hz, hx, hcell, hwz⟩
  · obtain rfl : v = .slice none 0 0 := by simpa using hcs
    exact ⟨none, 0, 0, [], rfl, ⟨Rd.of_nil _ _, rfl, fun _ => rfl⟩, by omega, by omega, fun _ => by omega⟩
  · obtain rfl : v = .slice (some a) l c := by simpa using hcs
    unfold maxLen at hm
    have hlz : l ≤ zs.length := by split at hz <;> omega
    refine ⟨some a, l, c, _, rfl, ⟨Rd.of_ints hcell hwz l, ?_, fun h => by cases h⟩, hl, hm, fun hw => ?_⟩
    · simp only [List.length_map, List.length_take]
      omega
    · have hu : Try.prog.underlying 27 = some (.slice 5) := Try.underlying27
      have := hw (((lits .u8 (zs.take l)).length + (lits .u8 (zs.drop l)).length) * Try.prog.bytesOf 5) (by rw [hx]; simp only [DataW.weights, hu, List.mem_cons]; exact .inl rfl)
      rw [bytesOfByte] at this
      unfold reachBytes at this
      simp [lits] at this
      omega
theorem cs_one {fuel : Nat} {cs : List Value} {x : DataW H × List MemPlace} (h : DataW.trod enc Try.prog W base sp held fuel 37 cs = some x) :
    ∃ (f : F.Fr) (A : Option Addr) (n c : Nat), cs = [.int .i64 f.kind, .slice A n c] ∧ M.inI64 f.kind ∧ RowRd W ⟨A, n, c⟩ f.data ∧ n ≤ c ∧ c ≤ 9223372036854775807 ∧ ((∀ z ∈ x.1.weights Try.prog 37, z ≤ reachBytes) → n ≤ 140737488351232) := by
  obtain ⟨xs, n, _, hx, hlen, hxl, hf⟩ := DataW.trod_struct Try.underlying37 h
  rw [cellsOne] at hlen
  match cs, hlen with
  | [c0, c1], _ =>
    match xs, hxl with
    | [y0, y1], _ =>
      have f0 : DataW.trod enc Try.prog W base sp held n 3 [c0] = some y0 := by simpa [cellsInt] using hf 0 _ rfl
      have f1 : DataW.trod enc Try.prog W base sp held n 27 [c1] = some y1 := by simpa [cellsBytes] using hf 1 _ rfl
      obtain ⟨t, rfl, ht⟩ := cs_int f0
      obtain ⟨A, m, c, bs, rfl, hr, h1, h2, h3⟩ := cs_bytesW f1
      have hu := Try.underlying37
      refine ⟨⟨t, bs⟩, A, m, c, rfl, ht, hr, h1, h2, fun hw => h3 fun z hz => hw z ?_⟩
      rw [hx]
      simp [DataW.weights, hu, DataW.weightsEach]
      exact .inr hz
theorem open_ones {v : Value} {d : DataW H} {p : List MemPlace} (hv : Value.okWide Try.prog W r b0 22 v) (h : DataW.Trod enc Try.prog W base sp held 22 v d p) :
    ∃ A n c fs, v = .slice A n c ∧ Ones W A fs ∧ fs.length = n ∧ (A = none → c = 0) ∧ n ≤ c ∧ c ≤ 9223372036854775807 ∧ ((∀ z ∈ d.weights Try.prog 22, z ≤ reachBytes) → ∀ f ∈ fs, f.data.length ≤ 140737488351232) := by
  obtain ⟨A, l, c, rfl⟩ := okWide_slice Try.underlying22 hv
  obtain ⟨fuel, hf⟩ := h
  rcases open_slice Try.underlying22 hf with ⟨hcs, _⟩ | ⟨a, len, cap, m, n, D, Pl, hcs, hb, hl, hm, hmm, hx, hi⟩
  · simp [Value.cells] at hcs
    obtain ⟨rfl, rfl, rfl⟩ := hcs
    exact ⟨none, 0, 0, [], rfl, fun i hi => absurd hi (Nat.not_lt_zero _), rfl, fun _ => rfl, by omega, by omega, fun _ f hf => by cases hf⟩
  · simp [Value.cells] at hcs
    obtain ⟨rfl, rfl, rfl⟩ := hcs
    unfold maxLen at hm
    have hlm : l ≤ m := by split at hmm <;> omega
    rw [cellsOne] at hi
    have hev : ∀ i : Nat, ∃ f : F.Fr, i < l → ∃ b o, a = ⟨b, o, none⟩ ∧ OneAt W b (o + i * 2) f ∧ ((∀ z ∈ d.weights Try.prog 22, z ≤ reachBytes) → f.data.length ≤ 140737488351232) := by
      intro i
      by_cases hil : i < l
      · obtain ⟨cs', hc, ht⟩ := hi i (by omega)
        obtain ⟨f, A, n2, c2, rfl, hr1, hr2, hr3, hr4, hrw⟩ := cs_one ht
        obtain ⟨_, _, hat⟩ := World.cells?_some hc
        obtain ⟨b, o, s⟩ := a
        obtain ⟨cs0, hc0, ht0⟩ := hi 0 (by omega)
        obtain ⟨_, _, _, _, rfl, _⟩ := cs_one ht0
        obtain ⟨_, _, hat0⟩ := World.cells?_some hc0
        have hs : s = none := by simpa [Addr.add] using World.cell?_spot ((hat0 0 (by omega)).trans rfl)
        subst hs
        refine ⟨f, fun _ => ⟨b, o, rfl, ⟨A, n2, c2, fun j u hu => ?_, hr1, hr2, hr3, hr4⟩, fun hw => by
          rw [show f.data.length = n2 from hr2.len]
          refine hrw fun z hz => hw z ?_
          have hdx : d = .slice ((List.range l).map D) ((List.range (m - l)).map fun j => D (l + j)) := congrArg Prod.fst hx
          have hu := Try.underlying22
          rw [hdx]
          simp only [DataW.weights, hu, List.mem_cons, List.mem_append]
          exact .inr (.inl (weights_mem_all (j := i) (by simp [hil]) z hz))⟩⟩
        have hj : j < 2 := (List.getElem?_eq_some_iff.1 hu).1
        have h1 := hat j hj
        rw [hu, Addr.add_lit, Addr.add_lit] at h1
        exact h1
      · exact ⟨⟨0, []⟩, fun h => absurd h hil⟩
    obtain ⟨f, hf⟩ := Classical.axiomOfChoice hev
    refine ⟨_, _, _, (List.range l).map f, rfl, fun i hi2 => ?_, by simp, (fun h => by cases h), hl, hm, fun hw x hx => ?_⟩
    · have hil : i < l := by simpa using hi2
      obtain ⟨b, o, rfl, he, _⟩ := hf i hil
      exact ⟨b, o, rfl, by simpa using he⟩
    · obtain ⟨i, hi2, rfl⟩ := List.mem_map.1 hx
      obtain ⟨_, _, _, _, he⟩ := hf i (by simpa using hi2)
      exact he hw
end
end Go.Proofs.Ytfpjmeknjhhakaa.K

/- Small parts of frame.Put's contract: boxes as rows of a bank. -/
namespace Go.Proofs.Ytfpjmeknjhhakaa.K
open Go Go.RowKit

/-- what frame.Put tells -/
def pout (fs : List F.Fr) : List (BitVec 8) := if F.perr fs = 0 then F.pbytes fs else []
def PutPost (w : World) (fs : List F.Fr) (e : Ending) (w' : World) : Prop := ∃ A N c, e = .returned (.tuple #[.slice A N c, .int .i64 (F.perr fs)]) ∧ N = (pout fs).length ∧ w'.ownsRow w.heap.size 5 1 (.slice A N c) N (bv (pout fs)) ∧ Since w w'
theorem pbytes_take (fs : List F.Fr) (k : Nat) (h : k < fs.length) : F.pbytes (fs.take (k + 1)) = F.pbytes (fs.take k) ++ F.one fs[k] := by
  rw [List.take_succ_eq_append_getElem h, F.pbytes_append]; simp [F.pbytes]
theorem perr_take_bad (fs : List F.Fr) (k : Nat) (h : k < fs.length) (h0 : F.perr (fs.take k) = 0) (hb : F.errOf fs[k] ≠ 0) : F.perr fs = F.errOf fs[k] := by
  conv => lhs; rw [← List.take_append_drop k fs]
  rw [F.perr_append _ _ h0, List.drop_eq_getElem_cons h, F.perr, if_neg hb]
theorem perr_take_ok (fs : List F.Fr) (k : Nat) (h : k < fs.length) (h0 : F.perr (fs.take k) = 0) (hb : F.errOf fs[k] = 0) : F.perr (fs.take (k + 1)) = 0 := by
  rw [List.take_succ_eq_append_getElem h, F.perr_append _ _ h0, F.perr, if_pos hb]; rfl
theorem pbytes_take_le (fs : List F.Fr) (k : Nat) : (F.pbytes (fs.take k)).length ≤ (F.pbytes fs).length := by
  conv => rhs; rw [← List.take_append_drop k fs, F.pbytes_append]
  simp
end Go.Proofs.Ytfpjmeknjhhakaa.K

/- The contracts of the numbers that frames hold. -/
namespace Go.Proofs.Ytfpjmeknjhhakaa.K
open Go Go.RowKit

/-- a number, so many of its bytes taken in -/
def nums (bs : List (BitVec 8)) (at' : Nat) : Nat → F.W
  | 0 => 0#32
  | j + 1 => (nums bs at' j <<< 8) ||| (bs.getD (at' + j) 0).setWidth 32
theorem nums_four (bs : List (BitVec 8)) (at' : Nat) : nums bs at' 4 = F.num4 (bs.drop at') := by
  unfold F.num4
  rw [← F.of4_loop]
  simp [nums]
set_option maxHeartbeats 1000000 in
theorem number_any (S : Nat) (at' : Nat) (b o n c : Nat) (bs : List (BitVec 8)) (w : World) (hS : w.cell? ⟨S, 0, none⟩ = some (.slice (some ⟨b, o, none⟩) n c)) (hr : RowRd w ⟨some ⟨b, o, none⟩, n, c⟩ bs) (hn : at' + 4 ≤ n) (hc : n ≤ c) (hc2 : c ≤ 9223372036854775807) :
    Calls Try.prog 151 #[.pointer (some ⟨S, 0, none⟩), .int .i64 (at' : Int)] w fun e w' => e = .returned (W32 (F.num4 (bs.drop at'))) ∧ w = w' := by
  have hcv := fun w (x : BitVec 8) => conv_B8_W32 (P := Try.prog) w 5 40 x Try.underlying5 Try.underlying40
  have a0 : (0 : Int) ≤ (at' : Int) := by omega
  have a1 : (at' : Int) ≤ (at' : Int) + 4 := by omega
  have a2 : (at' : Int) + 4 ≤ (c : Int) := by omega
  have a3 : ¬ c = at' := by omega
  have a4 : ((at' : Int) + 4).toNat = at' + 4 := by omega
  have a5 : at' + 4 - at' = 4 := by omega
  have a6 : (at' : Int) + 4 ≤ 9223372036854775807 := by omega
  have HR := Lib.hid hr; have HL := Lib.hid (show bs.length = n from hr.len)
  clear hr
  go_enter Try.func151, Try.ntmps151
  go_wp2
  go_loop [5, 7, 17] (fun v _ i => ∃ j : Nat, j ≤ 4 ∧ i = .int .i64 (j : Int) ∧ v = W32 (nums bs at' j)) (fun _ _ i => 4 - (intOf i).toNat)
  case atStart => exact ⟨0, by omega, rfl, rfl⟩
  case round =>
    obtain ⟨j, hj, rfl, rfl⟩ := hrel
    have j0 : (0 : Int) ≤ (j : Int) := by omega
    by_cases hlt : j < 4
    · have i1 : (j : Int) < 4 := by omega
      have hkl : at' + j < bs.length := by rw [HL.out]; omega
      obtain ⟨b', o', e, hcx⟩ := HR.out.rd (at' + j) hkl
      obtain ⟨rfl, rfl⟩ : b = b' ∧ o = o' := by simpa using e
      have hg : bs[at' + j] = bs.getD (at' + j) 0 := by simp [hkl]
      have hcell : w.cell? ⟨b, o + at' + j, none⟩ = some (B8 (bs.getD (at' + j) 0)) := by rw [← hg, ← hcx, Nat.add_assoc]
      clear e hcx hg hkl
      have HE := Lib.hid (show nums bs at' (j + 1) = (nums bs at' j <<< 8) ||| (bs.getD (at' + j) 0).setWidth 32 from rfl)
      generalize bs.getD (at' + j) 0 = y at *
      generalize nums bs at' j = u at *
      go_wp2
      go_round
      case rel => exact ⟨j + 1, by omega, by go_num, by rw [HE.out]⟩
      case measure => simp [intOf]; omega
    · have i1 : ¬ (j : Int) < 4 := by omega
      obtain rfl : j = 4 := by omega
      go_wp2
      go_ret
      exact ⟨by rw [← nums_four]; rfl, rfl⟩
set_option maxHeartbeats 1000000 in
theorem rnumber_any (b o n c : Nat) (bs : List (BitVec 8)) (w : World) (hr : RowRd w ⟨some ⟨b, o, none⟩, n, c⟩ bs) (hn : 4 ≤ n) (hc : n ≤ 9223372036854775807) :
    Calls Try.prog 78 #[.slice (some ⟨b, o, none⟩) n c] w fun e w' => e = .returned (W32 (F.num4 bs)) ∧ ∃ q, w' = w.drewN q := by
  have hcv := fun w (x : BitVec 8) => conv_B8_W32 (P := Try.prog) w 5 40 x Try.underlying5 Try.underlying40
  have hl : bs.length = n := hr.len
  have cell : ∀ j, j < 4 → w.cell? ⟨b, o + j, none⟩ = some (B8 (bs.getD j 0)) := fun j hj => by
    obtain ⟨b', o', e, hcx⟩ := hr.rd j (by omega)
    obtain ⟨rfl, rfl⟩ : b = b' ∧ o = o' := by simpa using e
    rw [hcx]; simp [show j < bs.length by omega]
  have c0 : w.cell? ⟨b, o, none⟩ = some (B8 (bs.getD 0 0)) := cell 0 (by omega)
  have c1 := cell 1 (by omega)
  have c2 := cell 2 (by omega)
  have c3 := cell 3 (by omega)
  have HE := Lib.hid (show F.num4 bs = F.of4 (bs.getD 0 0) (bs.getD 1 0) (bs.getD 2 0) (bs.getD 3 0) from rfl)
  generalize bs.getD 0 0 = x0 at *
  generalize bs.getD 1 0 = x1 at *
  generalize bs.getD 2 0 = x2 at *
  generalize bs.getD 3 0 = x3 at *
  have i0 : (0 : Int) < (n : Int) := by omega
  have i1 : (1 : Int) < (n : Int) := by omega
  have i2 : (2 : Int) < (n : Int) := by omega
  have i3 : (3 : Int) < (n : Int) := by omega
  have k0 : 0 < n := by omega
  have k1 : 1 < n := by omega
  have k2 : 2 < n := by omega
  have k3 : 3 < n := by omega
  clear cell hr hl
  go_enter Try.func78, Try.ntmps78
  go_wp2
  go_quiet (fail)
  go_wp2
  go_ret
  exact ⟨by rw [HE.out]; rfl, _, rfl⟩
end Go.Proofs.Ytfpjmeknjhhakaa.K
