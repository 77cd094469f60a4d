/- Frames, their sums and their scan as plain Lean functions, and what is known of them. No program in sight. -/
namespace Go.Proofs.Ytfpjmeknjhhakaa.F
abbrev W := BitVec 32
abbrev B := BitVec 8

def poly : W := 0x82F63B78#32
def cstep (w : W) : W := (w >>> 1) ^^^ (if w.getLsbD 0 then poly else 0#32)
def csteps : Nat → W → W
  | 0, w => w
  | n + 1, w => csteps n (cstep w)
def cbyte (w : W) (c : B) : W := csteps 8 (w ^^^ c.setWidth 32)
def crc (w : W) (bs : List B) : W := bs.foldl cbyte w
def fsum (bs : List B) : W := ~~~ crc (~~~0#32) bs

theorem cstep_xor (x y : W) : cstep (x ^^^ y) = cstep x ^^^ cstep y := by
  unfold cstep
  rw [BitVec.ushiftRight_xor_distrib, BitVec.getLsbD_xor]
  cases x.getLsbD 0 <;> cases y.getLsbD 0 <;> simp <;> apply BitVec.eq_of_getLsbD_eq <;> intro i _ <;> simp [BitVec.getLsbD_xor]
  all_goals (cases (x.getLsbD (1 + i)) <;> cases (y.getLsbD (1 + i)) <;> cases poly.getLsbD i <;> rfl)
theorem csteps_xor (n : Nat) (x y : W) : csteps n (x ^^^ y) = csteps n x ^^^ csteps n y := by
  induction n generalizing x y with
  | zero => rfl
  | succ n ih => rw [csteps, csteps, csteps, cstep_xor, ih]
theorem csteps_add (m n : Nat) (x : W) : csteps (m + n) x = csteps n (csteps m x) := by
  induction m generalizing x with
  | zero => simp [csteps]
  | succ m ih => rw [Nat.succ_add, csteps, csteps, ih]
theorem cstep_zero : cstep 0#32 = 0#32 := by decide
theorem csteps_zero (n : Nat) : csteps n 0#32 = 0#32 := by
  induction n with
  | zero => rfl
  | succ n ih => rw [csteps, cstep_zero, ih]
/-- the low bits all nought: a shift -/
theorem csteps_shift (n : Nat) (x : W) (h : ∀ i, i < n → x.getLsbD i = false) : csteps n x = x >>> n := by
  induction n generalizing x with
  | zero => simp [csteps]
  | succ n ih =>
    rw [csteps]
    have h0 : cstep x = x >>> 1 := by unfold cstep; rw [h 0 (by omega)]; simp
    rw [h0, ih]
    · rw [← BitVec.shiftRight_add]; congr 1; omega
    · intro i hi
      rw [BitVec.getLsbD_ushiftRight]; exact h (1 + i) (by omega)
/-- as the program does a byte -/
theorem cbyte_eq (w : W) (c : B) : cbyte w c = (w >>> 8) ^^^ csteps 8 ((w &&& 255#32) ^^^ c.setWidth 32) := by
  unfold cbyte
  have e : w ^^^ c.setWidth 32 = (w &&& ~~~255#32) ^^^ ((w &&& 255#32) ^^^ c.setWidth 32) := by
    rw [← BitVec.xor_assoc]; congr 1
    apply BitVec.eq_of_getLsbD_eq; intro i hi
    simp only [BitVec.getLsbD_xor, BitVec.getLsbD_and, BitVec.getLsbD_not]
    cases w.getLsbD i <;> cases (255#32).getLsbD i <;> simp [hi]
  rw [e, csteps_xor]
  congr 1
  rw [csteps_shift]
  · apply BitVec.eq_of_getLsbD_eq; intro i hi
    rw [BitVec.getLsbD_ushiftRight, BitVec.getLsbD_ushiftRight, BitVec.getLsbD_and, BitVec.getLsbD_not]
    by_cases h : 8 + i < 32
    · have h2 : (255#32).getLsbD (8 + i) = false := by
        have : i < 24 := by omega
        revert i; decide
      rw [h2]; simp [h]
    · rw [BitVec.getLsbD_of_ge w _ (by omega)]; simp
  · intro i hi
    rw [BitVec.getLsbD_and, BitVec.getLsbD_not]
    have h2 : (255#32).getLsbD i = true := by revert i; decide
    simp [h2]
theorem and_neg_one (w : W) : poly &&& -(w &&& 1#32) = if w.getLsbD 0 then poly else 0#32 := by
  have h : w &&& 1#32 = if w.getLsbD 0 then 1#32 else 0#32 := by
    apply BitVec.eq_of_getLsbD_eq; intro i hi
    rw [BitVec.getLsbD_and]
    cases i with
    | zero => cases w.getLsbD 0 <;> simp
    | succ i =>
      have : (1#32).getLsbD (i + 1) = false := by simp [BitVec.getLsbD_one]
      rw [this]; cases w.getLsbD 0 <;> simp [BitVec.getLsbD_one]
  rw [h]; cases w.getLsbD 0
  · simp
  · simp; decide
theorem cstep_eq (w : W) : (w >>> 1) ^^^ (poly &&& -(w &&& 1#32)) = cstep w := by rw [and_neg_one]; rfl
theorem crc_append (w : W) (a b : List B) : crc w (a ++ b) = crc (crc w a) b := by simp [crc]
theorem crc_cons (w : W) (c : B) (b : List B) : crc w (c :: b) = crc (cbyte w c) b := rfl

/-! ### errors -/
theorem poly_top : poly.getLsbD 31 = true := by decide
theorem cstep_inj (x : W) (h : cstep x = 0#32) : x = 0#32 := by
  have h31 : (cstep x).getLsbD 31 = x.getLsbD 0 := by
    unfold cstep
    rw [BitVec.getLsbD_xor, BitVec.getLsbD_ushiftRight, BitVec.getLsbD_of_ge x 32 (by omega)]
    cases x.getLsbD 0 <;> simp [poly_top]
  rw [h] at h31
  have h0 : x.getLsbD 0 = false := by rw [← h31]; simp
  have h1 : cstep x = x >>> 1 := by unfold cstep; rw [h0]; simp
  rw [h1] at h
  apply BitVec.eq_of_getLsbD_eq; intro i hi
  cases i with
  | zero => rw [h0]; simp
  | succ i =>
    have : (x >>> 1).getLsbD i = false := by rw [h]; simp
    rw [BitVec.getLsbD_ushiftRight, Nat.add_comm] at this
    rw [this]; simp
theorem csteps_ne (n : Nat) (x : W) (h : x ≠ 0#32) : csteps n x ≠ 0#32 := by
  induction n generalizing x with
  | zero => exact h
  | succ n ih => rw [csteps]; exact ih _ fun e => h (cstep_inj x e)
/-- bits, one by one -/
def bit (b : Bool) : W := if b then 1#32 else 0#32
def feed (w : W) (l : List Bool) : W := l.foldl (fun w b => cstep (w ^^^ bit b)) w
theorem feed_append (w : W) (a b : List Bool) : feed w (a ++ b) = feed (feed w a) b := by simp [feed]
def bitsOf (c : B) : List Bool := (List.range 8).map fun i => c.getLsbD i
/-- the low k bits of a word fed one by one: the word put on at once, and k steps, if nothing else stands above -/
theorem feed_word (k : Nat) (w x : W) (hx : ∀ i, k ≤ i → x.getLsbD i = false) : feed w ((List.range k).map fun i => x.getLsbD i) = csteps k (w ^^^ x) := by
  induction k generalizing w x with
  | zero =>
    have : x = 0#32 := by apply BitVec.eq_of_getLsbD_eq; intro i _; rw [hx i (by omega)]; simp
    subst this; simp [feed, csteps]
  | succ k ih =>
    rw [List.range_succ_eq_map, List.map_cons, List.map_map]
    show feed (cstep (w ^^^ bit (x.getLsbD 0))) _ = _
    have e : ((fun i => x.getLsbD i) ∘ Nat.succ) = fun i => (x >>> 1).getLsbD i := by
      funext i; simp only [Function.comp, BitVec.getLsbD_ushiftRight]; congr 1; omega
    rw [e, ih]
    · rw [csteps]
      congr 1
      have ex : x = bit (x.getLsbD 0) ^^^ (x &&& ~~~1#32) := by
        apply BitVec.eq_of_getLsbD_eq; intro i hi
        rw [BitVec.getLsbD_xor, BitVec.getLsbD_and, BitVec.getLsbD_not]
        cases i with
        | zero => unfold bit; cases x.getLsbD 0 <;> simp
        | succ i => unfold bit; cases x.getLsbD 0 <;> simp [BitVec.getLsbD_one, hi]
      have e2 : cstep (x &&& ~~~1#32) = x >>> 1 := by
        unfold cstep
        rw [show (x &&& ~~~1#32).getLsbD 0 = false by simp]
        simp only [Bool.false_eq_true, if_false, BitVec.xor_zero]
        apply BitVec.eq_of_getLsbD_eq; intro i hi
        rw [BitVec.getLsbD_ushiftRight, BitVec.getLsbD_ushiftRight, BitVec.getLsbD_and, BitVec.getLsbD_not]
        by_cases h : 1 + i < 32
        · simp [BitVec.getLsbD_one, h]
        · simp [h]; rw [BitVec.getLsbD_of_ge x _ (by omega)]
      conv => rhs; rw [ex, ← BitVec.xor_assoc, cstep_xor, e2]
    · intro i hi
      rw [BitVec.getLsbD_ushiftRight]; exact hx _ (by omega)
theorem cbyte_feed (w : W) (c : B) : cbyte w c = feed w (bitsOf c) := by
  unfold cbyte bitsOf
  rw [← feed_word 8 w (c.setWidth 32)]
  · have e : ((List.range 8).map fun i => (c.setWidth 32).getLsbD i) = (List.range 8).map fun i => c.getLsbD i := by
      apply List.map_congr_left; intro i hi
      rw [BitVec.getLsbD_setWidth]; simp at hi; simp [show i < 32 by omega]
    rw [e]
  · intro i hi
    rw [BitVec.getLsbD_setWidth, BitVec.getLsbD_of_ge c i hi]; simp
theorem crc_feed (w : W) (bs : List B) : crc w bs = feed w (bs.flatMap bitsOf) := by
  induction bs generalizing w with
  | nil => rfl
  | cons c bs ih => rw [crc_cons, List.flatMap_cons, feed_append, ← cbyte_feed, ih]
theorem feed_xor (l e : List Bool) (h : l.length = e.length) (w v : W) : feed (w ^^^ v) (List.zipWith xor l e) = feed w l ^^^ feed v e := by
  induction l generalizing e w v with
  | nil => cases e with
    | nil => rfl
    | cons _ _ => simp at h
  | cons a l ih => cases e with
    | nil => simp at h
    | cons b e =>
      show feed (cstep ((w ^^^ v) ^^^ bit (xor a b))) (List.zipWith xor l e) = feed (cstep (w ^^^ bit a)) l ^^^ feed (cstep (v ^^^ bit b)) e
      rw [← ih e (by simpa using h), ← cstep_xor]
      congr 2
      have : bit (xor a b) = bit a ^^^ bit b := by cases a <;> cases b <;> simp [bit]
      rw [this]
      apply BitVec.eq_of_getLsbD_eq; intro i _
      simp only [BitVec.getLsbD_xor]
      cases w.getLsbD i <;> cases v.getLsbD i <;> cases (bit a).getLsbD i <;> cases (bit b).getLsbD i <;> rfl
theorem feed_noughts (n : Nat) (w : W) : feed w (List.replicate n false) = csteps n w := by
  induction n generalizing w with
  | zero => rfl
  | succ n ih => rw [List.replicate_succ]; show feed (cstep (w ^^^ bit false)) _ = _; rw [ih, csteps]; simp [bit]
theorem feed_burst (a c : Nat) (t : W) (h : t ≠ 0#32) : feed 0#32 (List.replicate a false ++ ((List.range 32).map fun i => t.getLsbD i) ++ List.replicate c false) ≠ 0#32 := by
  rw [feed_append, feed_append, feed_noughts c, feed_noughts a, csteps_zero, feed_word 32 _ t (fun i hi => BitVec.getLsbD_of_ge t i hi)]
  refine csteps_ne _ _ (csteps_ne _ _ ?_)
  simpa using h

/-! ### frames -/
structure Fr where
  kind : Int
  data : List B
deriving DecidableEq
def be4 (n : W) : List B := [(n >>> 24).setWidth 8, (n >>> 16).setWidth 8, (n >>> 8).setWidth 8, n.setWidth 8]
def of4 (a b c d : B) : W := (a.setWidth 32 <<< 24) ||| (b.setWidth 32 <<< 16) ||| (c.setWidth 32 <<< 8) ||| d.setWidth 32
def num4 (l : List B) : W := of4 (l.getD 0 0) (l.getD 1 0) (l.getD 2 0) (l.getD 3 0)
theorem be4_length (n : W) : (be4 n).length = 4 := rfl
theorem of4_be4 (n : W) : of4 ((n >>> 24).setWidth 8) ((n >>> 16).setWidth 8) ((n >>> 8).setWidth 8) (n.setWidth 8) = n := by
  unfold of4
  apply BitVec.eq_of_getLsbD_eq; intro i hi
  simp only [BitVec.getLsbD_or, BitVec.getLsbD_shiftLeft, BitVec.getLsbD_setWidth, BitVec.getLsbD_ushiftRight]
  by_cases h1 : i < 8
  · simp [hi, h1, show i < 16 by omega, show i < 24 by omega]
  · by_cases h2 : i < 16
    · simp [hi, h1, h2, show i < 24 by omega, show i - 8 < 32 by omega, show i - 8 < 8 by omega, show 8 + (i - 8) = i by omega]
    · by_cases h3 : i < 24
      · simp [hi, h1, h2, h3, show i - 16 < 32 by omega, show i - 16 < 8 by omega, show 16 + (i - 16) = i by omega, show ¬ (i - 8 < 8) by omega]
      · simp [hi, h1, h2, h3, show i - 24 < 32 by omega, show i - 24 < 8 by omega, show 24 + (i - 24) = i by omega, show ¬ (i - 8 < 8) by omega, show ¬ (i - 16 < 8) by omega]
theorem be4_of4 (a b c d : B) : be4 (of4 a b c d) = [a, b, c, d] := by
  unfold be4 of4
  have key : ∀ x : B, ∀ i, 8 ≤ i → x.getLsbD i = false := fun x i hi => BitVec.getLsbD_of_ge x i hi
  congr 1
  · apply BitVec.eq_of_getLsbD_eq; intro i hi
    simp only [BitVec.getLsbD_or, BitVec.getLsbD_shiftLeft, BitVec.getLsbD_setWidth, BitVec.getLsbD_ushiftRight]
    simp [hi, show 24 + i < 32 by omega, show ¬ (24 + i < 24) by omega, key _ (24 + i - 16) (by omega), key _ (24 + i - 8) (by omega), key _ (24 + i) (by omega)]
    intro h; omega
  congr 1
  · apply BitVec.eq_of_getLsbD_eq; intro i hi
    simp only [BitVec.getLsbD_or, BitVec.getLsbD_shiftLeft, BitVec.getLsbD_setWidth, BitVec.getLsbD_ushiftRight]
    simp [hi, show 16 + i < 32 by omega, show (16 + i < 24) by omega, key _ (16 + i - 8) (by omega), key _ (16 + i) (by omega), show ¬ (16 + i < 16) by omega, show i < 32 by omega]
  congr 1
  · apply BitVec.eq_of_getLsbD_eq; intro i hi
    simp only [BitVec.getLsbD_or, BitVec.getLsbD_shiftLeft, BitVec.getLsbD_setWidth, BitVec.getLsbD_ushiftRight]
    simp [hi, show 8 + i < 32 by omega, show (8 + i < 24) by omega, show (8 + i < 16) by omega, show ¬ (8 + i < 8) by omega, show i < 32 by omega]
  congr 1
  · apply BitVec.eq_of_getLsbD_eq; intro i hi
    simp only [BitVec.getLsbD_or, BitVec.getLsbD_shiftLeft, BitVec.getLsbD_setWidth, BitVec.getLsbD_ushiftRight]
    simp [hi, show i < 24 by omega, show i < 16 by omega, show i < 32 by omega]
theorem num4_be4 (n : W) (r : List B) : num4 (be4 n ++ r) = n := of4_be4 n
theorem be4_num4 (l : List B) (h : 4 ≤ l.length) : be4 (num4 l) = l.take 4 := by
  match l, h with
  | a :: b :: c :: d :: r, _ => exact be4_of4 a b c d
/-- as the program adds up a number -/
theorem of4_loop (a b c d : B) : (((((0#32 <<< 8 ||| a.setWidth 32) <<< 8 ||| b.setWidth 32) <<< 8) ||| c.setWidth 32) <<< 8) ||| d.setWidth 32 = of4 a b c d := by
  unfold of4
  simp only [BitVec.shiftLeft_or_distrib, ← BitVec.shiftLeft_add, Nat.reduceAdd]
  simp

def five (f : Fr) : List B := BitVec.ofInt 8 f.kind :: be4 (BitVec.ofNat 32 f.data.length)
def one (f : Fr) : List B := five f ++ (be4 (fsum (five f ++ f.data)) ++ f.data)
theorem five_length (f : Fr) : (five f).length = 5 := rfl
theorem one_length (f : Fr) : (one f).length = 9 + f.data.length := by simp [one, five_length, be4_length]; omega
def errOf (f : Fr) : Nat := if f.kind < 0 ∨ 255 < f.kind then 2 else if 262144 < f.data.length then 3 else 0
theorem errOf_ok (f : Fr) : errOf f = 0 ↔ 0 ≤ f.kind ∧ f.kind ≤ 255 ∧ f.data.length ≤ 262144 := by
  unfold errOf; split
  · constructor
    · intro h; cases h
    · omega
  · split
    · constructor
      · intro h; cases h
      · omega
    · constructor
      · intro _; omega
      · intro _; rfl
def perr : List Fr → Nat
  | [] => 0
  | f :: l => if errOf f = 0 then perr l else errOf f
def pbytes (l : List Fr) : List B := l.flatMap one
theorem pbytes_cons (f : Fr) (l : List Fr) : pbytes (f :: l) = one f ++ pbytes l := rfl
theorem pbytes_append (a b : List Fr) : pbytes (a ++ b) = pbytes a ++ pbytes b := by simp [pbytes]
theorem perr_zero (l : List Fr) : perr l = 0 ↔ ∀ f ∈ l, errOf f = 0 := by
  induction l with
  | nil => simp [perr]
  | cons f l ih =>
    rw [perr]
    by_cases h : errOf f = 0
    · rw [if_pos h]; simp [h, ih]
    · rw [if_neg h]; simp [h]
theorem perr_append (a b : List Fr) (h : perr a = 0) : perr (a ++ b) = perr b := by
  induction a with
  | nil => rfl
  | cons f a ih =>
    rw [perr] at h
    by_cases hf : errOf f = 0
    · rw [if_pos hf] at h; rw [List.cons_append, perr, if_pos hf, ih h]
    · rw [if_neg hf] at h; exact absurd h hf

/-! ### the scan -/
/-- the first frame, if it is there whole; and whether it is spoilt -/
def first (l : List B) : Option Fr × Bool :=
  if l.length < 9 then (none, false)
  else if 262144 < (num4 (l.drop 1)).toNat then (none, true)
  else if l.length < 9 + (num4 (l.drop 1)).toNat then (none, false)
  else if num4 (l.drop 5) = fsum (l.take 5 ++ (l.drop 9).take (num4 (l.drop 1)).toNat) then (some ⟨((l.getD 0 0).toNat : Int), (l.drop 9).take (num4 (l.drop 1)).toNat⟩, false)
  else (none, true)
def scanF : Nat → List B → List Fr × Nat × Bool
  | 0, l => ([], 0, (first l).2)
  | n + 1, l => match first l with
    | (none, s) => ([], 0, s)
    | (some f, _) => (f :: (scanF n (l.drop (9 + f.data.length))).1, 9 + f.data.length + (scanF n (l.drop (9 + f.data.length))).2.1, (scanF n (l.drop (9 + f.data.length))).2.2)
theorem take5 (l : List B) (h : 9 ≤ l.length) : l.getD 0 0 :: (l.drop 1).take 4 = l.take 5 := by
  cases l with
  | nil => simp at h
  | cons a b => simp
theorem first_some {l : List B} {f : Fr} {s : Bool} (h : first l = (some f, s)) : errOf f = 0 ∧ one f = l.take (9 + f.data.length) ∧ 9 + f.data.length ≤ l.length ∧ s = false := by
  unfold first at h
  obtain ⟨w, hw⟩ : ∃ w, w = num4 (l.drop 1) := ⟨_, rfl⟩
  rw [← hw] at h
  obtain ⟨n, hn⟩ : ∃ n, n = w.toNat := ⟨_, rfl⟩
  rw [← hn] at h
  by_cases h1 : l.length < 9
  · rw [if_pos h1] at h; cases h
  rw [if_neg h1] at h
  by_cases h2 : 262144 < n
  · rw [if_pos h2] at h; cases h
  rw [if_neg h2] at h
  by_cases h3 : l.length < 9 + n
  · rw [if_pos h3] at h; cases h
  rw [if_neg h3] at h
  by_cases h4 : num4 (l.drop 5) = fsum (l.take 5 ++ (l.drop 9).take n)
  · rw [if_pos h4] at h
    simp only [Prod.mk.injEq, Option.some.injEq] at h
    obtain ⟨h, rfl⟩ := h
    have hl : ((l.drop 9).take n).length = n := by rw [List.length_take, List.length_drop]; omega
    have hfd : f.data = (l.drop 9).take n := by rw [← h]
    have hfk : f.kind = ((l.getD 0 0).toNat : Int) := by rw [← h]
    have hfl : f.data.length = n := by rw [hfd, hl]
    have hb := (l.getD 0 0).isLt
    have hw2 : BitVec.ofNat 32 n = w := by rw [hn]; simp
    have h5 : five f = l.take 5 := by
      unfold five
      rw [hfl, hfk, BitVec.ofInt_natCast, hw2, hw, be4_num4 _ (by rw [List.length_drop]; omega), BitVec.ofNat_toNat, BitVec.setWidth_eq]
      exact take5 l (by omega)
    refine ⟨(errOf_ok _).2 ⟨by rw [hfk]; omega, by rw [hfk]; omega, by rw [hfl]; omega⟩, ?_, by rw [hfl]; omega, rfl⟩
    unfold one
    rw [h5, hfl, hfd, ← h4, be4_num4 _ (by rw [List.length_drop]; omega), ← List.append_assoc]
    rw [show l.take 5 ++ (l.drop 5).take 4 = l.take 9 from (List.take_add (l := l) (i := 5) (j := 4)).symm, ← List.take_add]
  · rw [if_neg h4] at h; cases h
theorem first_one {f : Fr} (h : errOf f = 0) (r : List B) : first (one f ++ r) = (some f, false) := by
  obtain ⟨h0, h1, h2⟩ := (errOf_ok f).1 h
  have e1 : (one f ++ r).drop 1 = be4 (BitVec.ofNat 32 f.data.length) ++ (be4 (fsum (five f ++ f.data)) ++ (f.data ++ r)) := by simp [one, five]
  have e5 : (one f ++ r).drop 5 = be4 (fsum (five f ++ f.data)) ++ (f.data ++ r) := by simp [one, five, be4]
  have e9 : (one f ++ r).drop 9 = f.data ++ r := by simp [one, five, be4]
  have et : (one f ++ r).take 5 = five f := by simp [one, five, be4]
  have e0 : (one f ++ r).getD 0 0 = BitVec.ofInt 8 f.kind := by simp [one, five]
  have hn : (BitVec.ofNat 32 f.data.length).toNat = f.data.length := by rw [BitVec.toNat_ofNat]; omega
  unfold first
  rw [e1, num4_be4, hn, e5, num4_be4, e9, et, e0, List.length_append, one_length, if_neg (by omega), if_neg (by omega), if_neg (by omega), List.take_left, if_pos rfl]
  congr 2
  have : ((BitVec.ofInt 8 f.kind).toNat : Int) = f.kind := by
    rw [BitVec.toNat_ofInt]; omega
  rw [this]
theorem first_cut {f : Fr} (h : errOf f = 0) (k : Nat) (hk : k < (one f).length) : first ((one f).take k) = (none, false) := by
  obtain ⟨h0, h1, h2⟩ := (errOf_ok f).1 h
  rw [one_length] at hk
  unfold first
  have hl : ((one f).take k).length = k := by rw [List.length_take, one_length]; omega
  rw [hl]
  by_cases h9 : k < 9
  · rw [if_pos h9]
  · have e1 : num4 (((one f).take k).drop 1) = BitVec.ofNat 32 f.data.length := by
      have e : ((one f).take k).drop 1 = be4 (BitVec.ofNat 32 f.data.length) ++ ((be4 (fsum (five f ++ f.data)) ++ f.data).take (k - 5)) := by
        rw [List.drop_take]
        have : (one f).drop 1 = be4 (BitVec.ofNat 32 f.data.length) ++ (be4 (fsum (five f ++ f.data)) ++ f.data) := by simp [one, five]
        rw [this, List.take_append, be4_length, List.take_of_length_le (by rw [be4_length]; omega)]; congr 2
      rw [e, num4_be4]
    have hn : (BitVec.ofNat 32 f.data.length).toNat = f.data.length := by rw [BitVec.toNat_ofNat]; omega
    rw [if_neg h9, e1, hn, if_neg (by omega), if_pos (by omega)]

def scan (l : List B) : List Fr × Nat × Bool := scanF l.length l
theorem scanF_fuel (n m : Nat) (l : List B) (hn : l.length ≤ n) (hm : l.length ≤ m) : scanF n l = scanF m l := by
  induction n generalizing m l with
  | zero =>
    obtain rfl : l = [] := List.length_eq_zero_iff.1 (by omega)
    cases m with
    | zero => rfl
    | succ m => simp [scanF, first]
  | succ n ih =>
    cases m with
    | zero =>
      obtain rfl : l = [] := List.length_eq_zero_iff.1 (by omega)
      simp [scanF, first]
    | succ m =>
      rw [scanF, scanF]
      cases hf : first l with
      | mk o s =>
        cases o with
        | none => rfl
        | some f =>
          have := (first_some hf).2.2.1
          show (f :: (scanF n _).1, _ + (scanF n _).2.1, (scanF n _).2.2) = _
          rw [ih m (l.drop (9 + f.data.length)) (by rw [List.length_drop]; omega) (by rw [List.length_drop]; omega)]
theorem scan_none {l : List B} {s : Bool} (h : first l = (none, s)) : scan l = ([], 0, s) := by
  unfold scan
  cases hl : l.length with
  | zero => rw [scanF, h]
  | succ n => rw [scanF, h]
theorem scan_some {l : List B} {f : Fr} {s : Bool} (h : first l = (some f, s)) : scan l = (f :: (scan (l.drop (9 + f.data.length))).1, 9 + f.data.length + (scan (l.drop (9 + f.data.length))).2.1, (scan (l.drop (9 + f.data.length))).2.2) := by
  have h9 := (first_some h).2.2.1
  unfold scan
  obtain ⟨n, hn⟩ : ∃ n, l.length = n + 1 := ⟨l.length - 1, by omega⟩
  rw [hn, scanF, h]
  show (f :: (scanF n _).1, _ + (scanF n _).2.1, (scanF n _).2.2) = _
  rw [scanF_fuel n (l.drop (9 + f.data.length)).length (l.drop (9 + f.data.length)) (by rw [List.length_drop]; omega) (by omega)]
theorem scan_nil : scan [] = ([], 0, false) := rfl
theorem scan_put (fs : List Fr) (h : perr fs = 0) (r : List B) : scan (pbytes fs ++ r) = (fs ++ (scan r).1, (pbytes fs).length + (scan r).2.1, (scan r).2.2) := by
  induction fs with
  | nil => simp [pbytes]
  | cons f fs ih =>
    rw [perr] at h
    by_cases hf : errOf f = 0
    · rw [if_pos hf] at h
      rw [pbytes_cons, List.append_assoc, scan_some (first_one hf _), ← one_length, List.drop_left, ih h]
      simp [Nat.add_assoc]
    · rw [if_neg hf] at h; exact absurd h hf
theorem scan_back (n : Nat) (b : List B) (hn : b.length ≤ n) : perr (scan b).1 = 0 ∧ pbytes (scan b).1 = b.take (scan b).2.1 ∧ (scan b).2.1 ≤ b.length := by
  induction n generalizing b with
  | zero =>
    obtain rfl : b = [] := List.length_eq_zero_iff.1 (by omega)
    exact ⟨rfl, rfl, Nat.le_refl _⟩
  | succ n ih =>
    cases hf : first b with
    | mk o s =>
      cases o with
      | none => rw [scan_none hf]; exact ⟨rfl, rfl, Nat.zero_le _⟩
      | some f =>
        obtain ⟨h1, h2, h3, _⟩ := first_some hf
        obtain ⟨i1, i2, i3⟩ := ih (b.drop (9 + f.data.length)) (by rw [List.length_drop]; omega)
        rw [List.length_drop] at i3
        rw [scan_some hf]
        refine ⟨by show perr (f :: _) = 0; rw [perr, if_pos h1, i1], ?_, by show _ + _ ≤ _; omega⟩
        show pbytes (f :: _) = b.take (_ + _)
        rw [pbytes_cons, i2, h2, ← List.take_add]
theorem scan_cut (fs : List Fr) (h : perr fs = 0) (cut k : Nat) (hk : k ≤ fs.length) (hc : (pbytes (fs.take k)).length ≤ cut) (hn : (hl : k < fs.length) → cut < (pbytes (fs.take k)).length + 9 + fs[k].data.length) :
    scan ((pbytes fs).take cut) = (fs.take k, (pbytes (fs.take k)).length, false) := by
  have hz := (perr_zero fs).1 h
  have hk0 : perr (fs.take k) = 0 := (perr_zero _).2 fun f hf => hz f (List.mem_of_mem_take hf)
  have e : (pbytes fs).take cut = pbytes (fs.take k) ++ (pbytes (fs.drop k)).take (cut - (pbytes (fs.take k)).length) := by
    conv => lhs; rw [← List.take_append_drop k fs, pbytes_append, List.take_append, List.take_of_length_le hc]
  have hs : scan ((pbytes (fs.drop k)).take (cut - (pbytes (fs.take k)).length)) = ([], 0, false) := by
    by_cases hl : k < fs.length
    · have hd : fs.drop k = fs[k] :: fs.drop (k + 1) := List.drop_eq_getElem_cons hl
      have h1 := one_length fs[k]
      have h2 := hn hl
      rw [hd, pbytes_cons, List.take_append_of_le_length (by omega)]
      exact scan_none (first_cut (hz _ (List.getElem_mem _)) _ (by omega))
    · rw [List.drop_of_length_le (by omega)]
      simp [pbytes, scan_nil]
  rw [e, scan_put _ hk0, hs]
  simp
theorem scan_spoilt (fs : List Fr) (h : perr fs = 0) (f : Fr) (hf : errOf f = 0) (d : List B) (hd : d.length = f.data.length) (hs : fsum (five f ++ d) ≠ fsum (five f ++ f.data)) (r : List B) :
    scan (pbytes fs ++ (five f ++ (be4 (fsum (five f ++ f.data)) ++ d) ++ r)) = (fs, (pbytes fs).length, true) := by
  have h2 := ((errOf_ok f).1 hf).2.2
  have e1 : (five f ++ (be4 (fsum (five f ++ f.data)) ++ d) ++ r).drop 1 = be4 (BitVec.ofNat 32 f.data.length) ++ (be4 (fsum (five f ++ f.data)) ++ (d ++ r)) := by simp [five]
  have e5 : (five f ++ (be4 (fsum (five f ++ f.data)) ++ d) ++ r).drop 5 = be4 (fsum (five f ++ f.data)) ++ (d ++ r) := by simp [five, be4]
  have e9 : (five f ++ (be4 (fsum (five f ++ f.data)) ++ d) ++ r).drop 9 = d ++ r := by simp [five, be4]
  have et : (five f ++ (be4 (fsum (five f ++ f.data)) ++ d) ++ r).take 5 = five f := by simp [five, be4]
  have el : (five f ++ (be4 (fsum (five f ++ f.data)) ++ d) ++ r).length = 9 + f.data.length + r.length := by simp [five, be4, hd]; omega
  have hn : (BitVec.ofNat 32 f.data.length).toNat = f.data.length := by rw [BitVec.toNat_ofNat]; omega
  have hff : first (five f ++ (be4 (fsum (five f ++ f.data)) ++ d) ++ r) = (none, true) := by
    unfold first
    rw [e1, num4_be4, hn, e5, num4_be4, e9, et, el, if_neg (by omega), if_neg (by omega), if_neg (by omega), ← hd, List.take_left, if_neg (Ne.symm hs)]
  rw [scan_put _ h, scan_none hff]
  simp

/-! ### bits turned -/
def bitAt (l : List B) (i : Nat) : Bool := (l.getD (i / 8) 0).getLsbD (i % 8)
theorem bits_eq (l : List B) : l.flatMap bitsOf = (List.range (8 * l.length)).map (bitAt l) := by
  induction l with
  | nil => rfl
  | cons c l ih =>
    rw [List.flatMap_cons, ih, List.length_cons, show 8 * (l.length + 1) = 8 + 8 * l.length by omega, List.range_add, List.map_append, List.map_map]
    have h1 : bitsOf c = (List.range 8).map (bitAt (c :: l)) := by
      unfold bitsOf
      apply List.map_congr_left; intro i hi
      simp at hi
      unfold bitAt
      rw [show i / 8 = 0 by omega, show i % 8 = i by omega]; rfl
    rw [h1]
    congr 1
    · apply List.map_congr_left; intro i _
      unfold bitAt
      simp only [Function.comp]
      rw [show (8 + i) / 8 = i / 8 + 1 by omega, show (8 + i) % 8 = i % 8 by omega]
      rfl
def flip (l : List B) (p : Nat) : List B := l.set (p / 8) (l.getD (p / 8) 0 ^^^ (1#8 <<< (p % 8)))
theorem flip_length (l : List B) (p : Nat) : (flip l p).length = l.length := by simp [flip]
theorem one_bit (p i : Nat) (hi : i < 8) : (1#8 <<< p).getLsbD i = decide (i = p) := by
  rw [BitVec.getLsbD_shiftLeft, BitVec.getLsbD_one]
  by_cases h : i = p
  · subst h; simp [hi]
  · by_cases h2 : i < p
    · simp [h, h2]
    · simp [h]; intro _ _; omega
theorem bitAt_flip (l : List B) (p i : Nat) (hp : p / 8 < l.length) : bitAt (flip l p) i = xor (bitAt l i) (decide (i = p)) := by
  unfold bitAt flip
  rw [List.getD_eq_getElem?_getD, List.getElem?_set]
  by_cases h : p / 8 = i / 8
  · rw [if_pos h, if_pos hp, Option.getD_some, BitVec.getLsbD_xor, h, one_bit _ _ (by omega)]
    congr 1
    by_cases h2 : i = p
    · simp [h2]
    · rw [decide_eq_false h2, decide_eq_false (by omega)]
  · rw [if_neg h, decide_eq_false (show ¬ i = p from fun e => h (by rw [e])), ← List.getD_eq_getElem?_getD]; simp
/-- the first k of 32 bits from `a` on, those of t turned -/
def turn (l : List B) (a : Nat) (t : W) : Nat → List B
  | 0 => l
  | k + 1 => if t.getLsbD k then flip (turn l a t k) (a + k) else turn l a t k
theorem turn_length (l : List B) (a : Nat) (t : W) (k : Nat) : (turn l a t k).length = l.length := by
  induction k with
  | zero => rfl
  | succ k ih => rw [turn]; split <;> simp [flip_length, ih]
theorem bitAt_turn (l : List B) (a : Nat) (t : W) (k i : Nat) (h : a + k ≤ 8 * l.length) : bitAt (turn l a t k) i = xor (bitAt l i) (decide (a ≤ i ∧ i < a + k) && t.getLsbD (i - a)) := by
  induction k with
  | zero => rw [turn, decide_eq_false (by omega)]; simp
  | succ k ih =>
    rw [turn]
    split
    · rename_i ht
      rw [bitAt_flip _ _ _ (by rw [turn_length]; omega), ih (by omega)]
      by_cases e : i = a + k
      · subst e
        rw [decide_eq_false (show ¬ (a ≤ a + k ∧ a + k < a + k) by omega), decide_eq_true (show a ≤ a + k ∧ a + k < a + (k + 1) by omega), show a + k - a = k by omega, ht]; simp
      · rw [decide_eq_false e]
        have : decide (a ≤ i ∧ i < a + k) = decide (a ≤ i ∧ i < a + (k + 1)) := by
          rw [decide_eq_decide]; omega
        rw [this]; simp
    · rename_i ht
      rw [ih (by omega)]
      by_cases e : i = a + k
      · subst e
        rw [show a + k - a = k by omega]
        simp only [Bool.not_eq_true] at ht
        rw [ht]; simp
      · have : decide (a ≤ i ∧ i < a + k) = decide (a ≤ i ∧ i < a + (k + 1)) := by
          rw [decide_eq_decide]; omega
        rw [this]
def errs (n a : Nat) (t : W) : List Bool := List.replicate a false ++ ((List.range 32).map fun i => t.getLsbD i) ++ List.replicate (n - a - 32) false
theorem bits_turn (l : List B) (a : Nat) (t : W) (h : a + 32 ≤ 8 * l.length) : (turn l a t 32).flatMap bitsOf = List.zipWith xor (l.flatMap bitsOf) (errs (8 * l.length) a t) := by
  rw [bits_eq, bits_eq, turn_length]
  apply List.ext_getElem?
  intro i
  by_cases hi : i < 8 * l.length
  · rw [List.getElem?_zipWith, List.getElem?_map, List.getElem?_map, List.getElem?_range hi]
    simp only [Option.map_some]
    have he : (errs (8 * l.length) a t)[i]? = some (decide (a ≤ i ∧ i < a + 32) && t.getLsbD (i - a)) := by
      unfold errs
      by_cases h1 : i < a
      · rw [List.append_assoc, List.getElem?_append_left (by simpa using h1), List.getElem?_replicate, if_pos h1, decide_eq_false (by omega)]; rfl
      · by_cases h2 : i < a + 32
        · rw [List.getElem?_append_left (by simp; omega), List.getElem?_append_right (by simp; omega), List.getElem?_map, List.length_replicate, List.getElem?_range (by omega), decide_eq_true (by omega)]
          simp
        · rw [List.getElem?_append_right (by simp; omega), List.getElem?_replicate, if_pos (by simp; omega), decide_eq_false (by omega)]; rfl
    rw [he, bitAt_turn _ _ _ _ _ h]
  · rw [List.getElem?_eq_none (by simp; omega), List.getElem?_eq_none]
    simp [List.length_zipWith]; omega
theorem crc_turn (w : W) (p l : List B) (a : Nat) (t : W) (h : a + 32 ≤ 8 * l.length) (ht : t ≠ 0#32) : crc w (p ++ turn l a t 32) ≠ crc w (p ++ l) := by
  rw [crc_append, crc_append, crc_feed _ (turn l a t 32), crc_feed _ l, bits_turn l a t h]
  obtain ⟨v, hv⟩ : ∃ v, v = crc w p := ⟨_, rfl⟩
  rw [← hv]
  have hl : (l.flatMap bitsOf).length = (errs (8 * l.length) a t).length := by
    rw [bits_eq]; simp [errs]; omega
  have := feed_xor (l.flatMap bitsOf) (errs (8 * l.length) a t) hl v 0#32
  rw [BitVec.xor_zero] at this
  rw [this]
  intro e
  have hb := feed_burst a (8 * l.length - a - 32) t ht
  apply hb
  have e2 : feed v (l.flatMap bitsOf) ^^^ (feed v (l.flatMap bitsOf) ^^^ feed 0#32 (errs (8 * l.length) a t)) = feed v (l.flatMap bitsOf) ^^^ feed v (l.flatMap bitsOf) := by rw [e]
  rw [← BitVec.xor_assoc, BitVec.xor_self, BitVec.zero_xor] at e2
  exact e2
theorem fsum_turn (p l : List B) (a : Nat) (t : W) (h : a + 32 ≤ 8 * l.length) (ht : t ≠ 0#32) : fsum (p ++ turn l a t 32) ≠ fsum (p ++ l) := by
  unfold fsum
  intro e
  exact crc_turn _ p l a t h ht (by simpa using congrArg (fun x => ~~~x) e)
end Go.Proofs.Ytfpjmeknjhhakaa.F
