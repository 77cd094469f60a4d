/- Merged: ShaMath, WireMath, WireRdMath, WireBackMath, NumInv, LetMath, Words, Append. -/
import Derived.WalkKit
import Derived.WalkSpells
import Derived.Lib.Hide
import Derived.Deep.QuietTactic
import Derived.BigQuiet
import Derived.StillTailTactics
import Derived.Laws.CopyOwn
import Derived.Maps.AppendAt
import Derived.Deep.LoopGhost
import Derived.Deep.Draws
import Derived.ArgAppend
import Derived.Deep.AppendLies
/- SHA-256 as plain Lean functions on words of 32 bits, and what is known of them. No program in sight. -/
namespace Go.Proofs.Ytdmpphioflcofaa.M

abbrev W := BitVec 32
abbrev B := BitVec 8

def rot (x : W) (n : Nat) : W := (x >>> n) ||| (x <<< (32 - n))
def word (a b c d : B) : W := (a.setWidth 32 <<< 24) ||| (b.setWidth 32 <<< 16) ||| (c.setWidth 32 <<< 8) ||| d.setWidth 32
def sg0 (x : W) : W := rot x 7 ^^^ rot x 18 ^^^ (x >>> 3)
def sg1 (y : W) : W := rot y 17 ^^^ rot y 19 ^^^ (y >>> 10)
def bs0 (a : W) : W := rot a 2 ^^^ rot a 13 ^^^ rot a 22
def bs1 (e : W) : W := rot e 6 ^^^ rot e 11 ^^^ rot e 25
def ch (e f g : W) : W := (e &&& f) ^^^ (~~~e &&& g)
def maj (a b c : W) : W := (a &&& b) ^^^ (a &&& c) ^^^ (b &&& c)

/-- the first k words of a block's schedule -/
def at32 (l : List W) (i : Nat) : W := l.getD i 0
def at8 (l : List B) (i : Nat) : B := l.getD i 0
def next (l : List W) (t : Nat) : W := at32 l (t - 16) + sg0 (at32 l (t - 15)) + at32 l (t - 7) + sg1 (at32 l (t - 2))
def wordAt (b : List B) (t : Nat) : W := word (at8 b (4 * t)) (at8 b (4 * t + 1)) (at8 b (4 * t + 2)) (at8 b (4 * t + 3))
def sched (b : List B) : Nat → List W
  | 0 => []
  | t + 1 => sched b t ++ [if t < 16 then wordAt b t else next (sched b t) t]
theorem sched_length (b : List B) (t : Nat) : (sched b t).length = t := by
  induction t with
  | zero => rfl
  | succ t ih => simp [sched, ih]

structure St where
  a : W
  b : W
  c : W
  d : W
  e : W
  f : W
  g : W
  h : W
deriving DecidableEq

def one (s : St) (k w : W) : W := s.h + bs1 s.e + ch s.e s.f s.g + k + w
def two (s : St) : W := bs0 s.a + maj s.a s.b s.c
def rnd (s : St) (k w : W) : St := ⟨one s k w + two s, s.a, s.b, s.c, s.d + one s k w, s.e, s.f, s.g⟩
def St.add (s o : St) : St := ⟨s.a + o.a, s.b + o.b, s.c + o.c, s.d + o.d, s.e + o.e, s.f + o.f, s.g + o.g, s.h + o.h⟩
def St.list (s : St) : List W := [s.a, s.b, s.c, s.d, s.e, s.f, s.g, s.h]

def kList : List W := [1116352408, 1899447441, 3049323471, 3921009573, 961987163, 1508970993, 2453635748, 2870763221, 3624381080, 310598401, 607225278, 1426881987, 1925078388, 2162078206, 2614888103, 3248222580, 3835390401, 4022224774, 264347078, 604807628, 770255983, 1249150122, 1555081692, 1996064986, 2554220882, 2821834349, 2952996808, 3210313671, 3336571891, 3584528711, 113926993, 338241895, 666307205, 773529912, 1294757372, 1396182291, 1695183700, 1986661051, 2177026350, 2456956037, 2730485921, 2820302411, 3259730800, 3345764771, 3516065817, 3600352804, 4094571909, 275423344, 430227734, 506948616, 659060556, 883997877, 958139571, 1322822218, 1537002063, 1747873779, 1955562222, 2024104815, 2227730452, 2361852424, 2428436474, 2756734187, 3204031479, 3329325298]
def first : St := ⟨1779033703, 3144134277, 1013904242, 2773480762, 1359893119, 2600822924, 528734635, 1541459225⟩

/-- t rounds over the words ws -/
def rounds (s : St) (ws : List W) : Nat → St
  | 0 => s
  | t + 1 => rnd (rounds s ws t) (at32 kList t) (at32 ws t)
def take (s : St) (blk : List B) : St := (rounds s (sched blk 64) 64).add s

/-- the length's eight bytes, the highest first -/
def be8 (n : Nat) : List B := (List.range 8).map fun i => BitVec.ofNat 8 (n >>> (8 * (7 - i)))
def total (n : Nat) : Nat := (n + 8) / 64 * 64 + 64
def message (bs : List B) : List B := bs ++ [128#8] ++ List.replicate (total bs.length - bs.length - 9) 0#8 ++ be8 (bs.length * 8)
theorem total_ge (n : Nat) : n + 9 ≤ total n := by unfold total; omega
theorem total_mod (n : Nat) : total n % 64 = 0 := by unfold total; omega
theorem message_length (bs : List B) : (message bs).length = total bs.length := by
  have := total_ge bs.length
  simp [message, be8]; omega

/-- k blocks of m taken in -/
def after (m : List B) : Nat → St
  | 0 => first
  | k + 1 => take (after m k) ((m.drop (64 * k)).take 64)
theorem after_succ (m : List B) (k : Nat) : take (after m k) ((m.drop (64 * k)).take 64) = after m (k + 1) := rfl
def bytesOf (w : W) : List B := [(w >>> 24).setWidth 8, (w >>> 16).setWidth 8, (w >>> 8).setWidth 8, w.setWidth 8]
def digest (s : St) : List B := s.list.flatMap bytesOf
def sum (bs : List B) : List B := digest (after (message bs) (total bs.length / 64))
theorem sum_length (bs : List B) : (sum bs).length = 32 := rfl

end Go.Proofs.Ytdmpphioflcofaa.M

/- Numbers, bytes and entries as bytes: plain Lean functions. No program in sight. -/
namespace Go.Proofs.Ytdmpphioflcofaa.M
abbrev U64 := BitVec 64
/-- the byte of a number that stands i bytes above the lowest one -/
def byteOf (n : Int) (i : Nat) : B := (BitVec.ofInt 64 n >>> (8 * i)).setWidth 8
/-- a number's bytes, the highest first -/
def num (n : Int) : List B := (List.range 8).map fun i => byteOf n (7 - i)
theorem num_length (n : Int) : (num n).length = 8 := rfl
theorem byteOf_int (n : Int) (i : Nat) (h : i < 8) : ((byteOf n i).toNat : Int) = n / 2 ^ (8 * i) % 256 := by
  unfold byteOf
  rw [BitVec.toNat_setWidth, BitVec.toNat_ushiftRight, BitVec.toNat_ofInt, Nat.shiftRight_eq_div_pow]
  rcases i with _ | _ | _ | _ | _ | _ | _ | _ | i
  all_goals first | omega | (simp only [Nat.reduceMul, Nat.reduceAdd, Nat.reducePow, Int.reducePow]; omega)
/-- bytes with how many they are ahead -/
def blob (b : List B) : List B := num b.length ++ b
theorem blob_length (b : List B) : (blob b).length = 8 + b.length := by simp [blob, num_length]
structure Ent where
  term : Int
  kind : BitVec 8
  version : Int
  server : Int
  good : Bool
  data : List B
def flag (b : Bool) : Int := if b then 1 else 0
def ent (e : Ent) : List B := num e.term ++ num e.kind.toNat ++ num e.version ++ num e.server ++ num (flag e.good) ++ blob e.data
end Go.Proofs.Ytdmpphioflcofaa.M

/- What is read of bytes, as plain Lean functions: a reader is what is left, or none (bad). -/
namespace Go.Proofs.Ytdmpphioflcofaa.M
def w64 (l : List B) : U64 := l.foldl (fun a x => 256 * a + x.setWidth 64) 0
def val (l : List B) : Int := (w64 l).toInt
theorem w64_snoc (l : List B) (x : B) : w64 (l ++ [x]) = 256 * w64 l + x.setWidth 64 := by simp [w64, List.foldl_append]
theorem shift_or (a : U64) (x : B) : (a <<< 8) ||| x.setWidth 64 = 256 * a + x.setWidth 64 := by
  have h : (a <<< 8) &&& x.setWidth 64 = 0#64 := by
    apply BitVec.eq_of_getLsbD_eq
    intro i hi
    rw [BitVec.getLsbD_and, BitVec.getLsbD_shiftLeft, BitVec.getLsbD_setWidth]
    by_cases h : i < 8
    · simp [h]
    · rw [BitVec.getLsbD_of_ge x i (by omega)]; simp
  rw [← BitVec.add_eq_or_of_and_eq_zero _ _ h]
  congr 1
  apply BitVec.eq_of_toNat_eq
  rw [BitVec.toNat_shiftLeft, BitVec.toNat_mul, Nat.shiftLeft_eq, Nat.mul_comm]; rfl
theorem byteOf_nat (n : Int) (i : Nat) (h : i < 8) : (byteOf n i).toNat = (BitVec.ofInt 64 n).toNat / 2 ^ (8 * i) % 256 := by
  unfold byteOf
  rw [BitVec.toNat_setWidth, BitVec.toNat_ushiftRight, Nat.shiftRight_eq_div_pow]
theorem w64_step {a : U64} {x : B} {N p q : Nat} (ha : a.toNat = N / p) (hx : x.toNat = N / q % 256) (hp : p = q * 256) (hN : N < 18446744073709551616) : (256 * a + x.setWidth 64).toNat = N / q := by
  have h256 : (256 : U64).toNat = 256 := rfl
  rw [BitVec.toNat_add, BitVec.toNat_mul, BitVec.toNat_setWidth, ha, hx, h256, hp, ← Nat.div_div_eq_div_mul]
  have hm : N / q ≤ N := Nat.div_le_self _ _
  generalize N / q = m at *
  omega
theorem w64_num (n : Int) : w64 (num n) = BitVec.ofInt 64 n := by
  apply BitVec.eq_of_toNat_eq
  have hN := (BitVec.ofInt 64 n).isLt
  have e : num n = [byteOf n 7, byteOf n 6, byteOf n 5, byteOf n 4, byteOf n 3, byteOf n 2, byteOf n 1, byteOf n 0] := rfl
  have h0 : (0 : U64).toNat = (BitVec.ofInt 64 n).toNat / 2 ^ 64 := by
    rw [Nat.div_eq_of_lt hN]; rfl
  have s7 := w64_step h0 (byteOf_nat n 7 (by omega)) (by decide) hN
  have s6 := w64_step s7 (byteOf_nat n 6 (by omega)) (by decide) hN
  have s5 := w64_step s6 (byteOf_nat n 5 (by omega)) (by decide) hN
  have s4 := w64_step s5 (byteOf_nat n 4 (by omega)) (by decide) hN
  have s3 := w64_step s4 (byteOf_nat n 3 (by omega)) (by decide) hN
  have s2 := w64_step s3 (byteOf_nat n 2 (by omega)) (by decide) hN
  have s1 := w64_step s2 (byteOf_nat n 1 (by omega)) (by decide) hN
  have s0 := w64_step s1 (byteOf_nat n 0 (by omega)) (by decide) hN
  rw [e]
  simp only [w64, List.foldl_cons, List.foldl_nil]
  rw [s0]
  simp
theorem val_num (n : Int) (h0 : -9223372036854775808 ≤ n) (h1 : n ≤ 9223372036854775807) : val (num n) = n := by
  rw [val, w64_num, BitVec.toInt_ofInt]
  exact Int.bmod_eq_of_le (by omega) (by omega)
/-- a reader: what is left, or bad -/
abbrev Rdr := Option (List B)
def rdNumber : Rdr → Int × Rdr
  | none => (0, none)
  | some l => if l.length < 8 then (0, none) else (val (l.take 8), some (l.drop 8))
def rdBytes (s : Rdr) : List B × Rdr :=
  match rdNumber s with
  | (_, none) => ([], none)
  | (n, some l) => if n < 0 ∨ (l.length : Int) < n then ([], none) else (l.take n.toNat, some (l.drop n.toNat))
def zeroEnt : Ent := ⟨0, 0#8, 0, 0, false, []⟩
def rdEntry (s : Rdr) : Ent × Rdr :=
  let p1 := rdNumber s
  let p2 := rdNumber p1.2
  let p3 := rdNumber p2.2
  let p4 := rdNumber p3.2
  let p5 := rdNumber p4.2
  let p6 := rdBytes p5.2
  if p6.2 = none ∨ p2.1 < 0 ∨ 255 < p2.1 ∨ p5.1 < 0 ∨ 1 < p5.1 then (zeroEnt, none) else (⟨p1.1, BitVec.ofInt 8 p2.1, p3.1, p4.1, p5.1 == 1, p6.1⟩, p6.2)
end Go.Proofs.Ytdmpphioflcofaa.M

/- What was written is read back; a beginning of it is bad: plain Lean. -/
namespace Go.Proofs.Ytdmpphioflcofaa.M
/-- st reads the bytes enc: whole, it goes on behind them; cut, it is bad -/
structure Eats (st : Rdr → Rdr) (enc : List B) : Prop where
  full : ∀ t, st (some (enc ++ t)) = some t
  cut : ∀ k, k < enc.length → st (some (enc.take k)) = none
  bad : st none = none
theorem Eats.comp {f g : Rdr → Rdr} {a b : List B} (h : Eats f a) (h' : Eats g b) : Eats (fun s => g (f s)) (a ++ b) where
  full t := by rw [List.append_assoc, h.full, h'.full]
  cut k hk := by
    rw [List.length_append] at hk
    by_cases hl : k < a.length
    · rw [List.take_append_of_le_length (by omega), h.cut k hl, h'.bad]
    · rw [List.take_append, List.take_of_length_le (by omega), h.full, h'.cut _ (by omega)]
  bad := by rw [h.bad, h'.bad]
theorem Eats.id : Eats (fun s => s) [] := ⟨fun _ => rfl, fun k hk => absurd hk (Nat.not_lt_zero _), rfl⟩
def inI64 (n : Int) : Prop := -9223372036854775808 ≤ n ∧ n ≤ 9223372036854775807
theorem rdNumber_num (n : Int) (t : List B) (h : inI64 n) : rdNumber (some (num n ++ t)) = (n, some t) := by
  have hl := num_length n
  simp only [rdNumber]
  rw [if_neg (by rw [List.length_append]; omega), List.take_left' hl, List.drop_left' hl, val_num n h.1 h.2]
theorem rdNumber_short (l : List B) (h : l.length < 8) : rdNumber (some l) = (0, none) := by simp only [rdNumber]; rw [if_pos h]
theorem eats_num (n : Int) (h : inI64 n) : Eats (fun s => (rdNumber s).2) (num n) where
  full t := by rw [rdNumber_num n t h]
  cut k hk := by
    rw [num_length] at hk
    rw [rdNumber_short _ (by rw [List.length_take]; omega)]
  bad := rfl
theorem rdBytes_blob (b t : List B) (h : b.length ≤ 1000000000000) : rdBytes (some (blob b ++ t)) = (b, some t) := by
  unfold rdBytes blob
  rw [List.append_assoc, rdNumber_num _ _ ⟨by omega, by omega⟩]
  simp only
  rw [if_neg (by rw [List.length_append]; omega)]
  simp
theorem eats_blob (b : List B) (h : b.length ≤ 1000000000000) : Eats (fun s => (rdBytes s).2) (blob b) where
  full t := by rw [rdBytes_blob b t h]
  cut k hk := by
    have hl : (num (b.length : Int)).length = 8 := num_length _
    unfold blob at hk ⊢
    rw [List.length_append, hl] at hk
    unfold rdBytes
    by_cases h8 : k < 8
    · rw [rdNumber_short _ (by rw [List.length_take]; omega)]
    · rw [List.take_append, List.take_of_length_le (by omega), rdNumber_num _ _ ⟨by omega, by omega⟩]
      simp only
      rw [if_pos (by rw [List.length_take, hl]; omega)]
  bad := rfl
theorem rdEntry_bad : rdEntry none = (zeroEnt, none) := by
  simp only [rdEntry, show rdNumber none = (0, none) from rfl, show rdBytes none = ([], none) from rfl, true_or, if_true]
structure Ent.Ok (e : Ent) : Prop where
  term : inI64 e.term
  version : inI64 e.version
  server : inI64 e.server
  data : e.data.length ≤ 1000000000000
theorem rdEntry_ent (e : Ent) (t : List B) (h : e.Ok) : rdEntry (some (ent e ++ t)) = (e, some t) := by
  have hk : inI64 (e.kind.toNat : Int) := ⟨by omega, by have := e.kind.isLt; omega⟩
  have hf : inI64 (flag e.good) := by unfold flag; split <;> exact ⟨by omega, by omega⟩
  have hf01 : ¬ flag e.good < 0 ∧ ¬ 1 < flag e.good := by unfold flag; split <;> exact ⟨by omega, by omega⟩
  have hg : (flag e.good == 1) = e.good := by unfold flag; cases e.good <;> rfl
  have hk8 : BitVec.ofInt 8 (e.kind.toNat : Int) = e.kind := by
    apply BitVec.eq_of_toNat_eq
    have := e.kind.isLt
    rw [BitVec.toNat_ofInt]; omega
  unfold ent
  simp only [List.append_assoc, rdEntry]
  rw [rdNumber_num _ _ h.term]
  simp only
  rw [rdNumber_num _ _ hk]
  simp only
  rw [rdNumber_num _ _ h.version]
  simp only
  rw [rdNumber_num _ _ h.server]
  simp only
  rw [rdNumber_num _ _ hf]
  simp only
  rw [rdBytes_blob _ _ h.data]
  have hlt := e.kind.isLt
  rw [if_neg (by simp only [reduceCtorEq, false_or]; omega), hg, hk8]
theorem rdEntry_last (s : Rdr) (h : (rdBytes (rdNumber (rdNumber (rdNumber (rdNumber (rdNumber s).2).2).2).2).2).2 = none) : rdEntry s = (zeroEnt, none) := by
  simp only [rdEntry]
  rw [if_pos (.inl h)]
theorem eats_ent (e : Ent) (h : e.Ok) : Eats (fun s => (rdEntry s).2) (ent e) where
  full t := by rw [rdEntry_ent e t h]
  cut k hk := by
    have hkk : inI64 (e.kind.toNat : Int) := ⟨by omega, by have := e.kind.isLt; omega⟩
    have hf : inI64 (flag e.good) := by unfold flag; split <;> exact ⟨by omega, by omega⟩
    have hc := (((((eats_num _ h.term).comp (eats_num _ hkk)).comp (eats_num _ h.version)).comp (eats_num _ h.server)).comp (eats_num _ hf)).comp (eats_blob _ h.data)
    exact congrArg Prod.snd (rdEntry_last (some ((ent e).take k)) (hc.cut k hk))
  bad := by rw [rdEntry_bad]
/-- entries, one behind the other -/
def ents (l : List Ent) : List B := l.flatMap ent
def rdAll : List Ent → Rdr → Rdr
  | [], s => s
  | _ :: l, s => rdAll l (rdEntry s).2
theorem eats_all (l : List Ent) (h : ∀ e ∈ l, e.Ok) : Eats (rdAll l) (ents l) := by
  induction l with
  | nil => exact Eats.id
  | cons e l ih =>
    have h1 := (eats_ent e (h e (List.mem_cons_self ..))).comp (ih fun x hx => h x (List.mem_cons_of_mem _ hx))
    exact h1
theorem rdAll_snoc (l : List Ent) (e : Ent) (s : Rdr) : rdAll (l ++ [e]) s = (rdEntry (rdAll l s)).2 := by
  induction l generalizing s with
  | nil => rfl
  | cons x l ih => exact ih _
theorem ents_snoc (l : List Ent) (e : Ent) : ents (l ++ [e]) = ents l ++ ent e := by simp [ents]
theorem ent_length (e : Ent) : (ent e).length = 48 + e.data.length := by simp [ent, num_length, blob_length]; omega
end Go.Proofs.Ytdmpphioflcofaa.M

/- Eight bytes read as a number are that number's bytes; what was read of bytes stood there. -/
namespace Go.Proofs.Ytdmpphioflcofaa.M
set_option maxHeartbeats 4000000 in
/-- eight bytes read as a number are that number's bytes -/
theorem num_val (l : List B) (h : l.length = 8) : num (val l) = l := by
  match l, h with
  | [a0, a1, a2, a3, a4, a5, a6, a7], _ =>
    have hN : (w64 [a0, a1, a2, a3, a4, a5, a6, a7]).toNat = a0.toNat * 72057594037927936 + a1.toNat * 281474976710656 + a2.toNat * 1099511627776 + a3.toNat * 4294967296 + a4.toNat * 16777216 + a5.toNat * 65536 + a6.toNat * 256 + a7.toNat := by
      have i0 := a0.isLt; have i1 := a1.isLt; have i2 := a2.isLt; have i3 := a3.isLt; have i4 := a4.isLt; have i5 := a5.isLt; have i6 := a6.isLt; have i7 := a7.isLt
      simp only [w64, List.foldl_cons, List.foldl_nil, BitVec.toNat_add, BitVec.toNat_mul, BitVec.toNat_setWidth]
      rw [show (256 : U64).toNat = 256 from rfl, show (0 : U64).toNat = 0 from rfl]
      omega
    have e : BitVec.ofInt 64 (val [a0, a1, a2, a3, a4, a5, a6, a7]) = w64 [a0, a1, a2, a3, a4, a5, a6, a7] := by rw [val, BitVec.ofInt_toInt]
    have hb : ∀ i, i < 8 → (byteOf (val [a0, a1, a2, a3, a4, a5, a6, a7]) i).toNat = (w64 [a0, a1, a2, a3, a4, a5, a6, a7]).toNat / 2 ^ (8 * i) % 256 := fun i hi => by rw [byteOf_nat _ i hi, e]
    have i0 := a0.isLt; have i1 := a1.isLt; have i2 := a2.isLt; have i3 := a3.isLt; have i4 := a4.isLt; have i5 := a5.isLt; have i6 := a6.isLt; have i7 := a7.isLt
    rw [hN] at hb
    show [byteOf _ 7, byteOf _ 6, byteOf _ 5, byteOf _ 4, byteOf _ 3, byteOf _ 2, byteOf _ 1, byteOf _ 0] = _
    have k0 := hb 0 (by omega); have k1 := hb 1 (by omega); have k2 := hb 2 (by omega); have k3 := hb 3 (by omega); have k4 := hb 4 (by omega); have k5 := hb 5 (by omega); have k6 := hb 6 (by omega); have k7 := hb 7 (by omega)
    simp only [Nat.reduceMul, Nat.reducePow] at k0 k1 k2 k3 k4 k5 k6 k7
    have q0 : byteOf (val [a0, a1, a2, a3, a4, a5, a6, a7]) 0 = a7 := BitVec.eq_of_toNat_eq (by rw [k0]; omega)
    have q1 : byteOf (val [a0, a1, a2, a3, a4, a5, a6, a7]) 1 = a6 := BitVec.eq_of_toNat_eq (by rw [k1]; omega)
    have q2 : byteOf (val [a0, a1, a2, a3, a4, a5, a6, a7]) 2 = a5 := BitVec.eq_of_toNat_eq (by rw [k2]; omega)
    have q3 : byteOf (val [a0, a1, a2, a3, a4, a5, a6, a7]) 3 = a4 := BitVec.eq_of_toNat_eq (by rw [k3]; omega)
    have q4 : byteOf (val [a0, a1, a2, a3, a4, a5, a6, a7]) 4 = a3 := BitVec.eq_of_toNat_eq (by rw [k4]; omega)
    have q5 : byteOf (val [a0, a1, a2, a3, a4, a5, a6, a7]) 5 = a2 := BitVec.eq_of_toNat_eq (by rw [k5]; omega)
    have q6 : byteOf (val [a0, a1, a2, a3, a4, a5, a6, a7]) 6 = a1 := BitVec.eq_of_toNat_eq (by rw [k6]; omega)
    have q7 : byteOf (val [a0, a1, a2, a3, a4, a5, a6, a7]) 7 = a0 := BitVec.eq_of_toNat_eq (by rw [k7]; omega)
    rw [q0, q1, q2, q3, q4, q5, q6, q7]
theorem rdNumber_inv {l t : List B} {n : Int} (h : rdNumber (some l) = (n, some t)) : l = num n ++ t := by
  simp only [rdNumber] at h
  split at h
  · cases h
  · simp only [Prod.mk.injEq, Option.some.injEq] at h
    obtain ⟨rfl, rfl⟩ := h
    rw [num_val _ (by rw [List.length_take]; omega), List.take_append_drop]
theorem rdBytes_inv {s : Rdr} {b t : List B} (h : rdBytes s = (b, some t)) : ∃ l, s = some l ∧ l = blob b ++ t := by
  cases s with
  | none => simp [rdBytes, rdNumber] at h
  | some l =>
    refine ⟨l, rfl, ?_⟩
    unfold rdBytes at h
    cases hn : rdNumber (some l) with
    | mk n o =>
      rw [hn] at h
      cases o with
      | none => simp at h
      | some r =>
        simp only at h
        split at h
        · cases h
        · rename_i hc
          simp only [Prod.mk.injEq, Option.some.injEq] at h
          obtain ⟨rfl, rfl⟩ := h
          have e := rdNumber_inv hn
          have hl : ((r.take n.toNat).length : Int) = n := by rw [List.length_take]; omega
          rw [blob, hl, List.append_assoc, List.take_append_drop]
          exact e
theorem rdNumber_inv' {s : Rdr} {t : List B} (h : (rdNumber s).2 = some t) : ∃ l, s = some l ∧ l = num (rdNumber s).1 ++ t := by
  cases s with
  | none => cases h
  | some l => exact ⟨l, rfl, rdNumber_inv (Prod.ext rfl h)⟩
end Go.Proofs.Ytdmpphioflcofaa.M

/- Letters as plain Lean functions: whether one is right, its bytes, what bytes are one. No program in sight. -/
namespace Go.Proofs.Ytdmpphioflcofaa.M
structure Let where
  kind : BitVec 8
  src : Int
  dst : Int
  term : Int
  index : Int
  was : Int
  ok : Bool
  commit : Int
  version : Int
  ents : List Ent
def zeroLet : Let := ⟨0#8, 0, 0, 0, 0, 0, false, 0, 0, []⟩
/-- from one to another -/
def wi (n a b : Int) : Bool := decide (a ≤ n) && decide (n ≤ b)
theorem wi_iff (n a b : Int) : wi n a b = true ↔ a ≤ n ∧ n ≤ b := by simp [wi]
def tm (n : Int) : Bool := wi n 0 1099511627776
def ix (n : Int) : Bool := wi n 0 1073741824
def z (n : Int) : Bool := n == 0
def lask (l : Let) : Bool := [!l.ok].all id && [l.commit, l.version, (l.ents.length : Int)].all z && ([l.term, l.was].all tm && [l.index].all ix)
def lvote (l : Let) : Bool := [l.index, l.was, l.commit, l.version, (l.ents.length : Int)].all z && ([l.term].all tm && [].all ix)
def lputs (l : Let) : Bool := [!l.ok, decide ((l.ents.length : Int) ≤ 4)].all id && [l.version].all z && ([l.term, l.was].all tm && [l.index, l.commit].all ix) && l.ents.all fun e => tm e.term
def ldone (l : Let) : Bool := [l.was, l.commit, l.version, (l.ents.length : Int)].all z && ([l.term].all tm && [l.index].all ix)
def lack (l : Let) : Bool := [l.term, l.index, l.was, l.commit, (l.ents.length : Int)].all z && wi l.version 1 1073741824
def lkind (l : Let) : Bool := if l.kind = 1#8 then lask l else if l.kind = 2#8 then lvote l else if l.kind = 3#8 then lputs l else if l.kind = 4#8 then ldone l else if l.kind = 5#8 then lack l else false
/-- P24.1 -/
def lright (l : Let) : Bool := wi l.src 1 7 && wi l.dst 1 7 && lkind l
def lnums (l : Let) : List Int := [l.kind.toNat, l.src, l.dst, l.term, l.index, l.was, flag l.ok, l.commit, l.version, l.ents.length]
def nums (l : List Int) : List B := l.flatMap num
theorem nums_snoc (l : List Int) (n : Int) : nums (l ++ [n]) = nums l ++ num n := by simp [nums]
theorem nums_length (l : List Int) : (nums l).length = 8 * l.length := by
  induction l with
  | nil => rfl
  | cons n l ih => rw [nums, List.flatMap_cons, List.length_append, num_length]; simp only [nums] at ih; rw [ih, List.length_cons]; omega
def lbytes (l : Let) : List B := nums (lnums l) ++ ents l.ents
def lput (l : Let) : List B := if lright l then lbytes l else []
def lputE (l : Let) : Nat := if lright l then 0 else 4
/-- so many numbers are read -/
def rdNums (s : Rdr) : Nat → List Int × Rdr
  | 0 => ([], s)
  | k + 1 => ((rdNums s k).1 ++ [(rdNumber (rdNums s k).2).1], (rdNumber (rdNums s k).2).2)
theorem rdNums_length (s : Rdr) (k : Nat) : (rdNums s k).1.length = k := by
  induction k with
  | zero => rfl
  | succ k ih => rw [rdNums, List.length_append, ih]; rfl
def rdEnts (s : Rdr) : Nat → List Ent × Rdr
  | 0 => ([], s)
  | k + 1 => ((rdEnts s k).1 ++ [(rdEntry (rdEnts s k).2).1], (rdEntry (rdEnts s k).2).2)
theorem rdEnts_length (s : Rdr) (k : Nat) : (rdEnts s k).1.length = k := by
  induction k with
  | zero => rfl
  | succ k ih => rw [rdEnts, List.length_append, ih]; rfl
/-- the letter that the numbers and entries make -/
def lof (ns : List Int) (es : List Ent) : Let := ⟨BitVec.ofInt 8 (ns.getD 0 0), ns.getD 1 0, ns.getD 2 0, ns.getD 3 0, ns.getD 4 0, ns.getD 5 0, ns.getD 6 0 == 1, ns.getD 7 0, ns.getD 8 0, es⟩
def lfits (ns : List Int) : Bool := wi (ns.getD 0 0) 0 255 && wi (ns.getD 6 0) 0 1 && wi (ns.getD 9 0) 0 4
/-- what is read of bytes -/
def lread (b : List B) : Option Let :=
  if lfits (rdNums (some b) 10).1 = true ∧ (rdEnts (rdNums (some b) 10).2 ((rdNums (some b) 10).1.getD 9 0).toNat).2 = some [] ∧ lright (lof (rdNums (some b) 10).1 (rdEnts (rdNums (some b) 10).2 ((rdNums (some b) 10).1.getD 9 0).toNat).1) = true
  then some (lof (rdNums (some b) 10).1 (rdEnts (rdNums (some b) 10).2 ((rdNums (some b) 10).1.getD 9 0).toNat).1) else none
def lgetE (b : List B) : Nat := if (lread b).isSome then 0 else 4
def lget (b : List B) : Let := (lread b).getD zeroLet

theorem rdNums_bad (k : Nat) : (rdNums none k).2 = none := by
  induction k with
  | zero => rfl
  | succ k ih => rw [rdNums, ih]; rfl
theorem rdEnts_bad (k : Nat) : (rdEnts none k).2 = none := by
  induction k with
  | zero => rfl
  | succ k ih => rw [rdEnts, ih, rdEntry_bad]
theorem rdNums_nums (l : List Int) (h : ∀ n ∈ l, inI64 n) (t : List B) (k : Nat) (hk : k ≤ l.length) : rdNums (some (nums l ++ t)) k = (l.take k, some (nums (l.drop k) ++ t)) := by
  induction k with
  | zero => rfl
  | succ k ih =>
    have hk' : k < l.length := by omega
    rw [rdNums, ih (by omega)]
    have e : nums (l.drop k) = num l[k] ++ nums (l.drop (k + 1)) := by
      unfold nums
      conv => lhs; rw [List.drop_eq_getElem_cons hk']
      exact List.flatMap_cons
    rw [e, List.append_assoc, rdNumber_num _ _ (h _ (List.getElem_mem _)), List.take_succ_eq_append_getElem hk']
theorem rdEnts_ents (l : List Ent) (h : ∀ e ∈ l, e.Ok) (t : List B) (k : Nat) (hk : k ≤ l.length) : rdEnts (some (ents l ++ t)) k = (l.take k, some (ents (l.drop k) ++ t)) := by
  induction k with
  | zero => rfl
  | succ k ih =>
    have hk' : k < l.length := by omega
    rw [rdEnts, ih (by omega)]
    have e : ents (l.drop k) = ent l[k] ++ ents (l.drop (k + 1)) := by
      unfold ents
      conv => lhs; rw [List.drop_eq_getElem_cons hk']
      exact List.flatMap_cons
    rw [e, List.append_assoc, rdEntry_ent _ _ (h _ (List.getElem_mem _)), List.take_succ_eq_append_getElem hk']
theorem eats_nums (l : List Int) (h : ∀ n ∈ l, inI64 n) : Eats (fun s => (rdNums s l.length).2) (nums l) := by
  suffices H : ∀ k, k ≤ l.length → Eats (fun s => (rdNums s k).2) (nums (l.take k)) by
    have := H l.length (Nat.le_refl _)
    rwa [List.take_length] at this
  intro k
  induction k with
  | zero => intro _; exact Eats.id
  | succ k ih =>
    intro hk
    have hk' : k < l.length := by omega
    have := (ih (by omega)).comp (eats_num l[k] (h _ (List.getElem_mem _)))
    rw [List.take_succ_eq_append_getElem hk', nums_snoc]
    exact this
theorem rdEnts_all (l : List Ent) (s : Rdr) : ∀ k, k ≤ l.length → (rdEnts s k).2 = rdAll (l.take k) s := by
  intro k
  induction k with
  | zero => intro _; rfl
  | succ k ih =>
    intro hk
    have hk' : k < l.length := by omega
    rw [rdEnts, ih (by omega), List.take_succ_eq_append_getElem hk', rdAll_snoc]
structure Let.Ok (l : Let) : Prop where
  ents : ∀ e ∈ l.ents, e.Ok
theorem tm_iff (n : Int) : tm n = true ↔ 0 ≤ n ∧ n ≤ 1099511627776 := wi_iff _ _ _
theorem ix_iff (n : Int) : ix n = true ↔ 0 ≤ n ∧ n ≤ 1073741824 := wi_iff _ _ _
theorem z_iff (n : Int) : z n = true ↔ n = 0 := by simp [z]
/-- a right letter's numbers are small -/
theorem lright_small (l : Let) (h : lright l = true) : (1 ≤ l.src ∧ l.src ≤ 7) ∧ (1 ≤ l.dst ∧ l.dst ≤ 7) ∧ (0 ≤ l.term ∧ l.term ≤ 1099511627776) ∧ (0 ≤ l.index ∧ l.index ≤ 1073741824) ∧ (0 ≤ l.was ∧ l.was ≤ 1099511627776) ∧ (0 ≤ l.commit ∧ l.commit ≤ 1073741824) ∧ (0 ≤ l.version ∧ l.version ≤ 1073741824) ∧ l.ents.length ≤ 4 := by
  unfold lright lkind at h
  simp only [Bool.and_eq_true, wi_iff] at h
  obtain ⟨⟨h1, h2⟩, h3⟩ := h
  refine ⟨h1, h2, ?_⟩
  split at h3
  · simp only [lask, List.all_cons, List.all_nil, id_eq, Bool.and_eq_true, tm_iff, ix_iff, z_iff] at h3; omega
  split at h3
  · simp only [lvote, List.all_cons, List.all_nil, id_eq, Bool.and_eq_true, tm_iff, ix_iff, z_iff] at h3; omega
  split at h3
  · simp only [lputs, List.all_cons, List.all_nil, id_eq, Bool.and_eq_true, tm_iff, ix_iff, z_iff, decide_eq_true_eq] at h3; omega
  split at h3
  · simp only [ldone, List.all_cons, List.all_nil, id_eq, Bool.and_eq_true, tm_iff, ix_iff, z_iff] at h3; omega
  split at h3
  · simp only [lack, List.all_cons, List.all_nil, id_eq, Bool.and_eq_true, tm_iff, ix_iff, z_iff, wi_iff] at h3; omega
  · cases h3
theorem lnums_in (l : Let) (h : lright l = true) : ∀ n ∈ lnums l, inI64 n := by
  obtain ⟨h1, h2, h3, h4, h5, h6, h7, h8⟩ := lright_small l h
  have hk := l.kind.isLt
  have hf : 0 ≤ flag l.ok ∧ flag l.ok ≤ 1 := by unfold flag; split <;> omega
  intro n hn
  simp only [lnums, List.mem_cons, List.not_mem_nil, or_false] at hn
  unfold inI64
  rcases hn with rfl | rfl | rfl | rfl | rfl | rfl | rfl | rfl | rfl | rfl <;> omega
theorem lof_nums (l : Let) : lof (lnums l) l.ents = l := by
  have hk : BitVec.ofInt 8 (l.kind.toNat : Int) = l.kind := by
    apply BitVec.eq_of_toNat_eq
    have := l.kind.isLt
    rw [BitVec.toNat_ofInt]; omega
  have hf : (flag l.ok == 1) = l.ok := by unfold flag; cases l.ok <;> rfl
  show Let.mk (BitVec.ofInt 8 (l.kind.toNat : Int)) l.src l.dst l.term l.index l.was (flag l.ok == 1) l.commit l.version l.ents = l
  rw [hk, hf]
theorem lfits_nums (l : Let) (h : lright l = true) : lfits (lnums l) = true := by
  have h8 := (lright_small l h).2.2.2.2.2.2.2
  have hk := l.kind.isLt
  have hf : 0 ≤ flag l.ok ∧ flag l.ok ≤ 1 := by unfold flag; split <;> omega
  unfold lfits
  simp only [Bool.and_eq_true, wi_iff]
  show ((0 ≤ (l.kind.toNat : Int) ∧ (l.kind.toNat : Int) ≤ 255) ∧ 0 ≤ flag l.ok ∧ flag l.ok ≤ 1) ∧ 0 ≤ (l.ents.length : Int) ∧ (l.ents.length : Int) ≤ 4
  omega
theorem rdNums_lbytes (l : Let) (h : lright l = true) (t : List B) : rdNums (some (lbytes l ++ t)) 10 = (lnums l, some (ents l.ents ++ t)) := by
  have := rdNums_nums (lnums l) (lnums_in l h) (ents l.ents ++ t) 10 (Nat.le_refl 10)
  rw [lbytes, List.append_assoc, this]
  rfl
theorem lread_more (l : Let) (h : lright l = true) (ho : l.Ok) (t : List B) (ht : t ≠ []) : lread (lbytes l ++ t) = none := by
  unfold lread
  rw [rdNums_lbytes l h t]
  have e : ((lnums l).getD 9 0).toNat = l.ents.length := by show ((l.ents.length : Int)).toNat = _; omega
  rw [e, rdEnts_ents l.ents ho.ents t _ (Nat.le_refl _), List.drop_length]
  rw [if_neg]
  rintro ⟨_, h2, _⟩
  simp [ents] at h2
  exact ht h2
theorem lread_bytes (l : Let) (h : lright l = true) (ho : l.Ok) : lread (lbytes l) = some l := by
  unfold lread
  have e0 := rdNums_lbytes l h []
  rw [List.append_nil, List.append_nil] at e0
  rw [e0]
  have e : ((lnums l).getD 9 0).toNat = l.ents.length := by show ((l.ents.length : Int)).toNat = _; omega
  have e1 := rdEnts_ents l.ents ho.ents [] _ (Nat.le_refl _)
  rw [List.append_nil, List.take_length, List.drop_length] at e1
  rw [e, e1, lof_nums]
  rw [if_pos ⟨lfits_nums l h, rfl, h⟩]
theorem lread_cut (l : Let) (h : lright l = true) (ho : l.Ok) (k : Nat) (hk : k < (lbytes l).length) : lread ((lbytes l).take k) = none := by
  unfold lread
  rw [if_neg]
  rintro ⟨_, h2, _⟩
  by_cases hl : k < (nums (lnums l)).length
  · have e := (eats_nums (lnums l) (lnums_in l h)).cut k hl
    rw [lbytes, List.take_append_of_le_length (by omega)] at h2
    have e' : (rdNums (some ((nums (lnums l)).take k)) 10).2 = none := e
    rw [e', rdEnts_bad] at h2
    cases h2
  · rw [lbytes, List.length_append] at hk
    rw [lbytes, List.take_append, List.take_of_length_le (by omega)] at h2
    have e := rdNums_nums (lnums l) (lnums_in l h) ((ents l.ents).take (k - (nums (lnums l)).length)) 10 (Nat.le_refl 10)
    rw [e] at h2
    have e9 : (((lnums l).take 10).getD 9 0).toNat = l.ents.length := by show ((l.ents.length : Int)).toNat = _; omega
    have e10 : nums ((lnums l).drop 10) = [] := rfl
    simp only [e9, e10, List.nil_append] at h2
    rw [rdEnts_all l.ents _ _ (Nat.le_refl _), List.take_length, (eats_all l.ents ho.ents).cut _ (by omega)] at h2
    cases h2
theorem rdEntry_inv {s : Rdr} {e : Ent} {t : List B} (h : rdEntry s = (e, some t)) : ∃ l, s = some l ∧ l = ent e ++ t := by
  cases s with
  | none => rw [rdEntry_bad] at h; cases h
  | some l =>
    refine ⟨l, rfl, ?_⟩
    simp only [rdEntry] at h
    split at h
    · cases h
    · rename_i hc
      simp only [not_or, Int.not_lt] at hc
      obtain ⟨h0, h1, h2, h3, h4⟩ := hc
      simp only [Prod.mk.injEq] at h
      obtain ⟨he, ht⟩ := h
      obtain ⟨l5, e5, q5⟩ := rdBytes_inv (Prod.ext rfl ht : rdBytes _ = (_, some t))
      obtain ⟨l4, e4, q4⟩ := rdNumber_inv' e5
      obtain ⟨l3, e3, q3⟩ := rdNumber_inv' e4
      obtain ⟨l2, e2, q2⟩ := rdNumber_inv' e3
      obtain ⟨l1, e1, q1⟩ := rdNumber_inv' e2
      obtain ⟨l0, e0, q0⟩ := rdNumber_inv' e1
      cases e0
      subst he
      have hk : ((BitVec.ofInt 8 (rdNumber (rdNumber (some l)).2).1).toNat : Int) = (rdNumber (rdNumber (some l)).2).1 := by rw [BitVec.toNat_ofInt]; omega
      have hg : flag ((rdNumber (rdNumber (rdNumber (rdNumber (rdNumber (some l)).2).2).2).2).1 == 1) = (rdNumber (rdNumber (rdNumber (rdNumber (rdNumber (some l)).2).2).2).2).1 := by
        generalize (rdNumber (rdNumber (rdNumber (rdNumber (rdNumber (some l)).2).2).2).2).1 = x at *
        rcases (by omega : x = 0 ∨ x = 1) with rfl | rfl <;> rfl
      unfold ent
      simp only [hk, hg, List.append_assoc]
      rw [← q5, ← q4, ← q3, ← q2, ← q1]
      exact q0
theorem rdNums_inv (b : List B) : ∀ (k : Nat) (t : List B), (rdNums (some b) k).2 = some t → b = nums (rdNums (some b) k).1 ++ t
  | 0, t, h => by cases h; rfl
  | k + 1, t, h => by
    rw [rdNums] at h ⊢
    obtain ⟨l, e, q⟩ := rdNumber_inv' h
    have ih := rdNums_inv b k l e
    rw [nums_snoc, List.append_assoc, ← q]
    exact ih
theorem rdEnts_inv (s : Rdr) : ∀ (k : Nat) (t : List B), (rdEnts s k).2 = some t → ∃ b, s = some b ∧ b = ents (rdEnts s k).1 ++ t
  | 0, t, h => ⟨t, h, rfl⟩
  | k + 1, t, h => by
    rw [rdEnts] at h ⊢
    obtain ⟨l, e, q⟩ := rdEntry_inv (Prod.ext rfl h : rdEntry (rdEnts s k).2 = (_, some t))
    obtain ⟨b, e1, q1⟩ := rdEnts_inv s k l e
    refine ⟨b, e1, ?_⟩
    rw [ents_snoc, List.append_assoc, ← q]
    exact q1
theorem lread_put (b : List B) (l : Let) (h : lread b = some l) : lright l = true ∧ lbytes l = b := by
  unfold lread at h
  split at h
  · rename_i hc
    obtain ⟨h1, h2, h3⟩ := hc
    obtain ⟨r, e1, q1⟩ := rdEnts_inv _ _ _ h2
    have q2 := rdNums_inv b 10 r e1
    rw [List.append_nil] at q1
    have hl := rdNums_length (some b) 10
    have hel := rdEnts_length (rdNums (some b) 10).2 ((rdNums (some b) 10).1.getD 9 0).toNat
    simp only [Option.some.injEq] at h
    subst h
    refine ⟨h3, ?_⟩
    generalize rdEnts (rdNums (some b) 10).2 ((rdNums (some b) 10).1.getD 9 0).toNat = E at *
    generalize (rdNums (some b) 10).1 = ns at *
    match ns, hl with
    | [n0, n1, n2, n3, n4, n5, n6, n7, n8, n9], _ =>
      unfold lfits at h1
      simp only [Bool.and_eq_true, wi_iff] at h1
      obtain ⟨⟨h10, h16⟩, h19⟩ := h1
      have h10' : 0 ≤ n0 ∧ n0 ≤ 255 := h10
      have h16' : 0 ≤ n6 ∧ n6 ≤ 1 := h16
      have h19' : 0 ≤ n9 ∧ n9 ≤ 4 := h19
      have hel' : E.1.length = n9.toNat := hel
      have hk : ((BitVec.ofInt 8 n0).toNat : Int) = n0 := by rw [BitVec.toNat_ofInt]; omega
      have hg : flag (n6 == 1) = n6 := by
        rcases (by omega : n6 = 0 ∨ n6 = 1) with rfl | rfl <;> rfl
      have h9 : ((E.1.length : Nat) : Int) = n9 := by omega
      unfold lbytes
      have e2 : lnums (lof [n0, n1, n2, n3, n4, n5, n6, n7, n8, n9] E.1) = [n0, n1, n2, n3, n4, n5, n6, n7, n8, n9] := by
        show [((BitVec.ofInt 8 n0).toNat : Int), n1, n2, n3, n4, n5, flag (n6 == 1), n7, n8, ((E.1.length : Nat) : Int)] = _
        rw [hk, hg, h9]
      rw [e2, q2, q1]
      rfl
  · cases h
theorem lgetE_zero (b : List B) : lgetE b = 0 ↔ ∃ l, lread b = some l := by
  unfold lgetE
  cases lread b <;> simp
theorem lget_put (b : List B) (h : lgetE b = 0) : lright (lget b) = true ∧ lbytes (lget b) = b := by
  obtain ⟨l, e⟩ := (lgetE_zero b).1 h
  have e2 : lget b = l := by unfold lget; rw [e]; rfl
  rw [e2]
  exact lread_put b l e
theorem lget_bad (b : List B) (h : lgetE b ≠ 0) : lgetE b = 4 ∧ lget b = zeroLet := by
  unfold lgetE lget at *
  cases e : lread b with
  | none => exact ⟨rfl, rfl⟩
  | some l => rw [e] at h; exact absurd rfl h
end Go.Proofs.Ytdmpphioflcofaa.M

/- The words that the walks speak of: bytes, words of 32 and of 64 bits as values that the walk does not look into, with the laws of Go's operators on them; a slice that reads as a list; a block that is known whole. Plain lemmas over any program. -/
namespace Go.Proofs.Ytdmpphioflcofaa.K
open Go Go.RowKit

/-! ### values -/
def B8 (x : BitVec 8) : Value := .int .u8 (x.toNat : Int)
def W32 (x : BitVec 32) : Value := .int .u32 (x.toNat : Int)
def W64 (x : BitVec 64) : Value := .int .u64 (x.toNat : Int)
theorem B8_eq (x : BitVec 8) : B8 x = .int .u8 (x.toNat : Int) := rfl
theorem W32_eq (x : BitVec 32) : W32 x = .int .u32 (x.toNat : Int) := rfl
theorem W64_eq (x : BitVec 64) : W64 x = .int .u64 (x.toNat : Int) := rfl
theorem B8_inj {x y : BitVec 8} (h : B8 x = B8 y) : x = y := by
  simp only [B8, Value.int.injEq, true_and] at h
  exact BitVec.eq_of_toNat_eq (by omega)
theorem oneB8 (x : BitVec 8) : (B8 x).oneCell' = true := rfl
theorem oneW32 (x : BitVec 32) : (W32 x).oneCell' = true := rfl
theorem oneW64 (x : BitVec 64) : (W64 x).oneCell' = true := rfl

theorem wrap_u8_nat (n : Nat) : IntKind.u8.wrap (n : Int) = ((BitVec.ofNat 8 n).toNat : Int) := by
  rw [IntKind.wrap_u8', BitVec.toNat_ofNat]; omega
theorem wrap_u32_nat (n : Nat) : IntKind.u32.wrap (n : Int) = ((BitVec.ofNat 32 n).toNat : Int) := by
  rw [IntKind.wrap_u32', BitVec.toNat_ofNat]; omega
theorem wrap_u64' (n : Int) : IntKind.u64.wrap n = n % 18446744073709551616 := by simp [IntKind.wrap, IntKind.bits, IntKind.signed]
theorem wrap_u64_nat (n : Nat) : IntKind.u64.wrap (n : Int) = ((BitVec.ofNat 64 n).toNat : Int) := by
  rw [wrap_u64', BitVec.toNat_ofNat]; omega

theorem ofNat_self {n : Nat} (x : BitVec n) : BitVec.ofNat n x.toNat = x := BitVec.eq_of_toNat_eq (by simp)

section
variable (t : TypeId) (x y : BitVec 32)
theorem ofInt_W32 : BitVec.ofInt 32 (x.toNat : Int) = x := by rw [BitVec.ofInt_natCast]; exact ofNat_self x
theorem wrap_W32 : IntKind.u32.wrap (x.toNat : Int) = (x.toNat : Int) := by rw [wrap_u32_nat, ofNat_self]
theorem W32_add : binOp .add t (W32 x) (W32 y) = pure (W32 (x + y)) := by
  have h : IntKind.u32.wrap ((x.toNat : Int) + (y.toNat : Int)) = ((x + y).toNat : Int) := by
    rw [← Int.natCast_add, wrap_u32_nat, BitVec.toNat_ofNat, BitVec.toNat_add]
  simp only [W32, binOp_add, Op.intArith, h]
theorem W32_mul : binOp .mul t (W32 x) (W32 y) = pure (W32 (x * y)) := by
  have h : IntKind.u32.wrap ((x.toNat : Int) * (y.toNat : Int)) = ((x * y).toNat : Int) := by
    rw [← Int.natCast_mul, wrap_u32_nat, BitVec.toNat_ofNat, BitVec.toNat_mul]
  simp only [W32, binOp_mul, Op.intArith, h]
theorem W32_xor : binOp .xor t (W32 x) (W32 y) = pure (W32 (x ^^^ y)) := by
  have h : bits .xor .u32 (x.toNat : Int) (y.toNat : Int) = ((x ^^^ y).toNat : Int) := by
    show IntKind.u32.wrap ((BitVec.ofInt 32 (x.toNat : Int) ^^^ BitVec.ofInt 32 (y.toNat : Int)).toNat : Int) = _
    rw [ofInt_W32, ofInt_W32, wrap_W32]
  simp only [W32, binOp_xor, intBits_xor, h]
theorem W32_and : binOp .and t (W32 x) (W32 y) = pure (W32 (x &&& y)) := by
  have h : bits .and .u32 (x.toNat : Int) (y.toNat : Int) = ((x &&& y).toNat : Int) := by
    show IntKind.u32.wrap ((BitVec.ofInt 32 (x.toNat : Int) &&& BitVec.ofInt 32 (y.toNat : Int)).toNat : Int) = _
    rw [ofInt_W32, ofInt_W32, wrap_W32]
  simp only [W32, binOp_and, intBits_and, h]
theorem W32_or : binOp .or t (W32 x) (W32 y) = pure (W32 (x ||| y)) := by
  have h : bits .or .u32 (x.toNat : Int) (y.toNat : Int) = ((x ||| y).toNat : Int) := by
    show IntKind.u32.wrap ((BitVec.ofInt 32 (x.toNat : Int) ||| BitVec.ofInt 32 (y.toNat : Int)).toNat : Int) = _
    rw [ofInt_W32, ofInt_W32, wrap_W32]
  simp only [W32, binOp_or, intBits_or, h]
theorem W32_shl' (yk : IntKind) (c : Nat) : binOp .shl t (W32 x) (.int yk (c : Int)) = pure (W32 (x <<< c)) := by
  have h : IntKind.u32.wrap ((x.toNat : Int) * 2 ^ min c 32) = ((x <<< c).toNat : Int) := by
    have e : ((x.toNat : Int) * 2 ^ min c 32) = ((x.toNat * 2 ^ min c 32 : Nat) : Int) := by simp
    rw [e, wrap_u32_nat, BitVec.toNat_ofNat, BitVec.toNat_shiftLeft, Nat.shiftLeft_eq]
    rcases Nat.le_total c 32 with hc | hc
    · rw [Nat.min_eq_left hc]
    · rw [Nat.min_eq_right hc, Nat.mul_mod_left, show c = 32 + (c - 32) by omega, Nat.pow_add, Nat.mul_comm (2 ^ 32), ← Nat.mul_assoc, Nat.mul_mod_left]
  rw [show binOp .shl t (W32 x) (.int yk (c : Int)) = Op.shift .shl .u32 (x.toNat : Int) yk (c : Int) from rfl, shift_shl_any _ _ _ _ (Int.natCast_nonneg c)]
  simp only [Int.toNat_natCast, IntKind.bits, h, W32]
theorem W32_shl (yk : IntKind) (c : Int) (hc : 0 ≤ c) : binOp .shl t (W32 x) (.int yk c) = pure (W32 (x <<< c.toNat)) := by
  obtain ⟨c, rfl⟩ := Int.eq_ofNat_of_zero_le hc
  simpa using W32_shl' t x yk c
theorem W32_shr' (yk : IntKind) (c : Nat) : binOp .shr t (W32 x) (.int yk (c : Int)) = pure (W32 (x >>> c)) := by
  have h : (x.toNat : Int) / 2 ^ min c 32 = ((x >>> c).toNat : Int) := by
    have e : ((x.toNat : Int) / 2 ^ min c 32) = ((x.toNat / 2 ^ min c 32 : Nat) : Int) := by simp
    rw [e, BitVec.toNat_ushiftRight, Nat.shiftRight_eq_div_pow]
    rcases Nat.le_total c 32 with hc | hc
    · rw [Nat.min_eq_left hc]
    · have hx := x.isLt
      have h2 : 2 ^ 32 ≤ 2 ^ c := Nat.pow_le_pow_right (by omega) hc
      rw [Nat.min_eq_right hc, Nat.div_eq_of_lt (by omega), Nat.div_eq_of_lt (by omega)]
  rw [show binOp .shr t (W32 x) (.int yk (c : Int)) = Op.shift .shr .u32 (x.toNat : Int) yk (c : Int) from rfl, shift_shr_any _ _ _ _ (Int.natCast_nonneg c)]
  simp only [Int.toNat_natCast, IntKind.bits, h, W32]
theorem W32_shr (yk : IntKind) (c : Int) (hc : 0 ≤ c) : binOp .shr t (W32 x) (.int yk c) = pure (W32 (x >>> c.toNat)) := by
  obtain ⟨c, rfl⟩ := Int.eq_ofNat_of_zero_le hc
  simpa using W32_shr' t x yk c
theorem W32_eql : binOp .eql t (W32 x) (W32 y) = pure (.bool (x == y)) := by
  have h : ((x.toNat : Int) == (y.toNat : Int)) = (x == y) := by
    rw [Bool.eq_iff_iff, beq_iff_eq, beq_iff_eq]
    exact ⟨fun h => BitVec.eq_of_toNat_eq (by omega), fun h => by rw [h]⟩
  simp only [W32, binOp_eql, h]
theorem W32_neq : binOp .neq t (W32 x) (W32 y) = pure (.bool (x != y)) := by
  have h : ((x.toNat : Int) != (y.toNat : Int)) = (x != y) := by
    rw [Bool.eq_iff_iff, bne_iff_ne, bne_iff_ne]
    exact ⟨fun h e => h (by rw [e]), fun h e => h (BitVec.eq_of_toNat_eq (by omega))⟩
  simp only [W32, binOp_neq, h]
theorem eqGuard_W32 (op : BinOp) (a b : Operand) (v : Value) : eqGuard op t a b (W32 x) v = pure () := eqGuard_at_int op t a b v _ _
theorem run_store_W32 (P : Program) (w : World) (a : Addr) (m : Mode) : (store a (W32 x) m).run P w = stored P w a (W32 x) m := run_store P w a _ m rfl
end
section
variable (t : TypeId) (x y : BitVec 64)
theorem ofInt_W64 : BitVec.ofInt 64 (x.toNat : Int) = x := by rw [BitVec.ofInt_natCast]; exact ofNat_self x
theorem wrap_W64 : IntKind.u64.wrap (x.toNat : Int) = (x.toNat : Int) := by rw [wrap_u64_nat, ofNat_self]
theorem W64_add : binOp .add t (W64 x) (W64 y) = pure (W64 (x + y)) := by
  have h : IntKind.u64.wrap ((x.toNat : Int) + (y.toNat : Int)) = ((x + y).toNat : Int) := by
    rw [← Int.natCast_add, wrap_u64_nat, BitVec.toNat_ofNat, BitVec.toNat_add]
  simp only [W64, binOp_add, Op.intArith, h]
theorem W64_mul : binOp .mul t (W64 x) (W64 y) = pure (W64 (x * y)) := by
  have h : IntKind.u64.wrap ((x.toNat : Int) * (y.toNat : Int)) = ((x * y).toNat : Int) := by
    rw [← Int.natCast_mul, wrap_u64_nat, BitVec.toNat_ofNat, BitVec.toNat_mul]
  simp only [W64, binOp_mul, Op.intArith, h]
theorem W64_xor : binOp .xor t (W64 x) (W64 y) = pure (W64 (x ^^^ y)) := by
  have h : bits .xor .u64 (x.toNat : Int) (y.toNat : Int) = ((x ^^^ y).toNat : Int) := by
    show IntKind.u64.wrap ((BitVec.ofInt 64 (x.toNat : Int) ^^^ BitVec.ofInt 64 (y.toNat : Int)).toNat : Int) = _
    rw [ofInt_W64, ofInt_W64, wrap_W64]
  simp only [W64, binOp_xor, intBits_xor, h]
theorem W64_and : binOp .and t (W64 x) (W64 y) = pure (W64 (x &&& y)) := by
  have h : bits .and .u64 (x.toNat : Int) (y.toNat : Int) = ((x &&& y).toNat : Int) := by
    show IntKind.u64.wrap ((BitVec.ofInt 64 (x.toNat : Int) &&& BitVec.ofInt 64 (y.toNat : Int)).toNat : Int) = _
    rw [ofInt_W64, ofInt_W64, wrap_W64]
  simp only [W64, binOp_and, intBits_and, h]
theorem W64_or : binOp .or t (W64 x) (W64 y) = pure (W64 (x ||| y)) := by
  have h : bits .or .u64 (x.toNat : Int) (y.toNat : Int) = ((x ||| y).toNat : Int) := by
    show IntKind.u64.wrap ((BitVec.ofInt 64 (x.toNat : Int) ||| BitVec.ofInt 64 (y.toNat : Int)).toNat : Int) = _
    rw [ofInt_W64, ofInt_W64, wrap_W64]
  simp only [W64, binOp_or, intBits_or, h]
theorem W64_shl' (yk : IntKind) (c : Nat) : binOp .shl t (W64 x) (.int yk (c : Int)) = pure (W64 (x <<< c)) := by
  have h : IntKind.u64.wrap ((x.toNat : Int) * 2 ^ min c 64) = ((x <<< c).toNat : Int) := by
    have e : ((x.toNat : Int) * 2 ^ min c 64) = ((x.toNat * 2 ^ min c 64 : Nat) : Int) := by simp
    rw [e, wrap_u64_nat, BitVec.toNat_ofNat, BitVec.toNat_shiftLeft, Nat.shiftLeft_eq]
    rcases Nat.le_total c 64 with hc | hc
    · rw [Nat.min_eq_left hc]
    · rw [Nat.min_eq_right hc, Nat.mul_mod_left, show c = 64 + (c - 64) by omega, Nat.pow_add, Nat.mul_comm (2 ^ 64), ← Nat.mul_assoc, Nat.mul_mod_left]
  rw [show binOp .shl t (W64 x) (.int yk (c : Int)) = Op.shift .shl .u64 (x.toNat : Int) yk (c : Int) from rfl, shift_shl_any _ _ _ _ (Int.natCast_nonneg c)]
  simp only [Int.toNat_natCast, IntKind.bits, h, W64]
theorem W64_shl (yk : IntKind) (c : Int) (hc : 0 ≤ c) : binOp .shl t (W64 x) (.int yk c) = pure (W64 (x <<< c.toNat)) := by
  obtain ⟨c, rfl⟩ := Int.eq_ofNat_of_zero_le hc
  simpa using W64_shl' t x yk c
theorem W64_shr' (yk : IntKind) (c : Nat) : binOp .shr t (W64 x) (.int yk (c : Int)) = pure (W64 (x >>> c)) := by
  have h : (x.toNat : Int) / 2 ^ min c 64 = ((x >>> c).toNat : Int) := by
    have e : ((x.toNat : Int) / 2 ^ min c 64) = ((x.toNat / 2 ^ min c 64 : Nat) : Int) := by simp
    rw [e, BitVec.toNat_ushiftRight, Nat.shiftRight_eq_div_pow]
    rcases Nat.le_total c 64 with hc | hc
    · rw [Nat.min_eq_left hc]
    · have hx := x.isLt
      have h2 : 2 ^ 64 ≤ 2 ^ c := Nat.pow_le_pow_right (by omega) hc
      rw [Nat.min_eq_right hc, Nat.div_eq_of_lt (by omega), Nat.div_eq_of_lt (by omega)]
  rw [show binOp .shr t (W64 x) (.int yk (c : Int)) = Op.shift .shr .u64 (x.toNat : Int) yk (c : Int) from rfl, shift_shr_any _ _ _ _ (Int.natCast_nonneg c)]
  simp only [Int.toNat_natCast, IntKind.bits, h, W64]
theorem W64_shr (yk : IntKind) (c : Int) (hc : 0 ≤ c) : binOp .shr t (W64 x) (.int yk c) = pure (W64 (x >>> c.toNat)) := by
  obtain ⟨c, rfl⟩ := Int.eq_ofNat_of_zero_le hc
  simpa using W64_shr' t x yk c
theorem W64_eql : binOp .eql t (W64 x) (W64 y) = pure (.bool (x == y)) := by
  have h : ((x.toNat : Int) == (y.toNat : Int)) = (x == y) := by
    rw [Bool.eq_iff_iff, beq_iff_eq, beq_iff_eq]
    exact ⟨fun h => BitVec.eq_of_toNat_eq (by omega), fun h => by rw [h]⟩
  simp only [W64, binOp_eql, h]
theorem W64_neq : binOp .neq t (W64 x) (W64 y) = pure (.bool (x != y)) := by
  have h : ((x.toNat : Int) != (y.toNat : Int)) = (x != y) := by
    rw [Bool.eq_iff_iff, bne_iff_ne, bne_iff_ne]
    exact ⟨fun h e => h (by rw [e]), fun h e => h (BitVec.eq_of_toNat_eq (by omega))⟩
  simp only [W64, binOp_neq, h]
theorem eqGuard_W64 (op : BinOp) (a b : Operand) (v : Value) : eqGuard op t a b (W64 x) v = pure () := eqGuard_at_int op t a b v _ _
theorem run_store_W64 (P : Program) (w : World) (a : Addr) (m : Mode) : (store a (W64 x) m).run P w = stored P w a (W64 x) m := run_store P w a _ m rfl
end
section
variable (t : TypeId) (x y : BitVec 8)
theorem ofInt_B8 : BitVec.ofInt 8 (x.toNat : Int) = x := by rw [BitVec.ofInt_natCast]; exact ofNat_self x
theorem wrap_B8 : IntKind.u8.wrap (x.toNat : Int) = (x.toNat : Int) := by rw [wrap_u8_nat, ofNat_self]
theorem B8_add : binOp .add t (B8 x) (B8 y) = pure (B8 (x + y)) := by
  have h : IntKind.u8.wrap ((x.toNat : Int) + (y.toNat : Int)) = ((x + y).toNat : Int) := by
    rw [← Int.natCast_add, wrap_u8_nat, BitVec.toNat_ofNat, BitVec.toNat_add]
  simp only [B8, binOp_add, Op.intArith, h]
theorem B8_mul : binOp .mul t (B8 x) (B8 y) = pure (B8 (x * y)) := by
  have h : IntKind.u8.wrap ((x.toNat : Int) * (y.toNat : Int)) = ((x * y).toNat : Int) := by
    rw [← Int.natCast_mul, wrap_u8_nat, BitVec.toNat_ofNat, BitVec.toNat_mul]
  simp only [B8, binOp_mul, Op.intArith, h]
theorem B8_xor : binOp .xor t (B8 x) (B8 y) = pure (B8 (x ^^^ y)) := by
  have h : bits .xor .u8 (x.toNat : Int) (y.toNat : Int) = ((x ^^^ y).toNat : Int) := by
    show IntKind.u8.wrap ((BitVec.ofInt 8 (x.toNat : Int) ^^^ BitVec.ofInt 8 (y.toNat : Int)).toNat : Int) = _
    rw [ofInt_B8, ofInt_B8, wrap_B8]
  simp only [B8, binOp_xor, intBits_xor, h]
theorem B8_and : binOp .and t (B8 x) (B8 y) = pure (B8 (x &&& y)) := by
  have h : bits .and .u8 (x.toNat : Int) (y.toNat : Int) = ((x &&& y).toNat : Int) := by
    show IntKind.u8.wrap ((BitVec.ofInt 8 (x.toNat : Int) &&& BitVec.ofInt 8 (y.toNat : Int)).toNat : Int) = _
    rw [ofInt_B8, ofInt_B8, wrap_B8]
  simp only [B8, binOp_and, intBits_and, h]
theorem B8_or : binOp .or t (B8 x) (B8 y) = pure (B8 (x ||| y)) := by
  have h : bits .or .u8 (x.toNat : Int) (y.toNat : Int) = ((x ||| y).toNat : Int) := by
    show IntKind.u8.wrap ((BitVec.ofInt 8 (x.toNat : Int) ||| BitVec.ofInt 8 (y.toNat : Int)).toNat : Int) = _
    rw [ofInt_B8, ofInt_B8, wrap_B8]
  simp only [B8, binOp_or, intBits_or, h]
theorem B8_shl' (yk : IntKind) (c : Nat) : binOp .shl t (B8 x) (.int yk (c : Int)) = pure (B8 (x <<< c)) := by
  have h : IntKind.u8.wrap ((x.toNat : Int) * 2 ^ min c 8) = ((x <<< c).toNat : Int) := by
    have e : ((x.toNat : Int) * 2 ^ min c 8) = ((x.toNat * 2 ^ min c 8 : Nat) : Int) := by simp
    rw [e, wrap_u8_nat, BitVec.toNat_ofNat, BitVec.toNat_shiftLeft, Nat.shiftLeft_eq]
    rcases Nat.le_total c 8 with hc | hc
    · rw [Nat.min_eq_left hc]
    · rw [Nat.min_eq_right hc, Nat.mul_mod_left, show c = 8 + (c - 8) by omega, Nat.pow_add, Nat.mul_comm (2 ^ 8), ← Nat.mul_assoc, Nat.mul_mod_left]
  rw [show binOp .shl t (B8 x) (.int yk (c : Int)) = Op.shift .shl .u8 (x.toNat : Int) yk (c : Int) from rfl, shift_shl_any _ _ _ _ (Int.natCast_nonneg c)]
  simp only [Int.toNat_natCast, IntKind.bits, h, B8]
theorem B8_shl (yk : IntKind) (c : Int) (hc : 0 ≤ c) : binOp .shl t (B8 x) (.int yk c) = pure (B8 (x <<< c.toNat)) := by
  obtain ⟨c, rfl⟩ := Int.eq_ofNat_of_zero_le hc
  simpa using B8_shl' t x yk c
theorem B8_shr' (yk : IntKind) (c : Nat) : binOp .shr t (B8 x) (.int yk (c : Int)) = pure (B8 (x >>> c)) := by
  have h : (x.toNat : Int) / 2 ^ min c 8 = ((x >>> c).toNat : Int) := by
    have e : ((x.toNat : Int) / 2 ^ min c 8) = ((x.toNat / 2 ^ min c 8 : Nat) : Int) := by simp
    rw [e, BitVec.toNat_ushiftRight, Nat.shiftRight_eq_div_pow]
    rcases Nat.le_total c 8 with hc | hc
    · rw [Nat.min_eq_left hc]
    · have hx := x.isLt
      have h2 : 2 ^ 8 ≤ 2 ^ c := Nat.pow_le_pow_right (by omega) hc
      rw [Nat.min_eq_right hc, Nat.div_eq_of_lt (by omega), Nat.div_eq_of_lt (by omega)]
  rw [show binOp .shr t (B8 x) (.int yk (c : Int)) = Op.shift .shr .u8 (x.toNat : Int) yk (c : Int) from rfl, shift_shr_any _ _ _ _ (Int.natCast_nonneg c)]
  simp only [Int.toNat_natCast, IntKind.bits, h, B8]
theorem B8_shr (yk : IntKind) (c : Int) (hc : 0 ≤ c) : binOp .shr t (B8 x) (.int yk c) = pure (B8 (x >>> c.toNat)) := by
  obtain ⟨c, rfl⟩ := Int.eq_ofNat_of_zero_le hc
  simpa using B8_shr' t x yk c
theorem B8_eql : binOp .eql t (B8 x) (B8 y) = pure (.bool (x == y)) := by
  have h : ((x.toNat : Int) == (y.toNat : Int)) = (x == y) := by
    rw [Bool.eq_iff_iff, beq_iff_eq, beq_iff_eq]
    exact ⟨fun h => BitVec.eq_of_toNat_eq (by omega), fun h => by rw [h]⟩
  simp only [B8, binOp_eql, h]
theorem B8_neq : binOp .neq t (B8 x) (B8 y) = pure (.bool (x != y)) := by
  have h : ((x.toNat : Int) != (y.toNat : Int)) = (x != y) := by
    rw [Bool.eq_iff_iff, bne_iff_ne, bne_iff_ne]
    exact ⟨fun h e => h (by rw [e]), fun h e => h (BitVec.eq_of_toNat_eq (by omega))⟩
  simp only [B8, binOp_neq, h]
theorem eqGuard_B8 (op : BinOp) (a b : Operand) (v : Value) : eqGuard op t a b (B8 x) v = pure () := eqGuard_at_int op t a b v _ _
theorem run_store_B8 (P : Program) (w : World) (a : Addr) (m : Mode) : (store a (B8 x) m).run P w = stored P w a (B8 x) m := run_store P w a _ m rfl
end

section
variable {P : Program} (w : World) (src dst : TypeId)
theorem conv_B8_W32 (x : BitVec 8) (hs : P.underlying src = some (.int .u8)) (hd : P.underlying dst = some (.int .u32)) : (convert src dst (B8 x)).run P w = .ok (W32 (x.setWidth 32)) w := by
  have h : IntKind.u32.wrap (x.toNat : Int) = ((x.setWidth 32).toNat : Int) := by
    rw [wrap_u32_nat, BitVec.toNat_ofNat, BitVec.toNat_setWidth]
  simp [convert, run_underlying hs, run_underlying hd, Conv.intToInt, B8, W32, h]
theorem conv_B8_W64 (x : BitVec 8) (hs : P.underlying src = some (.int .u8)) (hd : P.underlying dst = some (.int .u64)) : (convert src dst (B8 x)).run P w = .ok (W64 (x.setWidth 64)) w := by
  have h : IntKind.u64.wrap (x.toNat : Int) = ((x.setWidth 64).toNat : Int) := by
    rw [wrap_u64_nat, BitVec.toNat_ofNat, BitVec.toNat_setWidth]
  simp [convert, run_underlying hs, run_underlying hd, Conv.intToInt, B8, W64, h]
theorem conv_W32_B8 (x : BitVec 32) (hs : P.underlying src = some (.int .u32)) (hd : P.underlying dst = some (.int .u8)) : (convert src dst (W32 x)).run P w = .ok (B8 (x.setWidth 8)) w := by
  have h : IntKind.u8.wrap (x.toNat : Int) = ((x.setWidth 8).toNat : Int) := by
    rw [wrap_u8_nat, BitVec.toNat_ofNat, BitVec.toNat_setWidth]
  simp [convert, run_underlying hs, run_underlying hd, Conv.intToInt, B8, W32, h]
theorem conv_W64_B8 (x : BitVec 64) (hs : P.underlying src = some (.int .u64)) (hd : P.underlying dst = some (.int .u8)) : (convert src dst (W64 x)).run P w = .ok (B8 (x.setWidth 8)) w := by
  have h : IntKind.u8.wrap (x.toNat : Int) = ((x.setWidth 8).toNat : Int) := by
    rw [wrap_u8_nat, BitVec.toNat_ofNat, BitVec.toNat_setWidth]
  simp [convert, run_underlying hs, run_underlying hd, Conv.intToInt, B8, W64, h]
end

theorem cells_B8 (x : BitVec 8) : (B8 x).cells = #[B8 x] := rfl
theorem cells_W32 (x : BitVec 32) : (W32 x).cells = #[W32 x] := rfl
theorem cells_W64 (x : BitVec 64) : (W64 x).cells = #[W64 x] := rfl
attribute [go_sem ↓ high] cells_B8 cells_W32 cells_W64
theorem run_storeCells_B8 (P : Program) (w : World) (a : Addr) (x : BitVec 8) : (storeCells a [B8 x] 0).run P w = stored P w a (B8 x) .plain := by
  have e : (storeCells a [B8 x] 0) = (do store (a.add 0) (B8 x); pure ()) := rfl
  rw [e]
  simp only [Sem.run_bind, run_store_B8, Addr.add_zero']
  cases stored P w a (B8 x) .plain <;> simp [Result.andThen]
attribute [go_sem] run_storeCells_B8
theorem run_storeCells_W32 (P : Program) (w : World) (a : Addr) (x : BitVec 32) : (storeCells a [W32 x] 0).run P w = stored P w a (W32 x) .plain := by
  have e : (storeCells a [W32 x] 0) = (do store (a.add 0) (W32 x); pure ()) := rfl
  rw [e]
  simp only [Sem.run_bind, run_store_W32, Addr.add_zero']
  cases stored P w a (W32 x) .plain <;> simp [Result.andThen]
attribute [go_sem] run_storeCells_W32
theorem run_storeCells_W64 (P : Program) (w : World) (a : Addr) (x : BitVec 64) : (storeCells a [W64 x] 0).run P w = stored P w a (W64 x) .plain := by
  have e : (storeCells a [W64 x] 0) = (do store (a.add 0) (W64 x); pure ()) := rfl
  rw [e]
  simp only [Sem.run_bind, run_store_W64, Addr.add_zero']
  cases stored P w a (W64 x) .plain <;> simp [Result.andThen]
attribute [go_sem] run_storeCells_W64
attribute [go_sem] conv_B8_W32 conv_B8_W64 conv_W32_B8 conv_W64_B8
attribute [go_sem] W32_add W32_mul W32_xor W32_and W32_or W32_shl W32_shr W32_eql W32_neq eqGuard_W32 run_store_W32
attribute [go_sem] W64_add W64_mul W64_xor W64_and W64_or W64_shl W64_shr W64_eql W64_neq eqGuard_W64 run_store_W64
attribute [go_sem] B8_add B8_mul B8_xor B8_and B8_or B8_shl B8_shr B8_eql B8_neq eqGuard_B8 run_store_B8

/-! ### a slice that reads as a list of bytes -/
/-- The slice whose address is A reads bs in w. -/
def Rd (w : World) (A : Option Addr) (bs : List (BitVec 8)) : Prop :=
  ∀ k (h : k < bs.length), ∃ b o, A = some ⟨b, o, none⟩ ∧ w.cell? ⟨b, o + k, none⟩ = some (B8 bs[k])
theorem Rd.of_nil (w : World) (A : Option Addr) : Rd w A [] := fun _ h => absurd h (Nat.not_lt_zero _)
theorem Rd.drewN {w : World} {A : Option Addr} {bs : List (BitVec 8)} (h : Rd w A bs) (n : Nat) : Rd (w.drewN n) A bs := h
theorem Rd.below {w w' : World} {A : Option Addr} {bs : List (BitVec 8)} (h : Rd w A bs) (hb : Below w.heap.size w w') : Rd w' A bs := fun k hk => by
  obtain ⟨b, o, e, hc⟩ := h k hk
  exact ⟨b, o, e, (hb.cell (block_lt_of_cell hc)).trans hc⟩

/-! ### rows of bytes -/
def bv (bs : List (BitVec 8)) : List Value := bs.map B8
theorem bv_length (bs : List (BitVec 8)) : (bv bs).length = bs.length := by simp [bv]
theorem bv_append (a b : List (BitVec 8)) : bv (a ++ b) = bv a ++ bv b := by simp [bv]
theorem bv_one (bs : List (BitVec 8)) : ∀ u ∈ bv bs, u.oneCell' = true := by
  intro u hu
  obtain ⟨_, _, rfl⟩ := List.mem_map.1 hu
  rfl
theorem bv_inj {a b : List (BitVec 8)} (h : bv a = bv b) : a = b := List.map_inj_right (fun _ _ => B8_inj) |>.1 h
/-- the cells of what reads as bs lie at its address -/
theorem Rd.lay {w : World} {A : Option Addr} {bs : List (BitVec 8)} (h : Rd w A bs) (hp : 0 < bs.length) :
    ∃ b o, A = some ⟨b, o, Option.none⟩ ∧ b < w.heap.size ∧ ∀ i, i < bs.length → w.cell? ⟨b, o + i, Option.none⟩ = some (B8 (bs.getD i 0)) := by
  obtain ⟨b, o, e, hc⟩ := h 0 hp
  refine ⟨b, o, e, block_lt_of_cell hc, fun i hi => ?_⟩
  obtain ⟨b', o', e', h'⟩ := h i hi
  rw [e] at e'
  obtain ⟨rfl, rfl⟩ : b = b' ∧ o = o' := by simpa using e'
  rw [h', List.getD_eq_getElem?_getD, List.getElem?_eq_getElem hi]; rfl
theorem Rd.cells {w : World} {A : Option Addr} {bs : List (BitVec 8)} (h : Rd w A bs) : ∀ ad, A = some ad → ∀ j u, (bv bs)[j]? = some u → w.cell? (ad.add j) = some u := by
  intro ad had j u hu
  have hj : j < bs.length := by
    have := (List.getElem?_eq_some_iff.1 hu).1
    simpa [bv] using this
  obtain ⟨b, o, e, hc⟩ := h j hj
  rw [had] at e
  obtain rfl := Option.some.inj e
  rw [Addr.add_lit, hc]
  simpa [bv, List.getElem?_eq_getElem hj] using hu
theorem Rd.empty {w : World} {bs : List (BitVec 8)} (h : Rd w none bs) : bs = [] := by
  rcases bs with _ | ⟨x, r⟩
  · rfl
  · obtain ⟨b, o, e, _⟩ := h 0 (by simp)
    cases e
/-- a block that holds bs from place 0 on -/
theorem Rd.of_block {w : World} {g : Nat} {cur : Array Value} {t : TypeId} {fr : Nat × Nat} {bs : List (BitVec 8)} (hg : w.heap[g]? = some (.cells cur t fr)) (h : cur.toList.take bs.length = bv bs) : Rd w (some ⟨g, 0, none⟩) bs := by
  intro k hk
  refine ⟨g, 0, rfl, ?_⟩
  rw [cell_of_row w g (0 + k) cur t fr hg, Nat.zero_add]
  have e : (cur.toList.take bs.length)[k]? = cur[k]? := by rw [List.getElem?_take, if_pos hk]; simp
  rw [← e, h]
  simp [bv, hk]
theorem Rd.of_own {w : World} {base : Nat} {e : TypeId} {A : Option Addr} {n c : Nat} {bs : List (BitVec 8)} (h : w.ownsRow base e 1 (.slice A n c) n (bv bs)) : Rd w A bs := by
  rcases h.2 with ⟨h1, h2⟩ | ⟨g, cap, cur, hv, _, hg, _, _, _, ht⟩
  · have : bs.length = n := by have := h.1; rw [bv_length] at this; omega
    rw [show bs = [] from List.eq_nil_of_length_eq_zero (by omega)]
    exact Rd.of_nil _ _
  · simp only [Value.slice.injEq] at hv
    obtain ⟨rfl, _, _⟩ := hv
    have hl : n * 1 = bs.length := by have := h.1; rw [bv_length] at this; omega
    rw [hl] at ht
    exact Rd.of_block hg ht
/-- a full row: its block is known whole -/
theorem own_full {w : World} {base : Nat} {e : TypeId} {g n : Nat} {xs : List Value} (h : w.ownsRow base e 1 (.slice (some ⟨g, 0, none⟩) n n) n xs) : base ≤ g ∧ w.heap[g]? = some (.cells xs.toArray e (0, 0)) := by
  rcases h.2 with ⟨h1, _⟩ | ⟨g', cap, cur, hv, hb, hg, _, _, hs, ht⟩
  · simp at h1
  · simp only [Value.slice.injEq, Option.some.injEq, Addr.mk.injEq, and_true, true_and] at hv
    obtain ⟨rfl, rfl⟩ := hv
    refine ⟨hb, ?_⟩
    rw [hg, ← ht, List.take_of_length_le (by simp; omega)]

/-! ### calls that only read, met inside a region that draws its order (after a draw the worlds have been joined) -/
theorem q_same {P : Program} {f : FuncId} {args : Array Value} {w : World} {v : Value} {n : Nat}
    (h : Calls P f args (w.drewN n) fun e w' => e = .returned v ∧ w.drewN n = w') : Calls P f args (w.drewN n) fun e w'' => e = .returned v ∧ ∃ m, w'' = w.drewN m :=
  h.mono fun _ _ ⟨he, hm⟩ => ⟨he, n, hm.symm⟩
theorem q_add {P : Program} {f : FuncId} {args : Array Value} {w : World} {v : Value} {a n : Nat}
    (h : Calls P f args (w.drewN (a + n)) fun e w' => e = .returned v ∧ w.drewN (a + n) = w') : Calls P f args (w.drewN (a + n)) fun e w'' => e = .returned v ∧ ∃ m, w'' = w.drewN (a + m) :=
  h.mono fun _ _ ⟨he, hm⟩ => ⟨he, n, hm.symm⟩
theorem q_drew {P : Program} {f : FuncId} {args : Array Value} {w : World} {v : Value} {n : Nat}
    (h : Calls P f args (w.drewN n) fun e w' => e = .returned v ∧ ∃ m, w' = (w.drewN n).drewN m) : Calls P f args (w.drewN n) fun e w'' => e = .returned v ∧ ∃ m, w'' = w.drewN m :=
  h.mono fun _ _ ⟨he, m, hm⟩ => ⟨he, n + m, by rw [hm, World.drewN_drewN]⟩
theorem q_add_drew {P : Program} {f : FuncId} {args : Array Value} {w : World} {v : Value} {a n : Nat}
    (h : Calls P f args (w.drewN (a + n)) fun e w' => e = .returned v ∧ ∃ m, w' = (w.drewN (a + n)).drewN m) : Calls P f args (w.drewN (a + n)) fun e w'' => e = .returned v ∧ ∃ m, w'' = w.drewN (a + m) :=
  h.mono fun _ _ ⟨he, m, hm⟩ => ⟨he, n + m, by rw [hm, World.drewN_drewN, Nat.add_assoc]⟩
theorem drewN_ex (w : World) (a b : Nat) : ∃ k, (w.drewN a).drewN b = w.drewN k := ⟨_, World.drewN_drewN _ _ _⟩

/-! ### one cell stored, as a law -/
section
variable {P : Program}
theorem cells_of_one {v : Value} (h1 : v.oneCell' = true) : v.cells = #[v] := by cases v <;> first | rfl | (simp [Value.oneCell'] at h1)
theorem run_storeVar_one (w : World) (ty : TypeId) (p : Addr) (v old : Value) (h1 : v.oneCell' = true) (hs : (P.info? ty).map (·.size) = some 1) (hc : w.cell? p = some old) (hf : w.frozen? p = false) :
    (storeVar ty p v).run P w = .ok () (w.setCell p v) := by
  cases hq : P.info? ty with
  | none => simp [hq] at hs
  | some i =>
    have hs' : i.size = 1 := by simpa [hq] using hs
    have e : (storeCells p [v] 0) = (do store (p.add 0) v; pure ()) := rfl
    simp [storeVar, sizeOf, typeInfo, hq, cells_of_one h1, hs', e, run_store P w p v _ h1, hc, hf, Result.andThen, Addr.add_zero']
theorem wpList_store_one {ops : Array Oper} {rest : List Oper} {o : Oper} {a : Act} {w : World} {Q : Exit → Act → World → Prop} (hgd : o.guard = Option.none) (ty : TypeId) (x y : Operand) (ho : o.op = .store ty x y)
    (p : Addr) (v old : Value) (hx : a.eval x = .pointer (some p)) (hy : a.eval y = v) (h1 : v.oneCell' = true) (hs : (P.info? ty).map (·.size) = some 1) (hc : w.cell? p = some old) (hf : w.frozen? p = false)
    (h : wpList P ops Q rest (a.put o.dst undef) (w.setCell p v)) : wpList P ops Q (o :: rest) a w := by
  refine wpList_plain hgd fun K hK => ?_
  unfold Oper.wp execOp
  simp only [ho, hx, hy, Instr.storeAt, Instr.sureAddr, Sem.run_bind, Sem.run_pure, Result.andThen_ok, run_storeVar_one w ty p v old h1 hs hc hf]
  exact hK _ _ h
end

theorem block_set {w : World} {g : Nat} {xs : List Value} {t : TypeId} (hg : w.heap[g]? = some (.cells xs.toArray t (0, 0))) (i : Nat) (v : Value) :
    (w.setCell ⟨g, i, Option.none⟩ v).heap[g]? = some (.cells (xs.set i v).toArray t (0, 0)) := by
  rw [heap_setCell_same w g i _ t v hg]; simp
theorem block_cell {w : World} {g : Nat} {xs : List Value} {t : TypeId} {fr : Nat × Nat} (hg : w.heap[g]? = some (.cells xs.toArray t fr)) {i : Nat} {v : Value} (h : xs[i]? = some v) : w.cell? ⟨g, i, Option.none⟩ = some v := by
  rw [cell_of_row w g i _ _ _ hg, List.getElem?_toArray, h]

theorem below_drewN {B : Nat} {a w : World} (h : Below B a w) (n : Nat) : Below B a (w.drewN n) := ⟨h.os, h.tape, h.output, h.size, h.block⟩

/-- an array value's element, its index a variable -/
theorem run_index_agg {P : Program} (t e : TypeId) (len : Nat) (cs : Array Value) (k : Nat) (v : Value) (d : TypeDesc) (ht : P.underlying t = some (.array len e)) (he : (P.info? e).map (·.size) = some 1)
    (hd : P.underlying e = some d) (hd1 : (match d with | .struct _ | .array _ _ => true | _ => false) = false) (hk : k < len) (hv : cs[k]? = some v) (w : World) :
    (Instr.index t (.agg cs) (.int .i64 (k : Int))).run P w = .ok v w := by
  cases hq : P.info? e with
  | none => simp [hq] at he
  | some i =>
    have hs : i.size = 1 := by simpa [hq] using he
    have hagg : (isAgg e).run P w = .ok false w := by
      unfold isAgg
      rw [Sem.run_bind, run_underlying hd w]
      cases d <;> simp_all
    simp [Instr.index, asIntOf, run_underlying ht, hk, sizeOf, typeInfo, hq, hs, part, hagg, hv, Sem.run_bind]

theorem heap_alloc3_new (w : World) (A B C : Obj) : (((w.alloc A).alloc B).alloc C).heap[w.heap.size + 2]? = some C := by
  have h := heap_alloc_new ((w.alloc A).alloc B) C
  have e : ((w.alloc A).alloc B).heap.size = w.heap.size + 2 := by simp
  rwa [e] at h
theorem heap_alloc3_mid (w : World) (A B C : Obj) : (((w.alloc A).alloc B).alloc C).heap[w.heap.size + 1]? = some B := by
  rw [Below.heap_alloc ((w.alloc A).alloc B) C (w.heap.size + 1) (by simp)]
  exact heap_alloc2_new w A B
theorem heap_alloc3_old (w : World) (A B C : Obj) : (((w.alloc A).alloc B).alloc C).heap[w.heap.size]? = some A := by
  rw [Below.heap_alloc ((w.alloc A).alloc B) C w.heap.size (by simp; omega)]
  exact heap_alloc2_old w A B

theorem W32_not (x : BitVec 32) : Op.unary .xor (W32 x) = pure (W32 (~~~x)) := by
  have h : bits .xor .u32 (4294967295 : Int) (x.toNat : Int) = ((~~~x).toNat : Int) := by
    show IntKind.u32.wrap ((BitVec.ofInt 32 4294967295 ^^^ BitVec.ofInt 32 (x.toNat : Int)).toNat : Int) = _
    have e : BitVec.ofInt 32 4294967295 = BitVec.allOnes 32 := by decide
    rw [ofInt_W32, e, BitVec.allOnes_xor, wrap_W32]
  show Op.intBits .xor .u32 (if IntKind.u32.signed then -1 else IntKind.u32.max) (x.toNat : Int) = _
  rw [intBits_xor]
  have e2 : (if IntKind.u32.signed then (-1 : Int) else IntKind.u32.max) = 4294967295 := by decide
  rw [e2, h]; rfl
attribute [go_sem] W32_not

/-- a whole array loaded, as a step of a still walk -/
theorem wpStill_load_row {P : Program} {ops : Array Oper} {rest : List Oper} {o : Oper} {a : Act} {w : World} {Q : Act → Prop} (hgd : o.guard = Option.none) (ty : TypeId) (x : Operand) (ho : o.op = .load ty x)
    (g : Nat) (hx : a.eval x = .pointer (some ⟨g, 0, Option.none⟩)) (t : TypeId) (cs : Array Value) (fr : Nat × Nat) (d : TypeDesc) (hg : w.heap[g]? = some (.cells cs t fr))
    (hu : P.underlying ty = some d) (hd : (match d with | .struct _ | .array _ _ => true | _ => false) = true) (hi : (P.info? ty).map (·.size) = some cs.size)
    (h : wpStill P ops w Q rest (a.put o.dst (.agg cs))) : wpStill P ops w Q (o :: rest) a := by
  refine wpStill_step fun K hK => ?_
  rw [if_pos (by simp [Region.wanted, hgd])]
  unfold Oper.still execOp
  simp only [ho, hx, Instr.loadAt, Instr.sureAddr, Sem.run_bind, Sem.run_pure, Result.andThen_ok, run_loadVar_row w g t ty cs fr d hg hu hd hi]
  exact ⟨rfl, hK _ h⟩

theorem B8_lss (t : TypeId) (x y : BitVec 8) : binOp .lss t (B8 x) (B8 y) = pure (.bool (decide (x < y))) := by
  have h : decide ((x.toNat : Int) < (y.toNat : Int)) = decide (x < y) := by
    rw [decide_eq_decide, BitVec.lt_def]; omega
  simp only [B8, binOp_lss, h]
theorem B8_gtr (t : TypeId) (x y : BitVec 8) : binOp .gtr t (B8 x) (B8 y) = pure (.bool (decide (y < x))) := by
  have h : decide ((x.toNat : Int) > (y.toNat : Int)) = decide (y < x) := by
    rw [decide_eq_decide, BitVec.lt_def]; omega
  simp only [B8, binOp_gtr, h]
attribute [go_sem] B8_lss B8_gtr

theorem W32_lss (t : TypeId) (x y : BitVec 32) : binOp .lss t (W32 x) (W32 y) = pure (.bool (decide (x < y))) := by
  have h : decide ((x.toNat : Int) < (y.toNat : Int)) = decide (x < y) := by
    rw [decide_eq_decide, BitVec.lt_def]; omega
  simp only [W32, binOp_lss, h]
theorem W32_gtr (t : TypeId) (x y : BitVec 32) : binOp .gtr t (W32 x) (W32 y) = pure (.bool (decide (y < x))) := by
  have h : decide ((x.toNat : Int) > (y.toNat : Int)) = decide (y < x) := by
    rw [decide_eq_decide, BitVec.lt_def]; omega
  simp only [W32, binOp_gtr, h]
attribute [go_sem] W32_lss W32_gtr

theorem W64_lss (t : TypeId) (x y : BitVec 64) : binOp .lss t (W64 x) (W64 y) = pure (.bool (decide (x < y))) := by
  have h : decide ((x.toNat : Int) < (y.toNat : Int)) = decide (x < y) := by
    rw [decide_eq_decide, BitVec.lt_def]; omega
  simp only [W64, binOp_lss, h]
theorem W64_gtr (t : TypeId) (x y : BitVec 64) : binOp .gtr t (W64 x) (W64 y) = pure (.bool (decide (y < x))) := by
  have h : decide ((x.toNat : Int) > (y.toNat : Int)) = decide (y < x) := by
    rw [decide_eq_decide, BitVec.lt_def]; omega
  simp only [W64, binOp_gtr, h]
attribute [go_sem] W64_lss W64_gtr

end Go.Proofs.Ytdmpphioflcofaa.K

/- Laws on append, over any program: an own row grows; where the new row lies, and that the old row's cells stay as they were. -/
namespace Go.Proofs.Ytdmpphioflcofaa.K
open Go Go.RowKit

section
variable {P : Program} (w : World)

theorem grown_of_none {w w' : World} {b : Option Nat} (h : w.grownBy w' none) : w.grownBy w' b := ⟨h.os, h.tape, h.output, h.size, fun k hk _ => h.block k hk (by simp)⟩

theorem run_append_keep (t ty : TypeId) (base : Nat) (e : TypeId) (i : TypeInfo) (z : Value) (size bytes : Nat) (ht : P.underlying t = some (.slice e)) (hi : P.info? e = some i) (hz : i.zero = some z)
    (hsize : i.size = size) (hby : i.bytes = bytes) (hzs : z.cells.size = size) (hsz : 0 < size)
    (g n cap : Nat) (xs : List Value) (hown : w.ownsRow base e size (.slice (some ⟨g, 0, none⟩) n cap) n xs)
    (ad : Addr) (m c : Nat) (news : List Value) (hl : news.length = m * size) (hnews : ∀ j u, news[j]? = some u → w.cell? (ad.add j) = some u) (h1 : ∀ u ∈ news, u.oneCell' = true)
    (hm : 0 < m) (h63 : n + m ≤ maxLen) (hbytes : (n + m) * bytes ≤ 140737488355328) (hbase : base ≤ w.heap.size) (H : Nat) (hH : w.heap.size = H) :
    ∃ g' cap' w', (Builtin.append_ #[t, t] ty #[.slice (some ⟨g, 0, none⟩) n cap, .slice (some ad) m c]).run P w = .ok (.slice (some ⟨g', 0, none⟩) (n + m) cap') w' ∧
      w'.ownsRow base e size (.slice (some ⟨g', 0, none⟩) (n + m) cap') (n + m) (xs ++ news) ∧ w.grownBy w' (some g) ∧ ((g' = g ∧ cap' = cap ∧ n + m ≤ cap) ∨ (H ≤ g' ∧ cap < n + m)) ∧ g' < w'.heap.size ∧ ∀ j, j < n * size → w'.cell? ⟨g, j, none⟩ = w.cell? ⟨g, j, none⟩ := by
  have hxl : xs.length = n * size := hown.1
  rcases Nat.lt_or_ge cap (n + m) with hr | hr
  · obtain ⟨v', w', hrun, h2, h3⟩ := run_append_arg_grows (P := P) w t ty e i z size bytes ht hi hz hsize hby hzs hsz ⟨g, 0, none⟩ n cap xs hxl
      (fun j u hu => by
        have hj : j < xs.length := (List.getElem?_eq_some_iff.1 hu).1
        rw [Addr.add_lit, Nat.zero_add, hown.cellAt j (by omega), hu]) ad m c news hl hnews hr h63 hbytes
    obtain ⟨g', cap', rfl, hg', hlt⟩ := h2.form (by omega)
    refine ⟨g', cap', w', hrun, ⟨h2.1, h2.2.elim .inl fun ⟨a, b, cur, hv, hb, r⟩ => .inr ⟨a, b, cur, hv, Nat.le_trans hbase hb, r⟩⟩, grown_of_none h3, .inr ⟨by omega, hr⟩, hlt, fun j hj => ?_⟩
    have hc : w.cell? ⟨g, j, none⟩ = some (xs[j]'(by omega)) := by rw [hown.cellAt j hj]; simp
    rw [h3.cell hc (by simp), hc]
  · obtain ⟨w', hrun, h2, h3⟩ := run_append_fits (P := P) w base t ty e i size ht hi hsize g n cap xs hown ad m c news hl hnews h1 hr
    refine ⟨g, cap, w', hrun, h2, h3, .inl ⟨rfl, rfl, hr⟩, (h2.form (by omega)).elim fun a h => h.elim fun b h => ?_, fun j hj => ?_⟩
    · have := h.1; simp at this; obtain ⟨rfl, rfl⟩ := this; exact h.2.2
    · rw [hown.cellAt j hj, h2.cellAt j (by rw [Nat.add_mul]; omega), List.getElem?_append_left (by omega)]

theorem wp_append_keep {o : Oper} {a : Act} {K : Act → World → Prop} {Q : Exit → Act → World → Prop} (s x : Operand) (t : TypeId)
    (ho : o.op = .call { callee := .builtin .append, args := #[s, x], argTypes := #[t, t] })
    (base : Nat) (e : TypeId) (i : TypeInfo) (z : Value) (size bytes : Nat) (ht : P.underlying t = some (.slice e)) (hi : P.info? e = some i) (hz : i.zero = some z)
    (hsize : i.size = size) (hby : i.bytes = bytes) (hzs : z.cells.size = size) (hsz : 0 < size)
    (g n cap : Nat) (xs : List Value) (hs : a.eval s = .slice (some ⟨g, 0, none⟩) n cap) (hown : w.ownsRow base e size (.slice (some ⟨g, 0, none⟩) n cap) n xs)
    (ad : Addr) (m c : Nat) (news : List Value) (hx : a.eval x = .slice (some ad) m c) (hl : news.length = m * size) (hnews : ∀ j u, news[j]? = some u → w.cell? (ad.add j) = some u) (h1 : ∀ u ∈ news, u.oneCell' = true)
    (hm : 0 < m) (h63 : n + m ≤ maxLen) (hbytes : (n + m) * bytes ≤ 140737488355328) (hbase : base ≤ w.heap.size) (H : Nat) (hH : w.heap.size = H)
    (h : ∀ g' cap' w', w'.ownsRow base e size (.slice (some ⟨g', 0, none⟩) (n + m) cap') (n + m) (xs ++ news) → w.grownBy w' (some g) → ((g' = g ∧ cap' = cap ∧ n + m ≤ cap) ∨ (H ≤ g' ∧ cap < n + m)) → g' < w'.heap.size → (∀ j, j < n * size → w'.cell? ⟨g, j, none⟩ = w.cell? ⟨g, j, none⟩) → K (a.put o.dst (.slice (some ⟨g', 0, none⟩) (n + m) cap')) w') : o.wp P a w K Q := by
  obtain ⟨g', cap', w', hr, h2, h3, h4, h5, h6⟩ := run_append_keep (P := P) w t o.type base e i z size bytes ht hi hz hsize hby hzs hsz g n cap xs hown ad m c news hl hnews h1 hm h63 hbytes hbase H hH
  unfold Oper.wp execOp
  simp only [ho, resolve, invoke, builtin, Sem.run_bind, Sem.run_pure, Result.andThen_ok, List.map_toArray, List.map_cons, List.map_nil, hs, hx, hr]
  exact h g' cap' w' h2 h3 h4 h5 h6

theorem wpList_append_keep {ops : Array Oper} {rest : List Oper} {o : Oper} {a : Act} {Q : Exit → Act → World → Prop} (hgd : o.guard = none) (s x : Operand) (t : TypeId)
    (ho : o.op = .call { callee := .builtin .append, args := #[s, x], argTypes := #[t, t] })
    (base : Nat) (e : TypeId) (i : TypeInfo) (z : Value) (size bytes : Nat) (ht : P.underlying t = some (.slice e)) (hi : P.info? e = some i) (hz : i.zero = some z)
    (hsize : i.size = size) (hby : i.bytes = bytes) (hzs : z.cells.size = size) (hsz : 0 < size)
    (g n cap : Nat) (xs : List Value) (hs : a.eval s = .slice (some ⟨g, 0, none⟩) n cap) (hown : w.ownsRow base e size (.slice (some ⟨g, 0, none⟩) n cap) n xs)
    (ad : Addr) (m c : Nat) (news : List Value) (hx : a.eval x = .slice (some ad) m c) (hl : news.length = m * size) (hnews : ∀ j u, news[j]? = some u → w.cell? (ad.add j) = some u) (h1 : ∀ u ∈ news, u.oneCell' = true)
    (hm : 0 < m) (h63 : n + m ≤ maxLen) (hbytes : (n + m) * bytes ≤ 140737488355328) (hbase : base ≤ w.heap.size) (H : Nat) (hH : w.heap.size = H)
    (h : ∀ g' cap' w', w'.ownsRow base e size (.slice (some ⟨g', 0, none⟩) (n + m) cap') (n + m) (xs ++ news) → w.grownBy w' (some g) → ((g' = g ∧ cap' = cap ∧ n + m ≤ cap) ∨ (H ≤ g' ∧ cap < n + m)) → g' < w'.heap.size → (∀ j, j < n * size → w'.cell? ⟨g, j, none⟩ = w.cell? ⟨g, j, none⟩) → wpList P ops Q rest (a.put o.dst (.slice (some ⟨g', 0, none⟩) (n + m) cap')) w') : wpList P ops Q (o :: rest) a w :=
  wpList_plain hgd fun _ hK => wp_append_keep w s x t ho base e i z size bytes ht hi hz hsize hby hzs hsz g n cap xs hs hown ad m c news hx hl hnews h1 hm h63 hbytes hbase H hH fun g' cap' w' h2 h3 h4 h5 h6 => hK _ _ (h g' cap' w' h2 h3 h4 h5 h6)

theorem step_append_keep {ops : Array Oper} {o : Oper} {a : Act} {K : Act → World → Prop} {Q : Exit → Act → World → Prop} {E : Prop} (hgd : o.guard = none) (s x : Operand) (t : TypeId)
    (ho : o.op = .call { callee := .builtin .append, args := #[s, x], argTypes := #[t, t] })
    (base : Nat) (e : TypeId) (i : TypeInfo) (z : Value) (size bytes : Nat) (ht : P.underlying t = some (.slice e)) (hi : P.info? e = some i) (hz : i.zero = some z)
    (hsize : i.size = size) (hby : i.bytes = bytes) (hzs : z.cells.size = size) (hsz : 0 < size)
    (g n cap : Nat) (xs : List Value) (hs : a.eval s = .slice (some ⟨g, 0, none⟩) n cap) (hown : w.ownsRow base e size (.slice (some ⟨g, 0, none⟩) n cap) n xs)
    (ad : Addr) (m c : Nat) (news : List Value) (hx : a.eval x = .slice (some ad) m c) (hl : news.length = m * size) (hnews : ∀ j u, news[j]? = some u → w.cell? (ad.add j) = some u) (h1 : ∀ u ∈ news, u.oneCell' = true)
    (hm : 0 < m) (h63 : n + m ≤ maxLen) (hbytes : (n + m) * bytes ≤ 140737488355328) (hbase : base ≤ w.heap.size) (H : Nat) (hH : w.heap.size = H)
    (h : ∀ g' cap' w', w'.ownsRow base e size (.slice (some ⟨g', 0, none⟩) (n + m) cap') (n + m) (xs ++ news) → w.grownBy w' (some g) → ((g' = g ∧ cap' = cap ∧ n + m ≤ cap) ∨ (H ≤ g' ∧ cap < n + m)) → g' < w'.heap.size → (∀ j, j < n * size → w'.cell? ⟨g, j, none⟩ = w.cell? ⟨g, j, none⟩) → K (a.put o.dst (.slice (some ⟨g', 0, none⟩) (n + m) cap')) w') :
    if Region.wanted o (yielded ops a.tmps) = true then Oper.wp P o a w K Q else E := by
  have hw : Region.wanted o (yielded ops a.tmps) = true := by simp [Region.wanted, hgd]
  rw [if_pos hw]
  exact wp_append_keep w s x t ho base e i z size bytes ht hi hz hsize hby hzs hsz g n cap xs hs hown ad m c news hx hl hnews h1 hm h63 hbytes hbase H hH h
end
end Go.Proofs.Ytdmpphioflcofaa.K
