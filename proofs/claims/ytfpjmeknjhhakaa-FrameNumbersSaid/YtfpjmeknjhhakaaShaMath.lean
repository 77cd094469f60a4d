/- SHA-256 as plain Lean functions on words of 32 bits, and what is known of them. No program in sight. -/
namespace Go.Proofs.Ytfpjmeknjhhakaa.M

abbrev W := BitVec 32
abbrev B := BitVec 8

def rot (x : W) (n : Nat) : W := (x >>> n) ||| (x <<< (32 - n))
def word (a b c d : B) : W := (a.setWidth 32 <<< 24) ||| (b.setWidth 32 <<< 16) ||| (c.setWidth 32 <<< 8) ||| d.setWidth 32
def sg0 (x : W) : W := rot x 7 ^^^ rot x 18 ^^^ (x >>> 3)
def sg1 (y : W) : W := rot y 17 ^^^ rot y 19 ^^^ (y >>> 10)
def bs0 (a : W) : W := rot a 2 ^^^ rot a 13 ^^^ rot a 22
def bs1 (e : W) : W := rot e 6 ^^^ rot e 11 ^^^ rot e 25
def ch (e f g : W) : W := (e &&& f) ^^^ (~~~e &&& g)
def maj (a b c : W) : W := (a &&& b) ^^^ (a &&& c) ^^^ (b &&& c)

/-- the first k words of a block's schedule -/
def at32 (l : List W) (i : Nat) : W := l.getD i 0
def at8 (l : List B) (i : Nat) : B := l.getD i 0
def next (l : List W) (t : Nat) : W := at32 l (t - 16) + sg0 (at32 l (t - 15)) + at32 l (t - 7) + sg1 (at32 l (t - 2))
def wordAt (b : List B) (t : Nat) : W := word (at8 b (4 * t)) (at8 b (4 * t + 1)) (at8 b (4 * t + 2)) (at8 b (4 * t + 3))
def sched (b : List B) : Nat → List W
  | 0 => []
  | t + 1 => sched b t ++ [if t < 16 then wordAt b t else next (sched b t) t]
theorem sched_length (b : List B) (t : Nat) : (sched b t).length = t := by
  induction t with
  | zero => rfl
  | succ t ih => simp [sched, ih]

structure St where
  a : W
  b : W
  c : W
  d : W
  e : W
  f : W
  g : W
  h : W
deriving DecidableEq

def one (s : St) (k w : W) : W := s.h + bs1 s.e + ch s.e s.f s.g + k + w
def two (s : St) : W := bs0 s.a + maj s.a s.b s.c
def rnd (s : St) (k w : W) : St := ⟨one s k w + two s, s.a, s.b, s.c, s.d + one s k w, s.e, s.f, s.g⟩
def St.add (s o : St) : St := ⟨s.a + o.a, s.b + o.b, s.c + o.c, s.d + o.d, s.e + o.e, s.f + o.f, s.g + o.g, s.h + o.h⟩
def St.list (s : St) : List W := [s.a, s.b, s.c, s.d, s.e, s.f, s.g, s.h]

def kList : List W := [1116352408, 1899447441, 3049323471, 3921009573, 961987163, 1508970993, 2453635748, 2870763221, 3624381080, 310598401, 607225278, 1426881987, 1925078388, 2162078206, 2614888103, 3248222580, 3835390401, 4022224774, 264347078, 604807628, 770255983, 1249150122, 1555081692, 1996064986, 2554220882, 2821834349, 2952996808, 3210313671, 3336571891, 3584528711, 113926993, 338241895, 666307205, 773529912, 1294757372, 1396182291, 1695183700, 1986661051, 2177026350, 2456956037, 2730485921, 2820302411, 3259730800, 3345764771, 3516065817, 3600352804, 4094571909, 275423344, 430227734, 506948616, 659060556, 883997877, 958139571, 1322822218, 1537002063, 1747873779, 1955562222, 2024104815, 2227730452, 2361852424, 2428436474, 2756734187, 3204031479, 3329325298]
def first : St := ⟨1779033703, 3144134277, 1013904242, 2773480762, 1359893119, 2600822924, 528734635, 1541459225⟩

/-- t rounds over the words ws -/
def rounds (s : St) (ws : List W) : Nat → St
  | 0 => s
  | t + 1 => rnd (rounds s ws t) (at32 kList t) (at32 ws t)
def take (s : St) (blk : List B) : St := (rounds s (sched blk 64) 64).add s

/-- the length's eight bytes, the highest first -/
def be8 (n : Nat) : List B := (List.range 8).map fun i => BitVec.ofNat 8 (n >>> (8 * (7 - i)))
def total (n : Nat) : Nat := (n + 8) / 64 * 64 + 64
def message (bs : List B) : List B := bs ++ [128#8] ++ List.replicate (total bs.length - bs.length - 9) 0#8 ++ be8 (bs.length * 8)
theorem total_ge (n : Nat) : n + 9 ≤ total n := by unfold total; omega
theorem total_mod (n : Nat) : total n % 64 = 0 := by unfold total; omega
theorem message_length (bs : List B) : (message bs).length = total bs.length := by
  have := total_ge bs.length
  simp [message, be8]; omega

/-- k blocks of m taken in -/
def after (m : List B) : Nat → St
  | 0 => first
  | k + 1 => take (after m k) ((m.drop (64 * k)).take 64)
theorem after_succ (m : List B) (k : Nat) : take (after m k) ((m.drop (64 * k)).take 64) = after m (k + 1) := rfl
def bytesOf (w : W) : List B := [(w >>> 24).setWidth 8, (w >>> 16).setWidth 8, (w >>> 8).setWidth 8, w.setWidth 8]
def digest (s : St) : List B := s.list.flatMap bytesOf
def sum (bs : List B) : List B := digest (after (message bs) (total bs.length / 64))
theorem sum_length (bs : List B) : (sum bs).length = 32 := rfl

end Go.Proofs.Ytfpjmeknjhhakaa.M
