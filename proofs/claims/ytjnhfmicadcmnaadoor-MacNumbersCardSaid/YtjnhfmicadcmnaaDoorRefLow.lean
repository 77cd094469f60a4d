/- Words of 32 bits held in words of 64: what the reference's operations give on them. Plain lemmas, and the contracts of turned and moved on such words. -/
import Derived.Test.YtjnhfmicadcmnaaDoorRefRoot
namespace Go.Proofs.YtjnhfmicadcmnaaDoor.M

abbrev up (x : BitVec 32) : BitVec 64 := x.setWidth 64
theorem low_up (x : BitVec 32) : (up x).setWidth 32 = x := by
  rw [BitVec.setWidth_setWidth_of_le _ (by omega), BitVec.setWidth_eq]
theorem mask_low (x : BitVec 64) : x &&& mask = up (x.setWidth 32) := by
  apply BitVec.eq_of_getLsbD_eq
  intro i hi
  have hm : mask = (BitVec.allOnes 32).setWidth 64 := by decide
  rw [hm, BitVec.getLsbD_and, BitVec.getLsbD_setWidth, BitVec.getLsbD_setWidth, BitVec.getLsbD_setWidth, BitVec.getLsbD_allOnes]
  by_cases h : i < 32 <;> simp [h, hi]
theorem up_bit (x : BitVec 32) (i : Nat) (hi : i < 64) : (up x).getLsbD i = x.getLsbD i := by
  rw [BitVec.getLsbD_setWidth]; simp [hi]
theorem turned_up (y : BitVec 32) (n : Nat) (h0 : 0 < n) (h1 : n < 32) : ((up y >>> n) ||| (up y <<< (32 - n))) &&& mask = up (rot y n) := by
  rw [mask_low]
  congr 1
  apply BitVec.eq_of_getLsbD_eq
  intro i hi
  rw [BitVec.getLsbD_setWidth, rot, BitVec.getLsbD_or, BitVec.getLsbD_or, BitVec.getLsbD_ushiftRight, BitVec.getLsbD_ushiftRight, BitVec.getLsbD_shiftLeft, BitVec.getLsbD_shiftLeft]
  have e1 : (up y).getLsbD (n + i) = y.getLsbD (n + i) := up_bit y _ (by omega)
  rw [e1]
  by_cases h : i < 32 - n
  · simp [h, hi]
  · have e2 : (up y).getLsbD (i - (32 - n)) = y.getLsbD (i - (32 - n)) := up_bit y _ (by omega)
    rw [e2]
    simp [h, hi, show i < 64 by omega]
theorem moved_up (y : BitVec 32) (n : Nat) : up y >>> n = up (y >>> n) := by
  apply BitVec.eq_of_getLsbD_eq
  intro i hi
  rw [BitVec.getLsbD_ushiftRight, up_bit _ _ hi, BitVec.getLsbD_ushiftRight, BitVec.getLsbD_setWidth]
  by_cases h : n + i < 64
  · simp [h]
  · simp [h]; rw [BitVec.getLsbD_of_ge _ _ (by omega)]
theorem ch_up (e f g : BitVec 32) : (up e &&& up f) ||| ((mask ^^^ up e) &&& up g) = up (ch e f g) := by
  apply BitVec.eq_of_getLsbD_eq
  intro i hi
  have hm : mask = up (BitVec.allOnes 32) := by decide
  rw [hm]
  simp only [BitVec.getLsbD_or, BitVec.getLsbD_and, BitVec.getLsbD_xor, up_bit _ _ hi, ch, BitVec.getLsbD_not, BitVec.getLsbD_allOnes]
  by_cases h : i < 32
  · simp only [h, decide_true]
    cases e.getLsbD i <;> cases f.getLsbD i <;> cases g.getLsbD i <;> rfl
  · rw [BitVec.getLsbD_of_ge g _ (by omega), BitVec.getLsbD_of_ge e _ (by omega)]; simp
theorem maj_up (a b c : BitVec 32) : (up a &&& up b) ||| (up a &&& up c) ||| (up b &&& up c) = up (maj a b c) := by
  apply BitVec.eq_of_getLsbD_eq
  intro i hi
  simp only [BitVec.getLsbD_or, BitVec.getLsbD_and, BitVec.getLsbD_xor, up_bit _ _ hi, maj]
  cases a.getLsbD i <;> cases b.getLsbD i <;> cases c.getLsbD i <;> rfl
theorem word_up (a b c d : BitVec 8) : (a.setWidth 64 <<< 24) ||| (b.setWidth 64 <<< 16) ||| (c.setWidth 64 <<< 8) ||| d.setWidth 64 = up (word a b c d) := by
  apply BitVec.eq_of_getLsbD_eq
  intro i hi
  simp only [up_bit _ _ hi, word, BitVec.getLsbD_or, BitVec.getLsbD_shiftLeft, BitVec.getLsbD_setWidth]
  by_cases h : i < 32
  · simp [h, hi, show i - 24 < 64 by omega, show i - 24 < 32 by omega, show i - 16 < 64 by omega, show i - 16 < 32 by omega, show i - 8 < 64 by omega, show i - 8 < 32 by omega]
  · have z : ∀ (x : BitVec 8) (k : Nat), 8 ≤ k → x.getLsbD k = false := fun x k hk => BitVec.getLsbD_of_ge x k hk
    simp [h, z a (i - 24) (by omega), z b (i - 16) (by omega), z c (i - 8) (by omega), z d i (by omega)]
end Go.Proofs.YtjnhfmicadcmnaaDoor.M
namespace Go.Proofs.YtjnhfmicadcmnaaDoor.K
open Go Go.RowKit
theorem turned_low (y : BitVec 32) (n : Int) (w : World) (h0 : 0 < n) (h1 : n < 32) :
    Calls Tryd.prog 30 #[W64 (M.up y), .int .u64 n] w fun e w' => e = .returned (W64 (M.up (M.rot y n.toNat))) ∧ w = w' := by
  have e : (32 - n).toNat = 32 - n.toNat := by omega
  have h := turned_any (M.up y) n w h0 h1
  rw [e, M.turned_up y n.toNat (by omega) (by omega)] at h
  exact h
theorem moved_low (y : BitVec 32) (n : Int) (w : World) (h0 : 0 ≤ n) :
    Calls Tryd.prog 43 #[W64 (M.up y), .int .u64 n] w fun e w' => e = .returned (W64 (M.up (y >>> n.toNat))) ∧ w = w' := by
  have h := moved_any (M.up y) n w h0
  rw [M.moved_up] at h
  exact h
theorem mask_xor (t : TypeId) (x : BitVec 64) : binOp .xor t (.int .u64 4294967295) (W64 x) = pure (W64 (M.mask ^^^ x)) := W64_xor t M.mask x

/-- append of what may be nil -/
theorem wpList_append_own_any {P : Program} (w : World) {ops : Array Oper} {rest : List Oper} {o : Oper} {a : Act} {Q : Exit → Act → World → Prop} (hgd : o.guard = Option.none) (s x : Operand) (t : TypeId)
    (ho : o.op = .call { callee := .builtin .append, args := #[s, x], argTypes := #[t, t] })
    (base : Nat) (e : TypeId) (i : TypeInfo) (z : Value) (size bytes : Nat) (ht : P.underlying t = some (.slice e)) (hi : P.info? e = some i) (hz : i.zero = some z)
    (hsize : i.size = size) (hby : i.bytes = bytes) (hzs : z.cells.size = size) (hsz : 0 < size)
    (v : Value) (n : Nat) (xs : List Value) (hs : a.eval s = v) (hown : w.ownsRow base e size v n xs)
    (ao : Option Addr) (m c : Nat) (news : List Value) (hx : a.eval x = .slice ao m c) (hnone : ao = Option.none → m = 0 ∧ c = 0) (hl : news.length = m * size) (hnews : ∀ ad, ao = some ad → ∀ j u, news[j]? = some u → w.cell? (ad.add j) = some u) (h1 : ∀ u ∈ news, u.oneCell' = true)
    (h63 : n + m ≤ maxLen) (hbytes : (n + m) * bytes ≤ 140737488355328) (hbase : base ≤ w.heap.size)
    (h : ∀ v' w', w'.ownsRow base e size v' (n + m) (xs ++ news) → w.grownBy w' v.ownBlock → wpList P ops Q rest (a.put o.dst v') w') :
    wpList P ops Q (o :: rest) a w := by
  cases ao with
  | some ad => exact wpList_append_own w hgd s x t ho base e i z size bytes ht hi hz hsize hby hzs hsz v n xs hs hown ad m c news hx hl (hnews ad rfl) h1 h63 hbytes hbase fun v' w' h2 h3 _ => h v' w' h2 h3
  | none =>
    obtain ⟨rfl, rfl⟩ := hnone rfl
    have hn : news = [] := List.eq_nil_of_length_eq_zero (by simpa using hl)
    subst hn
    refine wpList_plain hgd fun K hK' => ?_
    have hrun := run_append_owned_none (P := P) w base t o.type e i size ht hi _ n xs hown
    unfold Oper.wp
    simp [execOp, ho, resolve, invoke, builtin, hs, hx, hrun, Result.andThen]
    exact hK' _ _ (h v w (by simpa using hown) (World.grownBy.refl _ _))
end Go.Proofs.YtjnhfmicadcmnaaDoor.K
