/- Merged: RefRoot, RefLow, RefRoots, RefMsg, RefWords, RefSum, MacTag. -/
import Derived.Test.YtidcfjmibljkeaaDoorBs3
import Derived.Deep.RegionHeld3
import Derived.Deep.AppendLies
/- Contracts of the reference's prime, root, roots, turned, moved. -/
namespace Go.Proofs.YtidcfjmibljkeaaDoor.K
open Go Go.RowKit

theorem turned_any (x : BitVec 64) (n : Int) (w : World) (h0 : 0 < n) (h1 : n < 32) :
    Calls Tryd.prog 54 #[W64 x, .int .u64 n] w fun e w' => e = .returned (W64 (((x >>> n.toNat) ||| (x <<< (32 - n).toNat)) &&& M.mask)) ∧ w = w' := by
  have hc : n ≤ 32 := by omega
  have hc2 : (0 : Int) ≤ n := by omega
  go_enter Tryd.func54, Tryd.ntmps54
  go_wp2
  go_ret
  exact ⟨rfl, rfl⟩
theorem moved_any (x : BitVec 64) (n : Int) (w : World) (h0 : 0 ≤ n) :
    Calls Tryd.prog 66 #[W64 x, .int .u64 n] w fun e w' => e = .returned (W64 (x >>> n.toNat)) ∧ w = w' := by
  go_enter Tryd.func66, Tryd.ntmps66
  go_wp2
  go_ret
  exact ⟨rfl, rfl⟩

theorem primeFrom_hit {n f k : Nat} (h : k * k ≤ n) (hm : n % k = 0) : M.primeFrom n (f + 1) k = false := by rw [M.primeFrom, if_pos h, if_pos hm]
theorem primeFrom_on {n f k : Nat} (h : k * k ≤ n) (hm : n % k ≠ 0) : M.primeFrom n (f + 1) k = M.primeFrom n f (k + 1) := by rw [M.primeFrom, if_pos h, if_neg hm]
theorem primeFrom_end {n f k : Nat} (h : ¬ k * k ≤ n) : M.primeFrom n f k = decide (1 < n) := by
  cases f with
  | zero => rfl
  | succ f => rw [M.primeFrom, if_neg h]
set_option maxHeartbeats 1000000 in
set_option maxRecDepth 100000 in
theorem prime_any (n : Nat) (w : World) (hn : n ≤ 100000) :
    Calls Tryd.prog 64 #[.int .u64 (n : Int)] w fun e w' => e = .returned (.bool (M.prime n)) ∧ w = w' := by
  go_enter Tryd.func64, Tryd.ntmps64
  go_wp2
  go_loop [3] (fun v => ∃ j : Nat, j ≤ n ∧ v = .int .u64 ((j + 2 : Nat) : Int) ∧ M.primeFrom n (n - j) (j + 2) = M.prime n) (fun v => n + 2 - (intOf v).toNat)
  case atStart => exact ⟨0, Nat.zero_le _, rfl, rfl⟩
  case round =>
    obtain ⟨j, hj, rfl, hp⟩ := hrel
    obtain ⟨k, hk⟩ : ∃ k, k = j + 2 := ⟨_, rfl⟩
    rw [← hk] at hp
    rw [← hk]
    have hk1 : 2 ≤ k := by omega
    have hk2 : k ≤ 100002 := by omega
    obtain ⟨q, hq⟩ : ∃ q, q = k * k := ⟨_, rfl⟩
    have hq2 : q ≤ 20000000000 := by rw [hq]; exact Nat.le_trans (Nat.mul_le_mul hk2 hk2) (by omega)
    have hqw : IntKind.u64.wrap ((k : Int) * (k : Int)) = (q : Int) := by rw [← Int.natCast_mul, ← hq]; exact IntWalk.u64_in _ (by omega)
    have HQ := Lib.hid hq; have HK := Lib.hid hk; have HP := Lib.hid hp
    clear hq hk hp
    by_cases h1 : q ≤ n
    · have d1 : decide (q ≤ n) = true := by simpa using h1
      have p1 : (q : Int) ≤ (n : Int) := by omega
      have hjn : j < n := by
        have := HQ.out; have := HK.out
        have h3 : k * 1 ≤ k * k := Nat.mul_le_mul_left k (by omega)
        omega
      have ef : n - j = (n - (j + 1)) + 1 := by omega
      have EF := Lib.hid ef; clear ef
      obtain ⟨r, hr⟩ : ∃ r, r = n % k := ⟨_, rfl⟩
      have hrw : (n : Int) % (k : Int) = (r : Int) := by rw [hr]; omega
      have HR := Lib.hid hr; clear hr
      have k0 : ¬ (k : Int) = 0 := by omega
      have k1 : ((k : Int) == 0) = false := by simp; omega
      by_cases h2 : r = 0
      · have e0 : ((r : Int) == 0) = true := by simp [h2]
        have H2 := Lib.hid h2; clear h2
        go_wp2
        go_ret
        refine ⟨?_, rfl⟩
        rw [← HP.out, EF.out, primeFrom_hit (by rw [← HQ.out]; exact h1) (by rw [← HR.out]; exact H2.out)]; rfl
      · have e0 : ((r : Int) == 0) = false := by simp; omega
        have H2 := Lib.hid h2; clear h2
        go_wp2
        go_round
        case rel =>
          refine ⟨j + 1, by omega, by rw [HK.out]; go_num, ?_⟩
          rw [← HP.out, EF.out, primeFrom_on (by rw [← HQ.out]; exact h1) (by rw [← HR.out]; exact H2.out), HK.out]
        case measure => have := HK.out; simp [intOf]; omega
    · have d1 : decide (q ≤ n) = false := by simpa using h1
      have p1 : ¬ (q : Int) ≤ (n : Int) := by omega
      go_wp2
      go_ret
      refine ⟨?_, rfl⟩
      rw [← HP.out, primeFrom_end (by rw [← HQ.out]; exact h1)]
      show Ending.returned (.bool (decide ((n : Int) > 1))) = _
      congr 2
      rw [decide_eq_decide]; omega
end Go.Proofs.YtidcfjmibljkeaaDoor.K

/- Words of 32 bits held in words of 64: what the reference's operations give on them. Plain lemmas, and the contracts of turned and moved on such words. -/
namespace Go.Proofs.YtidcfjmibljkeaaDoor.M

abbrev up (x : BitVec 32) : BitVec 64 := x.setWidth 64
theorem low_up (x : BitVec 32) : (up x).setWidth 32 = x := by
  rw [BitVec.setWidth_setWidth_of_le _ (by omega), BitVec.setWidth_eq]
theorem mask_low (x : BitVec 64) : x &&& mask = up (x.setWidth 32) := by
  apply BitVec.eq_of_getLsbD_eq
  intro i hi
  have hm : mask = (BitVec.allOnes 32).setWidth 64 := by decide
  rw [hm, BitVec.getLsbD_and, BitVec.getLsbD_setWidth, BitVec.getLsbD_setWidth, BitVec.getLsbD_setWidth, BitVec.getLsbD_allOnes]
  by_cases h : i < 32 <;> simp [h, hi]
theorem up_bit (x : BitVec 32) (i : Nat) (hi : i < 64) : (up x).getLsbD i = x.getLsbD i := by
  rw [BitVec.getLsbD_setWidth]; simp [hi]
theorem turned_up (y : BitVec 32) (n : Nat) (h0 : 0 < n) (h1 : n < 32) : ((up y >>> n) ||| (up y <<< (32 - n))) &&& mask = up (rot y n) := by
  rw [mask_low]
  congr 1
  apply BitVec.eq_of_getLsbD_eq
  intro i hi
  rw [BitVec.getLsbD_setWidth, rot, BitVec.getLsbD_or, BitVec.getLsbD_or, BitVec.getLsbD_ushiftRight, BitVec.getLsbD_ushiftRight, BitVec.getLsbD_shiftLeft, BitVec.getLsbD_shiftLeft]
  have e1 : (up y).getLsbD (n + i) = y.getLsbD (n + i) := up_bit y _ (by omega)
  rw [e1]
  by_cases h : i < 32 - n
  · simp [h, hi]
  · have e2 : (up y).getLsbD (i - (32 - n)) = y.getLsbD (i - (32 - n)) := up_bit y _ (by omega)
    rw [e2]
    simp [h, hi, show i < 64 by omega]
theorem moved_up (y : BitVec 32) (n : Nat) : up y >>> n = up (y >>> n) := by
  apply BitVec.eq_of_getLsbD_eq
  intro i hi
  rw [BitVec.getLsbD_ushiftRight, up_bit _ _ hi, BitVec.getLsbD_ushiftRight, BitVec.getLsbD_setWidth]
  by_cases h : n + i < 64
  · simp [h]
  · simp [h]; rw [BitVec.getLsbD_of_ge _ _ (by omega)]
theorem ch_up (e f g : BitVec 32) : (up e &&& up f) ||| ((mask ^^^ up e) &&& up g) = up (ch e f g) := by
  apply BitVec.eq_of_getLsbD_eq
  intro i hi
  have hm : mask = up (BitVec.allOnes 32) := by decide
  rw [hm]
  simp only [BitVec.getLsbD_or, BitVec.getLsbD_and, BitVec.getLsbD_xor, up_bit _ _ hi, ch, BitVec.getLsbD_not, BitVec.getLsbD_allOnes]
  by_cases h : i < 32
  · simp only [h, decide_true]
    cases e.getLsbD i <;> cases f.getLsbD i <;> cases g.getLsbD i <;> rfl
  · rw [BitVec.getLsbD_of_ge g _ (by omega), BitVec.getLsbD_of_ge e _ (by omega)]; simp
theorem maj_up (a b c : BitVec 32) : (up a &&& up b) ||| (up a &&& up c) ||| (up b &&& up c) = up (maj a b c) := by
  apply BitVec.eq_of_getLsbD_eq
  intro i hi
  simp only [BitVec.getLsbD_or, BitVec.getLsbD_and, BitVec.getLsbD_xor, up_bit _ _ hi, maj]
  cases a.getLsbD i <;> cases b.getLsbD i <;> cases c.getLsbD i <;> rfl
theorem word_up (a b c d : BitVec 8) : (a.setWidth 64 <<< 24) ||| (b.setWidth 64 <<< 16) ||| (c.setWidth 64 <<< 8) ||| d.setWidth 64 = up (word a b c d) := by
  apply BitVec.eq_of_getLsbD_eq
  intro i hi
  simp only [up_bit _ _ hi, word, BitVec.getLsbD_or, BitVec.getLsbD_shiftLeft, BitVec.getLsbD_setWidth]
  by_cases h : i < 32
  · simp [h, hi, show i - 24 < 64 by omega, show i - 24 < 32 by omega, show i - 16 < 64 by omega, show i - 16 < 32 by omega, show i - 8 < 64 by omega, show i - 8 < 32 by omega]
  · have z : ∀ (x : BitVec 8) (k : Nat), 8 ≤ k → x.getLsbD k = false := fun x k hk => BitVec.getLsbD_of_ge x k hk
    simp [h, z a (i - 24) (by omega), z b (i - 16) (by omega), z c (i - 8) (by omega), z d i (by omega)]
end Go.Proofs.YtidcfjmibljkeaaDoor.M
namespace Go.Proofs.YtidcfjmibljkeaaDoor.K
open Go Go.RowKit
theorem turned_low (y : BitVec 32) (n : Int) (w : World) (h0 : 0 < n) (h1 : n < 32) :
    Calls Tryd.prog 54 #[W64 (M.up y), .int .u64 n] w fun e w' => e = .returned (W64 (M.up (M.rot y n.toNat))) ∧ w = w' := by
  have e : (32 - n).toNat = 32 - n.toNat := by omega
  have h := turned_any (M.up y) n w h0 h1
  rw [e, M.turned_up y n.toNat (by omega) (by omega)] at h
  exact h
theorem moved_low (y : BitVec 32) (n : Int) (w : World) (h0 : 0 ≤ n) :
    Calls Tryd.prog 66 #[W64 (M.up y), .int .u64 n] w fun e w' => e = .returned (W64 (M.up (y >>> n.toNat))) ∧ w = w' := by
  have h := moved_any (M.up y) n w h0
  rw [M.moved_up] at h
  exact h
theorem mask_xor (t : TypeId) (x : BitVec 64) : binOp .xor t (.int .u64 4294967295) (W64 x) = pure (W64 (M.mask ^^^ x)) := W64_xor t M.mask x

/-- append of what may be nil -/
theorem wpList_append_own_any {P : Program} (w : World) {ops : Array Oper} {rest : List Oper} {o : Oper} {a : Act} {Q : Exit → Act → World → Prop} (hgd : o.guard = Option.none) (s x : Operand) (t : TypeId)
    (ho : o.op = .call { callee := .builtin .append, args := #[s, x], argTypes := #[t, t] })
    (base : Nat) (e : TypeId) (i : TypeInfo) (z : Value) (size bytes : Nat) (ht : P.underlying t = some (.slice e)) (hi : P.info? e = some i) (hz : i.zero = some z)
    (hsize : i.size = size) (hby : i.bytes = bytes) (hzs : z.cells.size = size) (hsz : 0 < size)
    (v : Value) (n : Nat) (xs : List Value) (hs : a.eval s = v) (hown : w.ownsRow base e size v n xs)
    (ao : Option Addr) (m c : Nat) (news : List Value) (hx : a.eval x = .slice ao m c) (hnone : ao = Option.none → m = 0 ∧ c = 0) (hl : news.length = m * size) (hnews : ∀ ad, ao = some ad → ∀ j u, news[j]? = some u → w.cell? (ad.add j) = some u) (h1 : ∀ u ∈ news, u.oneCell' = true)
    (h63 : n + m ≤ maxLen) (hbytes : (n + m) * bytes ≤ 140737488355328) (hbase : base ≤ w.heap.size)
    (h : ∀ v' w', w'.ownsRow base e size v' (n + m) (xs ++ news) → w.grownBy w' v.ownBlock → wpList P ops Q rest (a.put o.dst v') w') :
    wpList P ops Q (o :: rest) a w := by
  cases ao with
  | some ad => exact wpList_append_own w hgd s x t ho base e i z size bytes ht hi hz hsize hby hzs hsz v n xs hs hown ad m c news hx hl (hnews ad rfl) h1 h63 hbytes hbase fun v' w' h2 h3 _ => h v' w' h2 h3
  | none =>
    obtain ⟨rfl, rfl⟩ := hnone rfl
    have hn : news = [] := List.eq_nil_of_length_eq_zero (by simpa using hl)
    subst hn
    refine wpList_plain hgd fun K hK' => ?_
    have hrun := run_append_owned_none (P := P) w base t o.type e i size ht hi _ n xs hown
    unfold Oper.wp
    simp [execOp, ho, resolve, invoke, builtin, hs, hx, hrun, Result.andThen]
    exact hK' _ _ (h v w (by simpa using hown) (World.grownBy.refl _ _))
end Go.Proofs.YtidcfjmibljkeaaDoor.K

/- Contracts of the reference's root and roots. -/
namespace Go.Proofs.YtidcfjmibljkeaaDoor.K
open Go Go.RowKit

theorem RdU.of_own {w : World} {base : Nat} {e : TypeId} {A : Option Addr} {n c : Nat} {l : List (BitVec 64)} (h : w.ownsRow base e 1 (.slice A n c) n (uv l)) : RdU w A l := by
  rcases h.2 with ⟨h1, h2⟩ | ⟨g, cap, cur, hv, _, hg, _, _, _, ht⟩
  · have : l.length = n := by have := h.1; rw [uv_length] at this; omega
    rw [show l = [] from List.eq_nil_of_length_eq_zero (by omega)]
    intro k hk
    exact absurd hk (Nat.not_lt_zero _)
  · simp only [Value.slice.injEq] at hv
    obtain ⟨rfl, _, _⟩ := hv
    have hl : n * 1 = l.length := by have := h.1; rw [uv_length] at this; omega
    rw [hl] at ht
    intro k hk
    refine ⟨g, 0, rfl, ?_⟩
    rw [cell_of_row w g (0 + k) cur e _ hg, Nat.zero_add]
    have e : (cur.toList.take l.length)[k]? = cur[k]? := by rw [List.getElem?_take, if_pos hk]; simp
    rw [← e, ht]
    simp [uv, hk]
theorem own_some {w : World} {base : Nat} {e : TypeId} {v : Value} {n : Nat} {xs : List Value} (h : w.ownsRow base e 1 v n xs) (hn : 0 < n) : ∃ g cap, v = .slice (some ⟨g, 0, none⟩) n cap ∧ base ≤ g ∧ g < w.heap.size := by
  rcases h.2 with ⟨_, h0⟩ | ⟨g, cap, cur, hv, hb, hg, _⟩
  · omega
  · exact ⟨g, cap, hv, hb, (Array.getElem?_eq_some_iff.1 hg).1⟩
theorem shl_one (t : TypeId) (yk : IntKind) (c : Int) (hc : 0 ≤ c) : binOp .shl t (.int .u64 1) (.int yk c) = pure (W64 (1#64 <<< c.toNat)) := W64_shl t 1#64 yk c hc
theorem powTo_length (n : List (BitVec 64)) (i : Nat) : (M.powTo n i).length = n.length * (i + 1) := by
  induction i with
  | zero => simp [M.powTo]
  | succ i ih => rw [M.powTo, M.times, M.timesTo_length, ih, Nat.mul_succ n.length (i + 1)]
theorem rootTo_succ (p : BitVec 64) (power j : Nat) (x t : BitVec 64) (hx : x = M.rootTo p power j) (ht : t = x ||| (1#64 <<< (36 - j))) :
    M.rootTo p power (j + 1) = if M.above (M.powTo (M.limbs t) (power - 1)) (M.goal p power) then x else t := by rw [M.rootTo, ht, hx]; rfl
theorem cells2 (w : World) (a b : Value) (t : TypeId) : ∀ j u, [a, b][j]? = some u → (w.alloc (.cells #[a, b] t)).cell? ((⟨w.heap.size, 0, none⟩ : Addr).add j) = some u := by
  intro j u hu
  rw [Addr.add_lit, World.cell?_alloc_new, Nat.zero_add, ← hu]
  simp

set_option maxHeartbeats 2000000 in
set_option maxRecDepth 100000 in
theorem root_any (p power : Nat) (w : World) (hp : p ≤ 1000000) (h1 : 1 ≤ power) (h2 : power ≤ 1000) :
    Calls Tryd.prog 65 #[.int .u64 (p : Int), .int .i64 (power : Int)] w fun e w' => e = .returned (W64 (M.root (BitVec.ofNat 64 p) power)) ∧ Below w.heap.size w w' := by
  obtain ⟨i0, hi, hz0, hz1, hz2⟩ := info_parts infoU
  have ep : Value.int .u64 (p : Int) = W64 (BitVec.ofNat 64 p) := by
    rw [W64, BitVec.toNat_ofNat, Nat.mod_eq_of_lt (by omega)]
  have EP := Lib.hid ep; clear ep
  go_enter Tryd.func65, Tryd.ntmps65
  go_wp2_with (first
    | (at_make; refine wpList_make_full _ rfl _ _ 67 rfl w.heap.size 66 i0 (.int .u64 0) 1 Tryd.underlying67 hi hz0 hz1 _ _ _ _ power rfl rfl rfl rfl (by rw [hz2]; omega) (by unfold maxLen; omega) (Nat.le_refl _) ?_; intro w1 hown1 hgrow1)
    | (at_builtin; refine wpList_append_own _ rfl _ _ 67 rfl w.heap.size 66 i0 (.int .u64 0) 1 8 Tryd.underlying67 hi hz0 hz1 hz2 rfl (by decide) _ _ _ rfl (hown1.alloc _) ⟨w1.heap.size, 0, none⟩ 1 1 [.int .u64 (p : Int)] rfl rfl (cell_last _ _ _) (by intro u hu; simp at hu; subst hu; rfl) (by unfold maxLen; omega) (by omega) (by have := hgrow1.size; simp; omega) ?_; intro v' w2 hown2 hgrow2 _))
  have hb2 : Below w.heap.size w w2 := (((Below.refl w.heap.size w).grown hgrow1 (Nat.le_refl _) (by simp)).alloc hgrow1.size _).grown hgrow2 (by have := hgrow1.size; simp; omega) (fun k' hk' => (hown1.lt k' hk').1)
  have eg : (madeCells (Value.int .u64 0).cells (power * 1)).toList ++ [Value.int .u64 (p : Int)] = uv (M.goal (BitVec.ofNat 64 p) power) := by
    rw [Nat.mul_one, show (Value.int .u64 0).cells = #[Value.int .u64 0] from rfl, toList_madeCells_one, EP.out, M.goal, uv, List.map_append, List.map_replicate]; rfl
  rw [eg] at hown2
  obtain ⟨gg, cg, rfl, hgg, hgs⟩ := own_some hown2 (by omega)
  have hrg := RdU.of_own hown2
  have HRG := Lib.hid hrg
  clear hown1 hgrow1 hown2 hgrow2 eg hrg hgg
  have HB2 := Lib.hid hb2; clear hb2
  have hgl : (M.goal (BitVec.ofNat 64 p) power).length = power + 1 := by simp [M.goal]
  have HGL := Lib.hid hgl; clear hgl
  go_wp2
  go_loopw [6, 7] (fun x i wr => ∃ j : Nat, j ≤ 37 ∧ i = .int .i64 (36 - (j : Int)) ∧ x = W64 (M.rootTo (BitVec.ofNat 64 p) power j) ∧ RdU wr (some ⟨gg, 0, none⟩) (M.goal (BitVec.ofNat 64 p) power) ∧ Below w.heap.size w wr) (fun _ i _ => (intOf i + 1).toNat)
  case atStart => exact ⟨0, by omega, by simp, rfl, HRG.out, HB2.out⟩
  case round =>
    clear HRG HB2
    obtain ⟨j, hj, rfl, rfl, hrd, hb⟩ := hrel
    rcases Nat.lt_or_ge j 37 with h3 | h3
    · have p0 : (0 : Int) ≤ 36 - (j : Int) := by omega
      have pj : (j : Int) ≤ 36 := by omega
      have s1 := shl_one
      have e36 : (36 - (j : Int)).toNat = 36 - j := by omega
      obtain ⟨x, hx⟩ : ∃ x, x = M.rootTo (BitVec.ofNat 64 p) power j := ⟨_, rfl⟩
      rw [← hx]
      have HX := Lib.hid hx; have HRD := Lib.hid hrd
      clear hx hrd
      go_wp2
      obtain ⟨t, ht⟩ : ∃ t, t = x ||| (1#64 <<< (36 - j)) := ⟨_, rfl⟩
      rw [← ht]
      have hrn : RdU (wr.alloc (.cells #[W64 (t &&& M.mask), W64 (t >>> 32)] 66)) (some ⟨wr.heap.size, 0, none⟩) (M.limbs t) := RdU.of_block (heap_alloc_new wr _)
      have hrg2 : RdU (wr.alloc (.cells #[W64 (t &&& M.mask), W64 (t >>> 32)] 66)) (some ⟨gg, 0, none⟩) (M.goal (BitVec.ofNat 64 p) power) := HRD.out.below ((Below.refl _ _).alloc (Nat.le_refl _) _)
      have hb3 := hb.alloc hb.size (.cells #[W64 (t &&& M.mask), W64 (t >>> 32)] 66)
      have hws := hb.size
      have HT := Lib.hid ht; have HRN := Lib.hid hrn; have HRG2 := Lib.hid hrg2; have HB3 := Lib.hid hb3
      clear ht hrn hrg2 hb3 hb
      generalize World.alloc wr _ = w5 at *
      obtain ⟨N, hN⟩ : ∃ N, N = wr.heap.size := ⟨_, rfl⟩
      rw [← hN] at HRN
      rw [← hN]
      clear hN hws
      obtain ⟨wo, hwo⟩ : ∃ wo, wo = wr := ⟨_, rfl⟩
      go_loopw [10, 11] (fun v i wx => ∃ (q m : Nat) (A : Option Addr), q + 1 ≤ power ∧ i = .int .i64 ((q : Int) + 1) ∧ v = .slice A m m ∧ m = 2 * (q + 1) ∧ RdU wx A (M.powTo (M.limbs t) q) ∧ RdU wx (some ⟨N, 0, none⟩) (M.limbs t) ∧
        RdU wx (some ⟨gg, 0, none⟩) (M.goal (BitVec.ofNat 64 p) power) ∧ Below w.heap.size w wx) (fun _ i _ => power - (intOf i).toNat)
      case atStart => exact ⟨0, 2, _, by omega, rfl, rfl, rfl, HRN.out, HRN.out, HRG2.out, HB3.out⟩
      case round =>
        clear HRN HRG2 HB3 hwo
        obtain ⟨q, m, A, hq, rfl, rfl, hm, hra, hrn, hrg, hb⟩ := hrel
        have pl : (M.powTo (M.limbs t) q).length = m := by rw [powTo_length, hm]; rfl
        have hm2 : m ≤ 100000 := by omega
        have HRA := Lib.hid hra; have HRN := Lib.hid hrn; have HRG := Lib.hid hrg; have PL := Lib.hid pl; have HM := Lib.hid hm
        clear hra hrn hrg pl hm
        by_cases h4 : q + 1 < power
        · have p4 : (q : Int) + 1 < (power : Int) := by omega
          go_wp2_with fail
          refine (times_any A _ m 2 m 2 _ _ _ HRA.out HRN.out PL.out rfl (by omega) (by omega)).mono ?_
          rintro e w6 ⟨g6, rfl, hg6l, hg6, hb6⟩
          have hra6 : RdU w6 (some ⟨g6, 0, none⟩) (M.powTo (M.limbs t) (q + 1)) := RdU.of_block hg6
          have hrn6 := HRN.out.below hb6
          have hrg6 := HRG.out.below hb6
          have hb7 : Below w.heap.size w w6 := hb.trans (hb6.mono hb.size)
          clear hg6 hg6l hb6
          have h1' := Lib.hid hra6; have h2' := Lib.hid hrn6; have h3' := Lib.hid hrg6
          clear hra6 hrn6 hrg6
          go_wp2
          go_roundw
          case rel => exact ⟨q + 1, m + 2, _, by omega, by go_num, rfl, by have := HM.out; omega, h1'.out, h2'.out, h3'.out, hb7⟩
          case measure => simp [intOf]; omega
        · have p4 : ¬ (q : Int) + 1 < (power : Int) := by omega
          have hq2 : q = power - 1 := by omega
          have HQ := Lib.hid hq2; clear hq2
          go_wp2_with fail
          refine (above_any A _ m (power + 1) m cg _ _ _ HRA.out HRG.out PL.out HGL.out (by omega) (by omega)).mono ?_
          rintro e w6 ⟨rfl, rfl⟩
          have er := rootTo_succ (BitVec.ofNat 64 p) power j x t HX.out HT.out
          rw [← HQ.out] at er
          have ER := Lib.hid er; clear er
          cases hab : M.above (M.powTo (M.limbs t) q) (M.goal (BitVec.ofNat 64 p) power)
          · have HAB := Lib.hid hab; clear hab
            go_wp2
            go_roundw
            case rel => exact ⟨j + 1, by omega, by go_num, by rw [ER.out, HAB.out]; rfl, HRG.out, hb⟩
            case measure => simp [intOf]; omega
          · have HAB := Lib.hid hab; clear hab
            go_wp2
            go_roundw
            case rel => exact ⟨j + 1, by omega, by go_num, by rw [ER.out, HAB.out]; rfl, HRG.out, hb⟩
            case measure => simp [intOf]; omega
    · have hj37 : j = 37 := by omega
      have p0 : ¬ (0 : Int) ≤ 36 - (j : Int) := by omega
      have pj : ¬ (j : Int) ≤ 36 := by omega
      have HJ := Lib.hid hj37; clear hj37 hrd
      go_wp2
      go_ret
      refine ⟨?_, hb⟩
      rw [M.root, ← HJ.out]; rfl

theorem rootsTo_prefix (power a b : Nat) (h : a ≤ b) : M.rootsTo power a <+: M.rootsTo power b := by
  induction b with
  | zero => rw [show a = 0 by omega]; exact List.prefix_refl _
  | succ b ih =>
    rcases Nat.lt_or_ge a (b + 1) with h1 | h1
    · refine (ih (by omega)).trans ?_
      rw [M.rootsTo]
      split
      · exact List.prefix_append _ _
      · exact List.prefix_refl _
    · rw [show a = b + 1 by omega]; exact List.prefix_refl _
theorem rootsTo_same {power a b : Nat} (h : a ≤ b) (hl : (M.rootsTo power b).length ≤ (M.rootsTo power a).length) : M.rootsTo power a = M.rootsTo power b :=
  (rootsTo_prefix power a b h).eq_of_length_le hl
theorem rootsTo_two (power : Nat) : M.rootsTo power 2 = [] := by
  have h0 : M.prime 0 = false := by decide
  have h1 : M.prime 1 = false := by decide
  simp [M.rootsTo, h0, h1]

set_option maxHeartbeats 2000000 in
set_option maxRecDepth 100000 in
theorem roots_any (n power N : Nat) (w : World) (hN : 2 ≤ N) (hN2 : N ≤ 10000) (hl : (M.rootsTo power N).length = n) (h1 : 1 ≤ power) (h2 : power ≤ 1000) (hn2 : n ≤ 10000) (hn1 : 0 < n) :
    Calls Tryd.prog 51 #[.int .i64 (n : Int), .int .i64 (power : Int)] w fun e w' => ∃ g cap, e = .returned (.slice (some ⟨g, 0, none⟩) n cap) ∧
      w'.ownsRow w.heap.size 66 1 (.slice (some ⟨g, 0, none⟩) n cap) n (uv (M.rootsTo power N)) ∧ Below w.heap.size w w' := by
  obtain ⟨i0, hi, hz0, hz1, hz2⟩ := info_parts infoU
  have HL := Lib.hid hl; clear hl
  go_enter Tryd.func51, Tryd.ntmps51
  go_wp2
  go_loopw [5, 6] (fun v i wr => ∃ (q m c : Nat) (A : Option Addr), q ≤ N ∧ i = .int .u64 (q : Int) ∧ v = .slice A m c ∧ m ≤ n ∧ (M.rootsTo power q).length = m ∧
      wr.ownsRow w.heap.size 66 1 v m (uv (M.rootsTo power q)) ∧ Below w.heap.size w wr) (fun _ i _ => N - (intOf i).toNat)
  case atStart => exact ⟨2, 0, 0, none, hN, rfl, rfl, by omega, by rw [rootsTo_two]; rfl, by rw [rootsTo_two]; exact World.ownsRow_nil _ _ _ _, Below.refl _ _⟩
  case round =>
    obtain ⟨q, m, c, A, hq, rfl, rfl, hm, hlm, hown, hb⟩ := hrel
    rcases Nat.lt_or_ge m n with h3 | h3
    · have p3 : (m : Int) < (n : Int) := by omega
      have d3 : decide (m < n) = true := by simpa using h3
      have hqN : q < N := by
        rcases Nat.lt_or_ge q N with h | h
        · exact h
        · exfalso
          have e : q = N := by omega
          rw [e, HL.out] at hlm
          omega
      have HLM := Lib.hid hlm; have HOWN := Lib.hid hown
      clear hlm hown
      go_wp2_with fail
      refine (prime_any q _ (by omega)).mono ?_
      rintro e w1 ⟨rfl, rfl⟩
      cases hpr : M.prime q
      · have er : M.rootsTo power (q + 1) = M.rootsTo power q := by rw [M.rootsTo, hpr]; rfl
        have ER := Lib.hid er; clear er hpr
        go_wp2
        go_roundw
        case rel => exact ⟨q + 1, m, c, A, by omega, by go_num, rfl, by omega, by rw [ER.out]; exact HLM.out, by rw [ER.out]; exact HOWN.out, hb⟩
        case measure => simp [intOf]; omega
      · have er : M.rootsTo power (q + 1) = M.rootsTo power q ++ [M.root (BitVec.ofNat 64 q) power] := by rw [M.rootsTo, if_pos hpr]
        have ER := Lib.hid er; clear er hpr
        go_wp2_with fail
        refine (root_any q power _ (by omega) h1 h2).mono ?_
        rintro e w1 ⟨rfl, hb1⟩
        have hown1 : w1.ownsRow w.heap.size 66 1 (.slice A m c) m (uv (M.rootsTo power q)) := by
          refine HOWN.out.kept (row := none) ⟨hb1.os, hb1.tape, hb1.output, hb1.size, fun k hk _ => hb1.block k hk⟩ ?_
          cases hv : (Value.slice A m c).ownBlock with
          | none => exact .inl rfl
          | some x => exact .inr (by simp)
        have hb2 : Below w.heap.size w w1 := hb.trans (hb1.mono hb.size)
        clear hb1 hb
        go_wp2_with (at_builtin; refine wpList_append_own _ rfl _ _ 67 rfl w.heap.size 66 i0 (.int .u64 0) 1 8 Tryd.underlying67 hi hz0 hz1 hz2 rfl (by decide) _ _ _ rfl (hown1.alloc _) ⟨w1.heap.size, 0, none⟩ 1 1 [W64 (M.root (BitVec.ofNat 64 q) power)] rfl rfl (cell_last _ _ _) (by intro u hu; simp at hu; subst hu; rfl) (by unfold maxLen; omega) (by omega) (by have := hb2.size; simp; omega) ?_; intro v' w3 hown3 hgrow3 _)
        have hb3 : Below w.heap.size w w3 := (hb2.alloc hb2.size _).grown hgrow3 (by have := hb2.size; simp; omega) (fun k' hk' => (hown1.lt k' hk').1)
        obtain ⟨g3, c3, rfl, _, _⟩ := own_some hown3 (by omega)
        clear hgrow3 hown1
        go_roundw
        case rel => exact ⟨q + 1, m + 1, c3, _, by omega, by go_num, rfl, by omega, by rw [ER.out, List.length_append, HLM.out]; rfl, by rw [ER.out, uv, List.map_append]; exact hown3, hb3⟩
        case measure => simp [intOf]; omega
    · have p3 : ¬ (m : Int) < (n : Int) := by omega
      have d3 : decide (m < n) = false := by simpa using h3
      have hmn : m = n := by omega
      have es : M.rootsTo power q = M.rootsTo power N := rootsTo_same hq (by rw [hlm, HL.out]; exact h3)
      have HMN := Lib.hid hmn; have ES := Lib.hid es; have HOWN := Lib.hid hown
      clear hmn es hown hlm
      go_wp2
      go_ret
      obtain ⟨g3, c3, e3, _, _⟩ := own_some HOWN.out (by omega)
      simp only [Value.slice.injEq] at e3
      obtain ⟨rfl, _, _⟩ := e3
      refine ⟨g3, c, by rw [← HMN.out]; rfl, ?_, hb⟩
      rw [← ES.out, ← HMN.out]
      exact HOWN.out
end Go.Proofs.YtidcfjmibljkeaaDoor.K

/- The contract of the reference's message: the bytes, and what is put behind. -/
namespace Go.Proofs.YtidcfjmibljkeaaDoor.K
open Go Go.RowKit

theorem msg_row (bs : List (BitVec 8)) (j : Nat) : bv (bs ++ [128#8] ++ List.replicate j 0#8) ++ [B8 0#8] = bv (bs ++ [128#8] ++ List.replicate (j + 1) 0#8) := by
  rw [List.replicate_succ', ← List.append_assoc, bv_append _ [0#8]]; rfl
/-- the last bytes, so many of them -/
def lastTo (n j : Nat) : List (BitVec 8) := (List.range j).map fun i => BitVec.ofNat 8 (n >>> (8 * (7 - i)))
theorem lastTo_succ (n j : Nat) : lastTo n (j + 1) = lastTo n j ++ [BitVec.ofNat 8 (n >>> (8 * (7 - j)))] := by simp [lastTo, List.range_succ]
theorem lastTo_eight (n : Nat) : lastTo n 8 = M.be8 n := rfl
theorem last_byte (m k : Nat) (hm : m < 18446744073709551616) : ((BitVec.ofNat 64 m) >>> k).setWidth 8 = BitVec.ofNat 8 (m >>> k) := by
  apply BitVec.eq_of_toNat_eq
  simp [BitVec.toNat_setWidth, Nat.mod_eq_of_lt hm]
theorem own_of_lit {w : World} {base : Nat} {e : TypeId} (hb : base ≤ w.heap.size) : (w.alloc (.cells #[] e)).ownsRow base e 1 (.slice (some ⟨w.heap.size, 0, none⟩) 0 0) 0 (bv []) :=
  World.ownsRow_lit w #[] 0 hb (by unfold maxLen; omega) rfl

theorem own_slice {w : World} {base size n : Nat} {e : TypeId} {v : Value} {xs : List Value} (h : w.ownsRow base e size v n xs) : ∃ A c, v = .slice A n c := by
  rcases h.2 with ⟨h0, rfl⟩ | ⟨g, cap, _, hv, _⟩
  · exact ⟨_, _, h0⟩
  · exact ⟨_, _, hv⟩
theorem cell_alloc_old {w : World} {a : Addr} {v : Value} (o : Obj) (h : w.cell? a = some v) : (w.alloc o).cell? a = some v :=
  (((Below.refl w.heap.size w).alloc (Nat.le_refl _) o).cell (block_lt_of_cell h)).trans h

set_option maxHeartbeats 1000000 in
set_option maxRecDepth 100000 in
theorem rmessage_any (A : Option Addr) (n c : Nat) (bs : List (BitVec 8)) (w : World) (hr : Rd w A bs) (hn : bs.length = n) (hn2 : n ≤ 1000000000000) (hnone : A = none → c = 0) :
    Calls Tryd.prog 52 #[.slice A n c] w fun e w' => ∃ g cap, e = .returned (.slice (some ⟨g, 0, none⟩) (M.total n) cap) ∧
      w'.ownsRow w.heap.size 5 1 (.slice (some ⟨g, 0, none⟩) (M.total n) cap) (M.total n) (bv (M.message bs)) ∧ Below w.heap.size w w' := by
  obtain ⟨i0, hi, hz0, hz1, hz2⟩ := info_parts infoByte
  have hnn : A = none → n = 0 ∧ c = 0 := fun h => ⟨by subst h; rw [← hn, hr.empty]; rfl, hnone h⟩
  have hlen : (bv bs).length = n * 1 := by rw [bv_length]; omega
  have hcells := hr.cells
  have HN := Lib.hid hn; have HR := Lib.hid hr; have HNN := Lib.hid hnn; have HL := Lib.hid hlen; have HC := Lib.hid hcells
  clear hn hr hnn hlen hcells hnone
  go_enter Tryd.func52, Tryd.ntmps52
  go_wp2_with (first
    | (at_builtin; refine wpList_append_own_any _ rfl _ _ 22 rfl w.heap.size 5 i0 (.int .u8 0) 1 1 Tryd.underlying22 hi hz0 hz1 hz2 rfl (by decide) _ 0 [] rfl (own_of_lit (Nat.le_refl _)) A n c (bv bs) rfl HNN.out HL.out (fun ad had j u hu => cell_alloc_old _ (HC.out ad had j u hu)) (bv_one bs) (by unfold maxLen; omega) (by omega) (by simp) ?_; intro v1 w1 hown1 hgrow1; rw [Nat.zero_add] at hown1; obtain ⟨A1, c1, rfl⟩ := own_slice hown1)
    | (at_builtin; refine wpList_append_own _ rfl _ _ 22 rfl w.heap.size 5 i0 (.int .u8 0) 1 1 Tryd.underlying22 hi hz0 hz1 hz2 rfl (by decide) _ _ _ rfl (hown1.alloc _) ⟨w1.heap.size, 0, none⟩ 1 1 [.int .u8 128] rfl rfl (cell_last _ _ _) (by intro u hu; simp at hu; subst hu; rfl) (by unfold maxLen; omega) (by omega) (by have := hgrow1.size; simp at this ⊢; omega) ?_; intro v2 w2 hown2 hgrow2 _))
  have hb2 : Below w.heap.size w w2 := ((((Below.refl w.heap.size w).alloc (Nat.le_refl _) _).grown hgrow1 (by simp) (fun k hk => ((own_of_lit (e := 5) (Nat.le_refl w.heap.size)).lt k hk).1)).alloc (by have := hgrow1.size; simp at this; omega) _).grown hgrow2 (by have := hgrow1.size; simp at this ⊢; omega) (fun k hk => (hown1.lt k hk).1)
  obtain ⟨g2, c2, rfl, _, _⟩ := own_some hown2 (by omega)
  have e2 : [] ++ bv bs ++ [Value.int .u8 128] = bv (bs ++ [128#8] ++ List.replicate 0 0#8) := by
    rw [List.replicate_zero, List.append_nil, bv_append]; rfl
  rw [e2] at hown2
  clear hgrow1 hgrow2 hown1
  have ht1 := M.total_ge n
  have ht2 : M.total n = (n + 8) / 64 * 64 + 64 := rfl
  have hmod := M.total_mod n
  obtain ⟨T, hT⟩ : ∃ T, T = M.total n := ⟨_, rfl⟩
  rw [← hT] at ht1 ht2 hmod
  have HT := Lib.hid hT; have HT2 := Lib.hid ht2; have HMOD := Lib.hid hmod
  have htn : T ≤ n + 72 := by omega
  clear hT ht2 hmod e2
  go_loopw [3] (fun v wr => ∃ (j m g cap : Nat), n + 1 + j + 8 ≤ T ∧ v = .slice (some ⟨g, 0, none⟩) m cap ∧ m = n + 1 + j ∧ wr.ownsRow w.heap.size 5 1 v m (bv (bs ++ [128#8] ++ List.replicate j 0#8)) ∧ Below w.heap.size w wr) (fun v _ => match v with | .slice _ m _ => T - m | _ => 0)
  case atStart => exact ⟨0, n + 1, g2, c2, by omega, by simp, rfl, by simpa using hown2, hb2⟩
  case round =>
    obtain ⟨j, m, g, cap, hj, rfl, hm, hown, hb⟩ := hrel
    have HM := Lib.hid hm; have HOWN := Lib.hid hown
    have hm1 : m + 8 ≤ T := by omega
    clear hm hown
    by_cases h56 : m % 64 = 56
    · have p56 : ((m : Int) % 64 != 56) = false := by simp; omega
      have hjT : j = T - n - 9 := by have := HT2.out; have := HM.out; omega
      have hmT : m = T - 8 := by have := HM.out; omega
      have HJT := Lib.hid hjT; have HMT := Lib.hid hmT
      have hown2 := HOWN.out
      rw [HM.out] at hown2
      clear HOWN
      clear h56 hjT hmT
      have em : Value.int .u64 ((n : Int) * 8) = W64 (BitVec.ofNat 64 (n * 8)) := by
        rw [W64, BitVec.toNat_ofNat, Nat.mod_eq_of_lt (by omega)]; simp
      have EM := Lib.hid em; clear em
      have hgrow := hown2
      have HO := Lib.hid hown2; clear hown2 hgrow
      go_wp2
      rw [EM.out]
      obtain ⟨u, hu⟩ : ∃ u, u = BitVec.ofNat 64 (n * 8) := ⟨_, rfl⟩
      rw [← hu]
      have HU := Lib.hid hu; clear hu
      go_loopw [3, 5] (fun v i wx => ∃ (q m' g' cap' : Nat), q ≤ 8 ∧ i = .int .i64 (7 - (q : Int)) ∧ v = .slice (some ⟨g', 0, none⟩) m' cap' ∧ m' = n + 1 + j + q ∧ wx.ownsRow w.heap.size 5 1 v m' (bv (bs ++ [128#8] ++ List.replicate j 0#8 ++ lastTo (n * 8) q)) ∧ Below w.heap.size w wx) (fun _ i _ => (intOf i + 1).toNat)
      case atStart => exact ⟨0, m, g, cap, by omega, by simp, rfl, by have := HM.out; omega, by rw [HM.out]; simpa [lastTo] using HO.out, hb⟩
      case round =>
        clear hb HO
        obtain ⟨q, m', g', cap', hq, rfl, rfl, hm', hown', hb'⟩ := hrel
        have HM' := Lib.hid hm'; have HO' := Lib.hid hown'
        have hmb : m' ≤ n + 100 := by have := HM.out; omega
        clear hm' hown'
        rcases Nat.lt_or_ge q 8 with h8 | h8
        · obtain ⟨k, hk⟩ : ∃ k, k = 7 - q := ⟨_, rfl⟩
          have ek : (7 - (q : Int)) = (k : Int) := by omega
          have k7 : k ≤ 7 := by omega
          have k0 : (0 : Int) ≤ (k : Int) := by omega
          have k8 : (0 : Int) ≤ 8 * (k : Int) := by omega
          have t8 : (8 * (k : Int)).toNat = 8 * k := by omega
          rw [ek]
          have HKQ := Lib.hid hk; have EK := Lib.hid ek
          clear hk ek
          go_wp2_with (at_builtin; refine wpList_append_own _ rfl _ _ 22 rfl w.heap.size 5 i0 (.int .u8 0) 1 1 Tryd.underlying22 hi hz0 hz1 hz2 rfl (by decide) _ _ _ rfl (HO'.out.alloc _) ⟨wr.heap.size, 0, none⟩ 1 1 [B8 ((u >>> (8 * k)).setWidth 8)] rfl rfl (cell_last _ _ _) (by intro x hx; simp at hx; subst hx; rfl) (by unfold maxLen; omega) (by omega) (by have := hb'.size; simp; omega) ?_; intro v3 w3 hown3 hgrow3 _)
          have hb3 : Below w.heap.size w w3 := (hb'.alloc hb'.size _).grown hgrow3 (by have := hb'.size; simp; omega) (fun k' hk' => (HO'.out.lt k' hk').1)
          obtain ⟨g3, c3, rfl, _, _⟩ := own_some hown3 (by omega)
          clear hgrow3
          go_roundw
          case rel =>
            refine ⟨q + 1, m' + 1, g3, c3, by omega, by have := EK.out; go_num, rfl, by have := HM'.out; omega, ?_, hb3⟩
            rw [lastTo_succ, ← List.append_assoc, bv_append _ [BitVec.ofNat 8 _], ← HKQ.out, ← last_byte _ _ (by omega), ← HU.out]
            exact hown3
          case measure => simp [intOf]
        · have hq8 : q = 8 := by omega
          have p8 : ¬ (0 : Int) ≤ 7 - (q : Int) := by omega
          have p9 : ¬ (q : Int) ≤ 7 := by omega
          have HQ8 := Lib.hid hq8; clear hq8
          go_wp2
          go_ret
          have e : m' = T := by have := HM'.out; have := HMT.out; have := HM.out; have := HQ8.out; omega
          refine ⟨g', cap', by rw [← HT.out, ← e]; rfl, ?_, hb'⟩
          have o := HO'.out
          rw [HQ8.out, lastTo_eight, HJT.out, HT.out, ← HN.out] at o
          rw [← HT.out, ← e]
          have em' : M.message bs = bs ++ [128#8] ++ List.replicate (M.total bs.length - bs.length - 9) 0#8 ++ M.be8 (bs.length * 8) := rfl
          rw [em']
          exact o
    · have p56 : ((m : Int) % 64 != 56) = true := by simp; omega
      have hj2 : n + 1 + (j + 1) + 8 ≤ T := by have := HT2.out; have := HM.out; omega
      clear h56
      go_wp2_with (at_builtin; refine wpList_append_own _ rfl _ _ 22 rfl w.heap.size 5 i0 (.int .u8 0) 1 1 Tryd.underlying22 hi hz0 hz1 hz2 rfl (by decide) _ _ _ rfl (HOWN.out.alloc _) ⟨wr.heap.size, 0, none⟩ 1 1 [.int .u8 0] rfl rfl (cell_last _ _ _) (by intro u hu; simp at hu; subst hu; rfl) (by unfold maxLen; omega) (by omega) (by have := hb.size; simp; omega) ?_; intro v3 w3 hown3 hgrow3 _)
      have hb3 : Below w.heap.size w w3 := (hb.alloc hb.size _).grown hgrow3 (by have := hb.size; simp; omega) (fun k' hk' => (HOWN.out.lt k' hk').1)
      obtain ⟨g3, c3, rfl, _, _⟩ := own_some hown3 (by omega)
      clear hgrow3
      go_roundw
      case rel => exact ⟨j + 1, m + 1, g3, c3, hj2, rfl, by have := HM.out; omega, by rw [← msg_row]; exact hown3, hb3⟩
      case measure => simp; omega
end Go.Proofs.YtidcfjmibljkeaaDoor.K

/- The contract of the reference's words: a block's 64 words, each in a word of 64 bits. -/
namespace Go.Proofs.YtidcfjmibljkeaaDoor.K
open Go Go.RowKit

abbrev ups (l : List (BitVec 32)) : List (BitVec 64) := l.map M.up
theorem ups_length (l : List (BitVec 32)) : (ups l).length = l.length := by simp
theorem ups_append (l : List (BitVec 32)) (x : BitVec 32) : uv (ups (l ++ [x])) = uv (ups l) ++ [W64 (M.up x)] := by simp [uv]
theorem own_cellU {w : World} {base : Nat} {e : TypeId} {g c n : Nat} {l : List (BitVec 32)} (h : w.ownsRow base e 1 (.slice (some ⟨g, 0, none⟩) n c) n (uv (ups l))) (i : Nat) (hi : i < l.length) : w.cell? ⟨g, i, none⟩ = some (W64 (M.up (M.at32 l i))) := by
  have hn : l.length = n := by have := h.1; simpa [uv] using this
  rw [h.cellAt i (by omega)]
  simp [uv, M.at32, hi]
theorem next_low (a b c d : BitVec 32) : (M.up a + (M.up (M.rot b 7) ^^^ M.up (M.rot b 18) ^^^ M.up (b >>> 3)) + M.up c + (M.up (M.rot d 17) ^^^ M.up (M.rot d 19) ^^^ M.up (d >>> 10))) &&& M.mask = M.up (a + M.sg0 b + c + M.sg1 d) := by
  rw [M.mask_low]
  congr 1
  simp only [BitVec.setWidth_add _ _ (show 32 ≤ 64 by omega), BitVec.setWidth_xor, M.low_up, M.sg0, M.sg1]

set_option maxHeartbeats 2000000 in
set_option maxRecDepth 100000 in
theorem rwords_any (A : Option Addr) (n c : Nat) (bs : List (BitVec 8)) (w : World) (hr : Rd w A bs) (hn : bs.length = 64) (hc : 64 ≤ c) (hnc : n = 64) (hc2 : c ≤ 9223372036854775807) :
    Calls Tryd.prog 53 #[.slice A n c] w fun e w' => ∃ g cap, e = .returned (.slice (some ⟨g, 0, none⟩) 64 cap) ∧
      w'.ownsRow w.heap.size 66 1 (.slice (some ⟨g, 0, none⟩) 64 cap) 64 (uv (ups (M.sched bs 64))) ∧ Below w.heap.size w w' := by
  obtain ⟨i0, hi, hz0, hz1, hz2⟩ := info_parts infoU
  subst hnc
  obtain ⟨b, o, rfl, hbl, hb0⟩ := hr.lay (by omega)
  rw [hn] at hb0
  have HB := Lib.hid hb0
  have HBL := Lib.hid hbl
  clear hr hn hb0 hbl
  go_enter Tryd.func53, Tryd.ntmps53
  go_wp2
  go_loopw [3, 4, 5] (fun v i _ wr => ∃ (k m cap : Nat) (A : Option Addr), k ≤ 16 ∧ i = .int .i64 k ∧ v = .slice A m cap ∧ m = k ∧ wr.ownsRow w.heap.size 66 1 v m (uv (ups (M.sched bs k))) ∧ Below w.heap.size w wr) (fun _ i _ _ => 16 - (intOf i).toNat)
  case atStart => exact ⟨0, 0, 0, none, by omega, rfl, rfl, rfl, World.ownsRow_nil _ _ _ _, Below.refl _ _⟩
  case round =>
    obtain ⟨k, m, cap, A, hk, rfl, rfl, hm, hown, hb⟩ := hrel
    have hm2 : m ≤ 16 := by omega
    have HM := Lib.hid hm; have HOWN := Lib.hid hown
    clear hm hown
    rcases Nat.lt_or_ge k 16 with h1 | h1
    · have i1 : (k : Int) < 16 := by omega
      have c0 : wr.cell? ⟨b, o + 4 * k, none⟩ = some (B8 (M.at8 bs (4 * k))) := (hb.cell HBL.out).trans (HB.out _ (by omega))
      have c1 : wr.cell? ⟨b, o + 4 * k + 1, none⟩ = some (B8 (M.at8 bs (4 * k + 1))) := (hb.cell HBL.out).trans (HB.out (4 * k + 1) (by omega))
      have c2 : wr.cell? ⟨b, o + 4 * k + 2, none⟩ = some (B8 (M.at8 bs (4 * k + 2))) := (hb.cell HBL.out).trans (HB.out (4 * k + 2) (by omega))
      have c3 : wr.cell? ⟨b, o + 4 * k + 3, none⟩ = some (B8 (M.at8 bs (4 * k + 3))) := (hb.cell HBL.out).trans (HB.out (4 * k + 3) (by omega))
      have hob : (Value.slice A m cap).ownBlock ≠ some b := fun h => by
        have := (HOWN.out.lt b h).1; have := HBL.out; omega
      have hbs := hb.size
      have hbl2 : b < wr.heap.size := by have := HBL.out; omega
      go_wp2_with fail
      go_region_held3 (fun w' => w'.cell? ⟨b, o + 4 * k, none⟩ = some (B8 (M.at8 bs (4 * k))) ∧ w'.cell? ⟨b, o + 4 * k + 1, none⟩ = some (B8 (M.at8 bs (4 * k + 1))) ∧ w'.cell? ⟨b, o + 4 * k + 2, none⟩ = some (B8 (M.at8 bs (4 * k + 2))) ∧ w'.cell? ⟨b, o + 4 * k + 3, none⟩ = some (B8 (M.at8 bs (4 * k + 3))))
        (first
          | go_keep
          | (go_split_ands
             refine ⟨?_, ?_, ?_, ?_⟩ <;> (rw [hgrow.cell_far _ (by simp; omega) (Ne.symm hob)]; assumption)))
        ((refine step_append_lies _ (by rfl) _ _ _ (by rfl) w.heap.size 66 i0 _ 1 8 Tryd.underlying67 hi hz0 hz1 hz2 rfl (by omega) (.slice A m cap) m _ (by rfl) ((HOWN.out.alloc _).drew)
            ⟨wr.heap.size, 0, none⟩ 1 1 [W64 _] (by rfl) (by rfl) (cell_last _ _ _) (by intro u hu; simp at hu; subst hu; rfl)
            (by omega) (by unfold maxLen; omega) (by omega) (by simp; omega) (wr.heap.size + 1) (by simp) ?_; intro g3 c3 w3 hown3 hgrow hat hlt))
      have hb3 : Below w.heap.size w w3 := (hb.alloc hb.size _).drew.grown hgrow (by simp; omega) (fun k' hk' => (HOWN.out.lt k' hk').1)
      clear hgrow hat hlt hob
      go_wp2
      go_roundw
      case rel =>
        refine ⟨k + 1, m + 1, c3, _, by omega, by go_num, rfl, by have := HM.out; omega, ?_, hb3⟩
        rw [M.sched, if_pos h1, ups_append, M.wordAt, ← M.word_up]
        exact hown3
      case measure => simp [intOf]; omega
    · have i1 : ¬ (k : Int) < 16 := by omega
      have hk16 : k = 16 := by omega
      have hown := HOWN.out
      rw [HM.out, hk16] at hown
      have hm16 : m = 16 := by have := HM.out; omega
      have HM16 := Lib.hid hm16
      have HO := Lib.hid hown
      clear hown hk16 HOWN hm16
      go_wp2
      go_loopw [3, 6, 7, 8, 9, 10] (fun v i _ _ _ _ wr => ∃ (k m cap : Nat) (A : Option Addr), 16 ≤ k ∧ k ≤ 64 ∧ i = .int .i64 k ∧ v = .slice A m cap ∧ m = k ∧ wr.ownsRow w.heap.size 66 1 v m (uv (ups (M.sched bs k))) ∧ Below w.heap.size w wr) (fun _ i _ _ _ _ _ => 64 - (intOf i).toNat)
      case atStart => exact ⟨16, m, cap, A, by omega, by omega, rfl, rfl, HM16.out, by rw [HM16.out]; exact HO.out, hb⟩
      case round =>
        clear HO hb HM HM16 i1
        obtain ⟨k, m, cap, A, hk, hk2, rfl, rfl, hm, hown, hb⟩ := hrel
        have HM := Lib.hid hm
        have hm2 : m ≤ 64 := by omega
        have hm3 : 16 ≤ m := by omega
        obtain ⟨g, cap', e, hgl, hgs⟩ := own_some hown (by omega)
        simp only [Value.slice.injEq, true_and] at e
        obtain ⟨rfl, rfl⟩ := e
        have HOWN := Lib.hid hown
        rcases Nat.lt_or_ge k 64 with h1 | h1
        · have i1 : (k : Int) < 64 := by omega
          have at' : ∀ d, 0 < d → d ≤ 16 → wr.cell? ⟨g, k - d, none⟩ = some (W64 (M.up (M.at32 (M.sched bs k) (k - d)))) := fun d h0 hd => own_cellU hown _ (by rw [M.sched_length]; omega)
          have c2 := at' 2 (by omega) (by omega)
          have c7 := at' 7 (by omega) (by omega)
          have c15 := at' 15 (by omega) (by omega)
          have c16 := at' 16 (by omega) (by omega)
          have g16 : ((k : Int) - 16).toNat = k - 16 := by omega
          have g7 : ((k : Int) - 7).toNat = k - 7 := by omega
          have g2 : ((k : Int) - 2).toNat = k - 2 := by omega
          have g15 : ((k : Int) - 15).toNat = k - 15 := by omega
          have l16 : (k : Int) - 16 < (m : Int) := by omega
          have l7 : (k : Int) - 7 < (m : Int) := by omega
          have l2 : (k : Int) - 2 < (m : Int) := by omega
          have l15 : (k : Int) - 15 < (m : Int) := by omega
          clear hown at' hm
          have f2 : IntKind.i64.wrap ((k : Int) - 2) = (k : Int) - 2 := IntWalk.i64_in _ (by omega)
          have f15 : IntKind.i64.wrap ((k : Int) - 15) = (k : Int) - 15 := IntWalk.i64_in _ (by omega)
          have m15 : (15 : Int) ≤ (k : Int) := by omega
          have m2 : (2 : Int) ≤ (k : Int) := by omega
          have n15 : (0 : Int) ≤ (k : Int) - 15 := by omega
          have n2 : (0 : Int) ≤ (k : Int) - 2 := by omega
          go_wp2_with fail
          go_quiet (fail)
          clear f2 f15 m15 m2 n15 n2 g2 g15 l2 l15
          go_wp2_with fail
          refine (turned_low _ 7 _ (by decide) (by decide)).mono ?_
          rintro e w7 ⟨rfl, rfl⟩
          go_wp2_with fail
          refine (turned_low _ 18 _ (by decide) (by decide)).mono ?_
          rintro e w18 ⟨rfl, rfl⟩
          go_wp2_with fail
          refine (moved_low _ 3 _ (by decide)).mono ?_
          rintro e w3 ⟨rfl, rfl⟩
          go_wp2_with fail
          refine (turned_low _ 17 _ (by decide) (by decide)).mono ?_
          rintro e w17 ⟨rfl, rfl⟩
          go_wp2_with fail
          refine (turned_low _ 19 _ (by decide) (by decide)).mono ?_
          rintro e w19 ⟨rfl, rfl⟩
          go_wp2_with fail
          refine (moved_low _ 10 _ (by decide)).mono ?_
          rintro e w10 ⟨rfl, rfl⟩
          go_wp2_with fail
          have hO2 : (wr.drewN nq).ownsRow w.heap.size 66 1 (.slice (some ⟨g, 0, none⟩) m cap) m (uv (ups (M.sched bs k))) := HOWN.out
          have HO2 := Lib.hid hO2
          have hb2 : Below w.heap.size w (wr.drewN nq) := below_drewN hb _
          have d16 : (wr.drewN nq).cell? ⟨g, k - 16, none⟩ = some (W64 (M.up (M.at32 (M.sched bs k) (k - 16)))) := c16
          have d7 : (wr.drewN nq).cell? ⟨g, k - 7, none⟩ = some (W64 (M.up (M.at32 (M.sched bs k) (k - 7)))) := c7
          clear c2 c7 c15 c16 HOWN hb hgs hO2
          generalize wr.drewN nq = wz at *
          have hbs := hb2.size
          have hgs : g < wz.heap.size := block_lt_of_cell d7
          have b16 : k - 16 < m * 1 := by have := HM.out; omega
          have b7 : k - 7 < m * 1 := by have := HM.out; omega
          have f16 : IntKind.i64.wrap ((k : Int) - 16) = (k : Int) - 16 := IntWalk.i64_in _ (by omega)
          have f7 : IntKind.i64.wrap ((k : Int) - 7) = (k : Int) - 7 := IntWalk.i64_in _ (by omega)
          have n16 : (0 : Int) ≤ (k : Int) - 16 := by omega
          have n7 : (0 : Int) ≤ (k : Int) - 7 := by omega
          have m16 : (16 : Int) ≤ (k : Int) := by omega
          have m7 : (7 : Int) ≤ (k : Int) := by omega
          go_region_held3 (fun w' => w'.cell? ⟨g, k - 16, none⟩ = some (W64 (M.up (M.at32 (M.sched bs k) (k - 16)))) ∧ w'.cell? ⟨g, k - 7, none⟩ = some (W64 (M.up (M.at32 (M.sched bs k) (k - 7)))))
            (first
              | (go_split_ands; refine ⟨(hkeep _ b16).trans ?_, (hkeep _ b7).trans ?_⟩ <;> assumption)
              | go_keep)
            ((refine step_append_keep _ (by rfl) _ _ _ (by rfl) w.heap.size 66 i0 _ 1 8 Tryd.underlying67 hi hz0 hz1 hz2 rfl (by omega) g m cap _ (by rfl) ((HO2.out.alloc _).drew)
                ⟨wz.heap.size, 0, none⟩ 1 1 [W64 _] (by rfl) (by rfl) (cell_last _ _ _) (by intro u hu; simp at hu; subst hu; rfl)
                (by omega) (by unfold maxLen; omega) (by omega) (by simp; omega) (wz.heap.size + 1) (by simp) ?_; intro g3 c3 w3 hown3 hgrow hat hlt hkeep))
          have hb3 : Below w.heap.size w w3 := (hb2.alloc hb2.size _).drew.grown hgrow (by simp; omega) (fun k' hk' => by cases hk'; exact hgl)
          clear f16 f7 n16 n7 m16 m7 b16 b7 g16 g7 l16 l7 hgrow hat hlt hkeep d16 d7
          go_wp2
          go_roundw
          case rel =>
            refine ⟨k + 1, m + 1, c3, _, by omega, by omega, by go_num, rfl, by have := HM.out; omega, ?_, hb3⟩
            rw [M.sched, if_neg (by omega), ups_append, M.next, ← next_low]
            exact hown3
          case measure => simp [intOf]; omega
        · have hk64 : k = 64 := by omega
          have i1 : ¬ (k : Int) < 64 := by omega
          rw [hk64] at hown
          have hm64 : m = 64 := by omega
          have HO2 := Lib.hid hown; have HM64 := Lib.hid hm64
          clear HOWN hown hk64 hm64 hm
          go_wp2
          go_ret
          refine ⟨g, cap, by rw [← HM64.out]; rfl, ?_, hb⟩
          have o := HO2.out
          rw [HM64.out] at o
          exact o
end Go.Proofs.YtidcfjmibljkeaaDoor.K

/- The contract of the reference's Sum: it is the digest too. -/
namespace Go.Proofs.YtidcfjmibljkeaaDoor.K
open Go Go.RowKit

theorem Rd.sub {w : World} {g : Nat} {m : List (BitVec 8)} (h : Rd w (some ⟨g, 0, none⟩) m) (o n : Nat) : Rd w (some ⟨g, o, none⟩) ((m.drop o).take n) := by
  intro k hk
  have hk2 : o + k < m.length := by simp at hk; omega
  obtain ⟨b, o', e, hc⟩ := h (o + k) hk2
  obtain ⟨rfl, rfl⟩ : g = b ∧ 0 = o' := by simpa using e
  refine ⟨g, o, rfl, ?_⟩
  rw [show 0 + (o + k) = o + k by omega] at hc
  rw [hc]; simp
theorem own_litU {w : World} {base : Nat} (hb : base ≤ w.heap.size) : (w.alloc (.cells #[] 66)).ownsRow base 66 1 (.slice (some ⟨w.heap.size, 0, none⟩) 0 0) 0 [] :=
  World.ownsRow_lit w #[] 0 hb (by unfold maxLen; omega) rfl
theorem own_keptB {w w' : World} {base : Nat} {e : TypeId} {g n c : Nat} {xs : List Value} (h : w.ownsRow base e 1 (.slice (some ⟨g, 0, none⟩) n c) n xs) (hb : Below w.heap.size w w') : w'.ownsRow base e 1 (.slice (some ⟨g, 0, none⟩) n c) n xs := by
  refine h.kept (row := none) ⟨hb.os, hb.tape, hb.output, hb.size, fun k hk _ => hb.block k hk⟩ ?_
  cases hv : (Value.slice (some ⟨g, 0, none⟩) n c).ownBlock with
  | none => exact .inl rfl
  | some x => exact .inr (by simp)
theorem own_ltB {w : World} {base : Nat} {e : TypeId} {g n c : Nat} {xs : List Value} (h : w.ownsRow base e 1 (.slice (some ⟨g, 0, none⟩) n c) n xs) : base ≤ g ∧ g < w.heap.size := h.lt g rfl
theorem own_cap {w : World} {base : Nat} {e : TypeId} {g n c : Nat} {xs : List Value} (h : w.ownsRow base e 1 (.slice (some ⟨g, 0, none⟩) n c) n xs) : n ≤ c ∧ c ≤ 9223372036854775807 := by
  rcases h.2 with ⟨h', _⟩ | ⟨g', cap', cur, h', _, _, hnc, hcm, _⟩
  · simp at h'
  · simp only [Value.slice.injEq, Option.some.injEq, Addr.mk.injEq, and_true, true_and] at h'
    obtain ⟨rfl, rfl⟩ := h'
    exact ⟨hnc, by unfold maxLen at hcm; omega⟩
theorem stl_length (s : M.St) : (ups s.list).length = 8 := rfl

theorem one_low (s : M.St) (k w : BitVec 32) : (M.up s.h + (M.up (M.rot s.e 6) ^^^ M.up (M.rot s.e 11) ^^^ M.up (M.rot s.e 25)) + M.up (M.ch s.e s.f s.g) + M.up k + M.up w).setWidth 32 = M.one s k w := by
  simp only [BitVec.setWidth_add _ _ (show 32 ≤ 64 by omega), BitVec.setWidth_xor, M.low_up, M.one, M.bs1]
theorem two_low (s : M.St) : ((M.up (M.rot s.a 2) ^^^ M.up (M.rot s.a 13) ^^^ M.up (M.rot s.a 22)) + M.up (M.maj s.a s.b s.c)).setWidth 32 = M.two s := by
  simp only [BitVec.setWidth_add _ _ (show 32 ≤ 64 by omega), BitVec.setWidth_xor, M.low_up, M.two, M.bs0]
theorem add_mask (x y : BitVec 64) : (x + y) &&& M.mask = M.up (x.setWidth 32 + y.setWidth 32) := by
  rw [M.mask_low, BitVec.setWidth_add _ _ (show 32 ≤ 64 by omega)]

theorem kList_length : M.kList.length = 64 := by decide
theorem rdU_cell {w : World} {g : Nat} {l : List (BitVec 32)} (h : RdU w (some ⟨g, 0, none⟩) (ups l)) (k : Nat) (hk : k < l.length) : w.cell? ⟨g, k, none⟩ = some (W64 (M.up (M.at32 l k))) := by
  obtain ⟨b, o, e, hc⟩ := h k (by rw [ups_length]; exact hk)
  obtain ⟨rfl, rfl⟩ : g = b ∧ 0 = o := by simpa using e
  rw [Nat.zero_add] at hc
  rw [hc]; simp [M.at32, hk]

theorem cell_setCell_other {w : World} {g b i j : Nat} (v : Value) (hb : g ≠ b) : (w.setCell ⟨b, i, none⟩ v).cell? ⟨g, j, none⟩ = w.cell? ⟨g, j, none⟩ := by
  refine World.cell?_setCell_other _ _ _ _ (fun e => hb ?_)
  injection e with e1 _
  exact e1.symm
theorem up_byte (x : BitVec 32) (n : Nat) : (M.up x >>> n).setWidth 8 = (x >>> n).setWidth 8 := by
  rw [M.moved_up, BitVec.setWidth_setWidth_of_le _ (by omega)]
theorem up_byte0 (x : BitVec 32) : (M.up x).setWidth 8 = x.setWidth 8 := BitVec.setWidth_setWidth_of_le _ (by omega)
theorem own_weaken {w : World} {base base' : Nat} {e : TypeId} {v : Value} {n : Nat} {xs : List Value} (h : w.ownsRow base e 1 v n xs) (hb : base' ≤ base) : w.ownsRow base' e 1 v n xs :=
  ⟨h.1, h.2.elim .inl fun ⟨a, b, cur, hv, hbb, r⟩ => .inr ⟨a, b, cur, hv, Nat.le_trans hb hbb, r⟩⟩
/-- the sums when i of them are done -/
def addTo (a b : List (BitVec 32)) : Nat → List (BitVec 32)
  | 0 => a
  | i + 1 => (addTo a b i).set i (M.at32 (addTo a b i) i + M.at32 b i)
theorem addTo_length (a b : List (BitVec 32)) (i : Nat) : (addTo a b i).length = a.length := by
  induction i with
  | zero => rfl
  | succ i ih => simp [addTo, ih]
theorem addTo_eight (s o : M.St) : addTo s.list o.list 8 = (o.add s).list := by
  rw [M.St.add, BitVec.add_comm o.a, BitVec.add_comm o.b, BitVec.add_comm o.c, BitVec.add_comm o.d, BitVec.add_comm o.e, BitVec.add_comm o.f, BitVec.add_comm o.g, BitVec.add_comm o.h]
  rfl
theorem uv_setU (l : List (BitVec 32)) (i : Nat) (x : BitVec 32) : uv (ups (l.set i x)) = (uv (ups l)).set i (W64 (M.up x)) := by simp [uv]
theorem RdU.setCell {w : World} {g : Nat} {l : List (BitVec 64)} (h : RdU w (some ⟨g, 0, none⟩) l) {b i : Nat} (hb : g ≠ b) (v : Value) : RdU (w.setCell ⟨b, i, none⟩ v) (some ⟨g, 0, none⟩) l := fun k hk => by
  obtain ⟨g', o, e, hc⟩ := h k hk
  obtain ⟨rfl, rfl⟩ : g = g' ∧ 0 = o := by simpa using e
  exact ⟨g, 0, rfl, by rw [cell_setCell_other _ hb]; exact hc⟩
theorem Rd.setCell {w : World} {g : Nat} {l : List (BitVec 8)} (h : Rd w (some ⟨g, 0, none⟩) l) {b i : Nat} (hb : g ≠ b) (v : Value) : Rd (w.setCell ⟨b, i, none⟩ v) (some ⟨g, 0, none⟩) l := fun k hk => by
  obtain ⟨g', o, e, hc⟩ := h k hk
  obtain ⟨rfl, rfl⟩ : g = g' ∧ 0 = o := by simpa using e
  exact ⟨g, 0, rfl, by rw [cell_setCell_other _ hb]; exact hc⟩

set_option maxHeartbeats 4000000 in
set_option maxRecDepth 100000 in
theorem RefSum_any (A : Option Addr) (n c : Nat) (bs : List (BitVec 8)) (w : World) (hr : Rd w A bs) (hn : bs.length = n) (hn2 : n ≤ 1000000000000) (hnone : A = none → c = 0) :
    Calls Tryd.prog 37 #[.slice A n c] w fun e w' => ∃ g cap, e = .returned (.slice (some ⟨g, 0, none⟩) 32 cap) ∧
      w'.ownsRow w.heap.size 5 1 (.slice (some ⟨g, 0, none⟩) 32 cap) 32 (bv (M.sum bs)) ∧ Below w.heap.size w w' := by
  obtain ⟨i0, hi, hz0, hz1, hz2⟩ := info_parts infoByte
  obtain ⟨j0, hj0, hy0, hy1, hy2⟩ := info_parts infoU
  have HR := Lib.hid hr; have HN := Lib.hid hn
  clear hr hn
  go_enter Tryd.func37, Tryd.ntmps37
  go_wp2_with fail
  refine (roots_any 8 2 20 w (by omega) (by omega) (by rw [M.roots8]; rfl) (by omega) (by omega) (by omega) (by omega)).mono ?_
  rintro e w1 ⟨gh, ch, rfl, hh1, b1⟩
  rw [M.roots8] at hh1
  have HH1 := Lib.hid hh1; clear hh1
  go_wp2_with fail
  refine (roots_any 64 3 312 w1 (by omega) (by omega) (by rw [M.roots64]; rfl) (by omega) (by omega) (by omega) (by omega)).mono ?_
  rintro e w2 ⟨gk, ck, rfl, hk2, b2⟩
  rw [M.roots64] at hk2
  have HK2 := Lib.hid hk2; clear hk2
  have HH2 := Lib.hid (own_keptB HH1.out b2)
  have hgh := own_ltB HH1.out
  have b12 : Below w.heap.size w w2 := b1.trans (b2.mono b1.size)
  clear HH1 b1 b2
  go_wp2_with fail
  refine (rmessage_any A n c bs w2 (HR.out.below (b12.mono (Nat.le_refl _))) HN.out hn2 hnone).mono ?_
  rintro e w3 ⟨gm, cm, rfl, hm3, b3⟩
  have hgk := own_ltB HK2.out
  have hgm := own_ltB hm3
  have hcm := own_cap hm3
  have hch := own_cap HH2.out
  have HH3 := Lib.hid (own_keptB HH2.out b3)
  have hrk := (RdU.of_own HK2.out).below b3
  have hrm := Rd.of_own hm3
  have b13 : Below w.heap.size w w3 := b12.trans (b3.mono b12.size)
  have HRK := Lib.hid hrk; have HRM := Lib.hid hrm
  clear HH2 HK2 hm3 hrk hrm b12 b3
  have ht1 := M.total_ge n
  have ht2 := M.total_mod n
  have ht3 : M.total n ≤ n + 72 := by unfold M.total; omega
  have hml := M.message_length bs
  rw [HN.out] at hml
  have hsum : M.sum bs = M.digest (M.after (M.message bs) (M.total n / 64)) := by rw [M.sum, HN.out]
  obtain ⟨q, hq⟩ : ∃ q, M.total n = 64 * q := ⟨M.total n / 64, by omega⟩
  have hq2 : M.total n / 64 = q := by omega
  rw [hq2] at hsum
  obtain ⟨T, hT⟩ : ∃ T, T = M.total n := ⟨_, rfl⟩
  rw [← hT] at ht1 ht3 hq hml hcm
  rw [← hT]
  have hqT : T ≤ 64 * q := by omega
  have hqT2 : 64 * q ≤ T := by omega
  have HML := Lib.hid hml; have HSUM := Lib.hid hsum
  clear hT ht2 hq hml hsum hq2
  obtain ⟨msg, hmsg⟩ : ∃ msg, msg = M.message bs := ⟨_, rfl⟩
  rw [← hmsg] at HML HSUM HRM
  clear hmsg HR
  obtain ⟨N, hN⟩ : ∃ N, N = w3.heap.size := ⟨_, rfl⟩
  go_wp2
  go_loopw [6, 7, 8, 9, 10, 11, 12, 13, 14, 15, 16] (fun v _ _ _ _ _ _ _ _ _ _ wr => ∃ j : Nat, j ≤ q ∧ v = .int .i64 ((64 * j : Nat) : Int) ∧ wr.ownsRow w.heap.size 66 1 (.slice (some ⟨gh, 0, none⟩) 8 ch) 8 (uv (ups (M.after msg j).list)) ∧
      RdU wr (some ⟨gk, 0, none⟩) (ups M.kList) ∧ Rd wr (some ⟨gm, 0, none⟩) msg ∧ Below w.heap.size w wr) (fun v _ _ _ _ _ _ _ _ _ _ _ => T - (intOf v).toNat)
  case atStart => exact ⟨0, Nat.zero_le _, rfl, HH3.out, HRK.out, HRM.out, b13⟩
  case round =>
    clear HH3 HRK HRM b13 hN
    obtain ⟨j, hj, rfl, hown, hrk, hrm, hb⟩ := hrel
    have HOWN := Lib.hid hown; have HRK := Lib.hid hrk; have HRM := Lib.hid hrm
    clear hown hrk hrm
    obtain ⟨at', hat⟩ : ∃ a, a = 64 * j := ⟨_, rfl⟩
    rw [← hat]
    have HAT := Lib.hid hat
    rcases Nat.lt_or_ge j q with h1 | h1
    · have i1 : (at' : Int) < (T : Int) := by omega
      have i2 : (at' : Int) + 64 ≤ (T : Int) := by omega
      have i3 : at' + 64 ≤ T := by omega
      clear hat
      have i4 : at' + 64 ≤ cm := by omega
      have i5 : (at' : Int) + 64 ≤ (cm : Int) := by omega
      have hwsz := hb.size
      go_wp2_with fail
      have hblk := Rd.sub HRM.out at' 64
      have hbl : ((msg.drop at').take 64).length = 64 := by have := HML.out; simp; omega
      refine (rwords_any _ 64 (cm - at') _ wr hblk hbl (by omega) rfl (by omega)).mono ?_
      rintro e w4 ⟨gw, cw, rfl, hw4, b4⟩
      have hgw := own_ltB hw4
      have HH4 := Lib.hid (own_keptB HOWN.out b4)
      have HRK4 := Lib.hid (HRK.out.below b4)
      have HRM4 := Lib.hid (HRM.out.below b4)
      have HRW4 := Lib.hid (RdU.of_own hw4)
      have hb4 := hb.trans (b4.mono hb.size)
      have hgs4 := own_ltB HH4.out
      clear HOWN HRK HRM hblk hbl hw4 b4 hb i1 i2 i3 i4 i5 hwsz
      have hcs : ∀ jj u, (uv (ups (M.after msg j).list))[jj]? = some u → (w4.alloc (.cells #[] 66)).cell? ((⟨gh, 0, none⟩ : Addr).add jj) = some u := fun jj u hu => by
        have hjj : jj < 8 := (List.getElem?_eq_some_iff.1 hu).1
        rw [Addr.add_lit, Nat.zero_add]
        exact cell_alloc_old _ ((HH4.out.cellAt jj (by omega)).trans hu)
      have HCS := Lib.hid hcs; clear hcs
      go_wp2_with (at_builtin; refine wpList_append_own _ rfl _ _ 67 rfl w4.heap.size 66 j0 (.int .u64 0) 1 8 Tryd.underlying67 hj0 hy0 hy1 hy2 rfl (by decide) _ 0 [] rfl (own_litU (Nat.le_refl _)) ⟨gh, 0, none⟩ 8 ch (uv (ups (M.after msg j).list)) rfl rfl HCS.out (uv_one _) (by unfold maxLen; omega) (by omega) (by simp) ?_; intro v5 w5 hown5 hgrow5 _)
      clear HCS
      have hb45 : Below w4.heap.size w4 w5 := ((Below.refl _ _).alloc (Nat.le_refl _) _).grown hgrow5 (by simp) (fun k hk => ((own_litU (Nat.le_refl w4.heap.size)).lt k hk).1)
      obtain ⟨g5, c5, rfl, _, _⟩ := own_some hown5 (by omega)
      rw [List.nil_append] at hown5
      have HO5 := Lib.hid hown5
      clear hgrow5 hown5
      obtain ⟨st, hst⟩ : ∃ st, st = M.after msg j := ⟨_, rfl⟩
      obtain ⟨ws, hws⟩ : ∃ ws, ws = M.sched ((msg.drop at').take 64) 64 := ⟨_, rfl⟩
      rw [← hst] at HO5 HH4
      rw [← hws] at HRW4
      have hwl : ws.length = 64 := by rw [hws, M.sched_length]
      have HST := Lib.hid hst; have HWS := Lib.hid hws; have HWL := Lib.hid hwl
      clear hst hws hwl
      go_wp2
      go_loopw [8, 9, 10, 11, 12, 13, 14, 15] (fun v i _ _ _ _ _ _ wx => ∃ (t gs cs : Nat), t ≤ 64 ∧ i = .int .i64 (t : Int) ∧ v = .slice (some ⟨gs, 0, none⟩) 8 cs ∧ wx.ownsRow w4.heap.size 66 1 v 8 (uv (ups (M.rounds st ws t).list)) ∧ Below w4.heap.size w4 wx) (fun _ i _ _ _ _ _ _ _ => 64 - (intOf i).toNat)
      case atStart => exact ⟨0, g5, c5, by omega, rfl, rfl, HO5.out, hb45⟩
      case round =>
        clear HO5 hb45
        obtain ⟨t, gs, cs, ht, rfl, rfl, hown, hbx⟩ := hrel
        rcases Nat.lt_or_ge t 64 with h2 | h2
        · have i1 : (t : Int) < 64 := by omega
          have t0 : (0 : Int) ≤ (t : Int) := by omega
          obtain ⟨sr, hsr⟩ : ∃ sr, sr = M.rounds st ws t := ⟨_, rfl⟩
          rw [← hsr] at hown
          have hgs := own_ltB hown
          have c0 : wr.cell? ⟨gs, 0, none⟩ = some (W64 (M.up sr.a)) := own_cellU hown 0 (show 0 < 8 by omega)
          have c1 : wr.cell? ⟨gs, 1, none⟩ = some (W64 (M.up sr.b)) := own_cellU hown 1 (show 1 < 8 by omega)
          have c2 : wr.cell? ⟨gs, 2, none⟩ = some (W64 (M.up sr.c)) := own_cellU hown 2 (show 2 < 8 by omega)
          have c4 : wr.cell? ⟨gs, 4, none⟩ = some (W64 (M.up sr.e)) := own_cellU hown 4 (show 4 < 8 by omega)
          have c5 : wr.cell? ⟨gs, 5, none⟩ = some (W64 (M.up sr.f)) := own_cellU hown 5 (show 5 < 8 by omega)
          have c6 : wr.cell? ⟨gs, 6, none⟩ = some (W64 (M.up sr.g)) := own_cellU hown 6 (show 6 < 8 by omega)
          have c7 : wr.cell? ⟨gs, 7, none⟩ = some (W64 (M.up sr.h)) := own_cellU hown 7 (show 7 < 8 by omega)
          have ckt : wr.cell? ⟨gk, t, none⟩ = some (W64 (M.up (M.at32 M.kList t))) := rdU_cell (HRK4.out.below hbx) t (by rw [kList_length]; exact h2)
          have cwt : wr.cell? ⟨gw, t, none⟩ = some (W64 (M.up (M.at32 ws t))) := rdU_cell (HRW4.out.below hbx) t (by have := HWL.out; omega)
          have HSR := Lib.hid hsr; have HOWN := Lib.hid hown
          clear hsr hown
          have mx := mask_xor
          have mu : ∀ x : BitVec 64, x = x := fun _ => rfl
          go_wp2_with fail
          go_quiet (fail)
          go_wp2_with fail
          go_quiet (fail)
          rw [M.ch_up]
          go_wp2_with fail
          go_quiet (fail)
          rw [M.maj_up]
          go_wp2_with fail
          go_quiet ((go_at_call 54; first | (with_reducible exact q_add (turned_low _ _ _ (by decide) (by decide))) | (with_reducible exact q_same (turned_low _ _ _ (by decide) (by decide)))))
          go_wp2_with fail
          clear mx mu
          have hO2 : ∀ k, (wr.drewN k).ownsRow w4.heap.size 66 1 (.slice (some ⟨gs, 0, none⟩) 8 cs) 8 (uv (ups sr.list)) := fun _ => HOWN.out
          have hB2 : ∀ k, Below w4.heap.size w4 (wr.drewN k) := fun k => below_drewN hbx k
          obtain ⟨o, ho⟩ : ∃ o, o = M.up sr.h + (M.up (M.rot sr.e 6) ^^^ M.up (M.rot sr.e 11) ^^^ M.up (M.rot sr.e 25)) + M.up (M.ch sr.e sr.f sr.g) + M.up (M.at32 M.kList t) + M.up (M.at32 ws t) := ⟨_, rfl⟩
          have ho2 : o.setWidth 32 = M.one sr (M.at32 M.kList t) (M.at32 ws t) := by rw [ho]; exact one_low _ _ _
          rw [← ho]
          have HO1 := Lib.hid ho2
          clear ho ho2 c0 c1 c2 c4 c5 c6 c7 ckt cwt HOWN hbx hgs
          generalize hwz : World.drewN wr _ = wz
          have hO3 : wz.ownsRow w4.heap.size 66 1 (.slice (some ⟨gs, 0, none⟩) 8 cs) 8 (uv (ups sr.list)) := by rw [← hwz]; exact hO2 _
          have hB3 : Below w4.heap.size w4 wz := by rw [← hwz]; exact hB2 _
          have hcap := own_cap hO3
          have hgs := own_ltB hO3
          have hsz := hB3.size
          have HO2 := Lib.hid hO3; have HB2 := Lib.hid hB3
          clear hwz hO3 hB3 hO2 hB2
          refine (turned_low _ 2 _ (by decide) (by decide)).mono ?_
          rintro e w7 ⟨rfl, rfl⟩
          go_wp2_with fail
          refine (turned_low _ 13 _ (by decide) (by decide)).mono ?_
          rintro e w7 ⟨rfl, rfl⟩
          go_wp2_with fail
          refine (turned_low _ 22 _ (by decide) (by decide)).mono ?_
          rintro e w7 ⟨rfl, rfl⟩
          have hcs : ∀ (x : Value) jj u, ((uv (ups sr.list)).take 7)[jj]? = some u → (wz.alloc (.cells #[x] 66)).cell? ((⟨gs, 0, none⟩ : Addr).add jj) = some u := fun x jj u hu => by
            have hjj : jj < 7 := (List.getElem?_eq_some_iff.1 hu).1
            rw [Addr.add_lit, Nat.zero_add]
            rw [List.getElem?_take, if_pos hjj] at hu
            exact cell_alloc_old _ ((HO2.out.cellAt jj (by omega)).trans hu)
          have hol : ∀ x : Value, (wz.alloc (.cells #[x] 66)).ownsRow wz.heap.size 66 1 (.slice (some ⟨wz.heap.size, 0, none⟩) 1 1) 1 [x] := fun x => World.ownsRow_lit wz #[x] 1 (Nat.le_refl _) (by unfold maxLen; omega) rfl
          have HCS := Lib.hid hcs; have HOL := Lib.hid hol
          clear hcs hol
          go_wp2_with (first | (with_reducible refine wpList_store_one rfl 66 (.tmp 128) (.tmp 127) rfl ⟨g8, 4, none⟩ _ _ rfl rfl rfl (by kernel_rfl) d4 f4 ?_) | (at_builtin; refine wpList_append_own _ rfl _ _ 67 rfl wz.heap.size 66 j0 (.int .u64 0) 1 8 Tryd.underlying67 hj0 hy0 hy1 hy2 rfl (by decide) _ 1 [W64 _] rfl (HOL.out _) ⟨gs, 0, none⟩ 7 cs ((uv (ups sr.list)).take 7) rfl rfl (HCS.out _) (fun u hu => uv_one _ u (List.mem_of_mem_take hu)) (by unfold maxLen; omega) (by omega) (by simp) ?_; intro v8 w8 hown8 hgrow8 _; obtain ⟨g8, c8, rfl, hg8, _⟩ := own_some hown8 (by omega); have d4 : w8.cell? ⟨g8, 4, none⟩ = some (W64 (M.up sr.d)) := (hown8.cellAt 4 (by omega)).trans rfl; have f4 : w8.frozen? ⟨g8, 4, none⟩ = false := hown8.frozenAt 4; have hown9 := Lib.hid hown8; clear hown8))
          have hb8 : Below w4.heap.size w4 w8 := (HB2.out.alloc hsz _).grown hgrow8 (by simp; omega) (fun k hk => by have := ((HOL.out (W64 0)).lt k hk).1; omega)
          clear hgrow8
          refine ⟨?_, ?measure⟩
          iterate 200 (first | apply Exists.intro | skip)
          refine ⟨?rel, rfl⟩
          case rel =>
            refine ⟨t + 1, g8, c8, by omega, by go_num, rfl, ?_, hb8.setCell (p := ⟨g8, 4, none⟩) (by simp at hg8 ⊢; omega) _⟩
            have hs := (hown9.out.stored 4 (W64 ((M.up sr.d + o) &&& M.mask))).1
            refine ⟨hs.1, hs.2.elim (fun h => by simp at h) fun ⟨a, b, cur, hv, hbb, r⟩ => .inr ⟨a, b, cur, hv, by omega, ?_⟩⟩
            have er : M.rounds st ws (t + 1) = M.rnd sr (M.at32 M.kList t) (M.at32 ws t) := by rw [M.rounds, HSR.out]
            have hv' := hv
            simp only [Value.slice.injEq, Option.some.injEq, Addr.mk.injEq, and_true, true_and] at hv'
            obtain ⟨r1, r2, r3, r4, r5⟩ := r
            refine ⟨r1, r2, r3, r4, r5.trans ?_⟩
            rw [add_mask, add_mask, HO1.out, two_low, M.low_up, er, M.rnd]
            rfl
          case measure => simp [intOf]; omega
        · have ht64 : t = 64 := by omega
          have i1 : ¬ (t : Int) < 64 := by omega
          rw [ht64] at hown
          have HO := Lib.hid hown
          clear hown ht64
          have hh5 := own_keptB HH4.out hbx
          have hk5 := HRK4.out.below hbx
          have hm5 := HRM4.out.below hbx
          have hs5 := RdU.of_own HO.out
          have hb5 := hb4.trans (hbx.mono hb4.size)
          have hgs5 := own_ltB HO.out
          obtain ⟨fin, hfin⟩ : ∃ fin, fin = M.rounds st ws 64 := ⟨_, rfl⟩
          rw [← hfin] at hs5
          have HFIN := Lib.hid hfin; have HH5 := Lib.hid hh5; have HK5 := Lib.hid hk5; have HM5 := Lib.hid hm5; have HS5 := Lib.hid hs5
          have hne : gh ≠ gs := by omega
          have hne2 : gh ≠ gk := by omega
          have hne3 : gh ≠ gm := by omega
          clear hh5 hk5 hm5 hs5 hfin HO HH4 HRK4 HRM4 HRW4 hb4 hbx
          go_wp2
          go_loopw [16] (fun v wx => ∃ (i : Nat), i ≤ 8 ∧ v = .int .i64 (i : Int) ∧ wx.ownsRow w.heap.size 66 1 (.slice (some ⟨gh, 0, none⟩) 8 ch) 8 (uv (ups (addTo st.list fin.list i))) ∧
            RdU wx (some ⟨gs, 0, none⟩) (ups fin.list) ∧ RdU wx (some ⟨gk, 0, none⟩) (ups M.kList) ∧ Rd wx (some ⟨gm, 0, none⟩) msg ∧ Below w.heap.size w wx) (fun v _ => 8 - (intOf v).toNat)
          case atStart => exact ⟨0, by omega, rfl, HH5.out, HS5.out, HK5.out, HM5.out, hb5⟩
          case round =>
            clear HH5 HK5 HM5 HS5 hb5
            obtain ⟨i, hi8, rfl, hown, hrs, hrk, hrm, hb⟩ := hrel
            have HOWN := Lib.hid hown; have HRS := Lib.hid hrs; have HRK := Lib.hid hrk; have HRM := Lib.hid hrm
            clear hown hrs hrk hrm
            rcases Nat.lt_or_ge i 8 with h3 | h3
            · have p3 : (i : Int) < 8 := by omega
              have p0 : (0 : Int) ≤ (i : Int) := by omega
              have ci : wr.cell? ⟨gh, i, none⟩ = some (W64 (M.up (M.at32 (addTo st.list fin.list i) i))) := own_cellU HOWN.out i (by rw [addTo_length]; exact h3)
              have cs : wr.cell? ⟨gs, i, none⟩ = some (W64 (M.up (M.at32 fin.list i))) := rdU_cell HRS.out i h3
              have fi : wr.frozen? ⟨gh, i, none⟩ = false := HOWN.out.frozenAt i
              go_wp2_with fail
              go_still_tail 13, (by kernel_rfl)
              change wpList _ _ _ _ _ wr.drew
              refine wpList_store_one rfl _ _ _ rfl _ _ _ rfl rfl rfl (by kernel_rfl) ci fi ?_
              go_wp2
              go_roundw
              case rel =>
                refine ⟨i + 1, by omega, by go_num, ?_, RdU.setCell HRS.out (fun e => hne e.symm) _, RdU.setCell HRK.out (fun e => hne2 e.symm) _, Rd.setCell HRM.out (fun e => hne3 e.symm) _, (hb.setCell (p := ⟨gh, i, none⟩) (by have := hgh.1; simpa using this) _).drew⟩
                have hs := (HOWN.out.stored i (W64 ((M.up (M.at32 (addTo st.list fin.list i) i) + M.up (M.at32 fin.list i)) &&& M.mask))).1
                have hm : ∀ a b : BitVec 32, (BitVec.setWidth 64 a + BitVec.setWidth 64 b) &&& M.mask = M.up (a + b) := fun a b => by
                  have h := add_mask (M.up a) (M.up b)
                  rw [M.low_up, M.low_up] at h
                  exact h
                rw [add_mask, M.low_up, M.low_up, ← uv_setU] at hs
                rw [hm]
                exact hs
              case measure => simp [intOf]; omega
            · have hi8' : i = 8 := by omega
              have p3 : ¬ (i : Int) < 8 := by omega
              have HI8 := Lib.hid hi8'
              clear hi8'
              have a3 : at' + 64 ≤ T := by have := HAT.out; omega
              have a4 : (at' : Int) + 64 ≤ 2000000000000 := by omega
              go_wp2
              go_roundw
              case rel =>
                refine ⟨j + 1, by omega, by have := HAT.out; go_num, ?_, HRK.out, HRM.out, hb⟩
                have o := HOWN.out
                rw [HI8.out, addTo_eight, HFIN.out, HWS.out] at o
                have e : M.after msg (j + 1) = (M.rounds st (M.sched ((msg.drop at').take 64) 64) 64).add st := by rw [HST.out, HAT.out]; rfl
                rw [e]
                exact o
              case measure => simp [intOf]; omega
    · have i1 : ¬ (at' : Int) < (T : Int) := by omega
      have hjq : j = q := by omega
      have HJQ := Lib.hid hjq
      obtain ⟨s, hs⟩ : ∃ s, s = M.after msg j := ⟨_, rfl⟩
      rw [← hs] at HOWN
      have hgh2 := own_ltB HOWN.out
      have HS := Lib.hid hs
      clear hs hjq hat
      obtain ⟨wo, rfl⟩ : ∃ wo : World, wo = wr := ⟨_, rfl⟩
      have hwo := hb.size
      go_wp2
      go_loopw [17, 18] (fun v i wx => ∃ (k m cap : Nat) (B : Option Addr), k ≤ 8 ∧ i = .int .i64 (k : Int) ∧ v = .slice B m cap ∧ m = 4 * k ∧ wx.ownsRow wo.heap.size 5 1 v m (bv (digTo s k)) ∧ Below wo.heap.size wo wx) (fun _ i _ => 8 - (intOf i).toNat)
      case atStart => exact ⟨0, 0, 0, none, by omega, rfl, rfl, rfl, World.ownsRow_nil _ _ _ _, Below.refl _ _⟩
      case round =>
        obtain ⟨k, m, cap, B, hk, rfl, rfl, hm, hown, hbx⟩ := hrel
        have hm2 : m ≤ 32 := by omega
        have HM := Lib.hid hm; have HO := Lib.hid hown
        clear hm hown
        have hbs := hbx.size
        rcases Nat.lt_or_ge k 8 with h3 | h3
        · have p3 : (k : Int) < 8 := by omega
          have p0 : (0 : Int) ≤ (k : Int) := by omega
          have c0 : wr.cell? ⟨gh, k, none⟩ = some (W64 (M.up (M.at32 s.list k))) := (hbx.cell (p := ⟨gh, k, none⟩) hgh2.2).trans (own_cellU HOWN.out k h3)
          have hob : (Value.slice B m cap).ownBlock ≠ some gh := fun h => by
            have := (HO.out.lt gh h).1; omega
          have hgr : gh < wr.heap.size := by omega
          obtain ⟨x, hx⟩ : ∃ x, x = M.at32 s.list k := ⟨_, rfl⟩
          rw [← hx] at c0
          have HX := Lib.hid hx; clear hx
          go_wp2_with fail
          go_region_held3 (fun w' => w'.cell? ⟨gh, k, none⟩ = some (W64 (M.up x)))
            (first
              | (refine (hgrow.cell_far _ (by simp; omega) (Ne.symm hob)).trans ?_; assumption)
              | (refine (hgrow.cell_far _ (by simp; omega) (Ne.symm hob)).trans ?_; go_keep)
              | go_keep)
            ((refine step_append_lies _ (by rfl) _ _ _ (by rfl) wo.heap.size 5 i0 _ 1 1 Tryd.underlying22 hi hz0 hz1 hz2 rfl (by omega) (.slice B m cap) m _ (by rfl) ((HO.out.alloc _).drew)
                ⟨wr.heap.size, 0, none⟩ 4 4 [B8 _, B8 _, B8 _, B8 _] (by rfl) (by rfl) (cells4 _ _ _ _ _ _) (by intro u hu; simp at hu; rcases hu with rfl | rfl | rfl | rfl <;> rfl)
                (by omega) (by unfold maxLen; omega) (by omega) (by simp; omega) (wr.heap.size + 1) (by simp) ?_; intro g3 c3 w3 hown3 hgrow hat3 hlt3))
          have hb3 : Below wo.heap.size wo w3 := (hbx.alloc hbx.size _).drew.grown hgrow (by simp; omega) (fun k' hk' => (HO.out.lt k' hk').1)
          clear hgrow hat3 hlt3 hob
          go_wp2
          go_roundw
          case rel =>
            refine ⟨k + 1, m + 4, c3, _, by omega, by go_num, rfl, by have := HM.out; omega, ?_, hb3⟩
            rw [digTo_succ _ _ h3, ← HX.out, bytes4, bv_append]
            rw [up_byte, up_byte, up_byte] at hown3
            first | exact hown3 | (simp only [up_byte0] at hown3; exact hown3)
          case measure => simp [intOf]; omega
        · have hk8 : k = 8 := by omega
          have p3 : ¬ (k : Int) < 8 := by omega
          have hm32 : m = 32 := by have := HM.out; omega
          have o := HO.out
          rw [hk8, digTo_end, hm32] at o
          obtain ⟨g, cap', e, hg1, hg2⟩ := own_some o (by omega)
          simp only [Value.slice.injEq, true_and] at e
          obtain ⟨rfl, rfl⟩ := e
          have O2 := Lib.hid o; have HM32 := Lib.hid hm32
          clear o hm32 hk8 HO
          go_wp2
          go_ret
          refine ⟨g, cap, by rw [← HM32.out]; rfl, ?_, hb.trans (hbx.mono hwo)⟩
          rw [HSUM.out, ← HJQ.out, ← HS.out]
          exact own_weaken O2.out hwo
end Go.Proofs.YtidcfjmibljkeaaDoor.K

/- The contracts of mac.Tag and its closure, and of the reference's under and Tag. -/
namespace Go.Proofs.YtidcfjmibljkeaaDoor.K
open Go Go.RowKit

set_option maxHeartbeats 2000000 in
set_option maxRecDepth 100000 in
theorem side_any (x : BitVec 8) (key : List (BitVec 8)) (A : Option Addr) (n c X : Nat) (bs : List (BitVec 8)) (w : World) (hr : RowRd w ⟨A, n, c⟩ bs) (hn2 : n ≤ 100000000000) (hX : w.heap[X]? = some (.cells (bv (M.macBlock key)).toArray 80 (0, 0))) (hK : HasK w) (hF : HasF w) :
    Calls Tryd.prog 61 #[B8 x, .slice A n c, .pointer (some ⟨X, 0, none⟩)] w (Made w (M.sum (M.macUnder key x ++ bs))) := by
  have HR := Lib.hid hr; have HX := Lib.hid hX; have HK := Lib.hid hK; have HF := Lib.hid hF; have HL := Lib.hid hr.len
  clear hr hX hK hF
  go_enter Tryd.func61, Tryd.ntmps61
  go_wp2_with (with_reducible refine wpList_load_row rfl 80 (.tmp 2) rfl X rfl 80 _ (0, 0) _ HX.out Tryd.underlying80 rfl (infoBlk _ (M.macBlock_length key)) ?_)
  refine (under_any (M.macBlock key) x w (M.macBlock_length key)).mono ?_
  rintro e w1 ⟨g, rfl, hrow, hb⟩
  have HU := Lib.hid hrow; have HB := Lib.hid hb
  clear hrow hb
  go_wp2_with fail
  have hfl : flat [(⟨some ⟨g, 0, none⟩, 64, 64⟩, (M.macBlock key).map fun y => y ^^^ x), (⟨A, n, c⟩, bs)] = M.macUnder key x ++ bs := by simp [flat, M.macUnder]
  refine (digest_lit [(⟨some ⟨g, 0, none⟩, 64, 64⟩, (M.macBlock key).map fun y => y ^^^ x), (⟨A, n, c⟩, bs)] w1 _ 2 2 rfl rfl (fun p hp => ?_) (by simp) ?_ (HK.out.below HB.out) (HF.out.below HB.out)).mono ?_
  · simp only [List.mem_cons, List.mem_nil_iff, or_false] at hp
    rcases hp with rfl | rfl
    · exact HU.out
    · exact HR.out.below HB.out
  · rw [hfl, List.length_append, M.macUnder_length, HL.out]; show 64 + n ≤ _; omega
  rintro e w2 ⟨g2, N, cap, rfl, hN, ho, hb⟩
  rw [hfl] at hN ho
  have hal := (Below.refl w1.heap.size w1).alloc (Nat.le_refl _) (.cells #[.slice (some ⟨g, 0, none⟩) 64 64, .slice A n c] 22)
  have S2 := Since.add (Since.add HB.out hal) hb
  have HFIN := Lib.hid (show Made w (M.sum (M.macUnder key x ++ bs)) (.returned (.slice (some ⟨g2, 0, none⟩) N cap)) w2 from ⟨g2, N, cap, rfl, hN, row_base ho (Since.add HB.out hal).size, S2⟩)
  clear hfl hN ho hal S2 hb
  go_wp2
  go_ret
  exact HFIN.out

set_option maxHeartbeats 2000000 in
set_option maxRecDepth 100000 in
theorem tag_any (A B : Option Addr) (n c m d : Nat) (key bs : List (BitVec 8)) (w : World) (hk : RowRd w ⟨A, n, c⟩ key) (hr : RowRd w ⟨B, m, d⟩ bs) (hn2 : n ≤ 100000000000) (hm2 : m ≤ 100000000000) (hK : HasK w) (hF : HasF w) :
    Calls Tryd.prog 49 #[.slice A n c, .slice B m d] w (Made w (M.tag key bs)) := by
  have hmf : ∀ (fn : Fn) (first cap : Array Value) (w : World), (Instr.makeFunc fn first cap).run Tryd.prog w = .ok (.func fn first cap) w := fun _ _ _ _ => rfl
  have HKY := Lib.hid hk; have HR := Lib.hid hr; have HK := Lib.hid hK; have HF := Lib.hid hF
  clear hk hr hK hF
  go_enter Tryd.func49, Tryd.ntmps49
  go_wp2_with fail
  refine (of_any A n c key w HKY.out (by omega) HK.out HF.out).mono ?_
  rintro e w1 ⟨rfl, hb⟩
  have HB := Lib.hid hb
  have HZ := Lib.hid (heap_alloc_new w1 (.cells (bv (zer 64)).toArray 80))
  have HS := Lib.hid (below_setRow (Since.alloc hb (.cells (bv (zer 64)).toArray 80)) hb.size (bv (M.macBlock key)).toArray)
  have HX := Lib.hid (setRow_heap _ w1.heap.size _ (bv (M.macBlock key)).toArray 80 (0, 0) HZ.out)
  clear hb
  go_wp2_with (refine wpList_store_row rfl 80 (.tmp 5) (.tmp 8) rfl w1.heap.size (bv (M.macBlock key)).toArray rfl rfl 80 _ HZ.out (infoBlk _ (M.macBlock_length key)) (blk_size _ _ (zer_length 64) (M.macBlock_length key)) (bv_all _) ?_)
  change Calls _ _ _ ((w1.alloc (.cells (bv (zer 64)).toArray 80)).setRow w1.heap.size (bv (M.macBlock key)).toArray) _
  generalize (w1.alloc (.cells (bv (zer 64)).toArray 80)).setRow w1.heap.size (bv (M.macBlock key)).toArray = w2 at *
  refine (side_any 0x36#8 key B m d w1.heap.size bs w2 (HR.out.below HS.out) hm2 HX.out (HK.out.below HS.out) (HF.out.below HS.out)).mono ?_
  rintro e w3 ⟨g3, N3, c3, rfl, hN, ho, hb⟩
  have HS3 := Lib.hid (HS.out.trans (hb.mono HS.out.size)); have HX3 := Lib.hid (Since.at hb HX.out); have R3 := Lib.hid (RowRd.of_row ho)
  have hN3 : N3 ≤ 100000000000 := by rw [hN, M.sum_length]; omega
  clear hN ho hb HZ
  go_wp2_with fail
  refine (side_any 0x5c#8 key (some ⟨g3, 0, none⟩) N3 c3 w1.heap.size (M.sum (M.macUnder key 0x36#8 ++ bs)) w3 R3.out hN3 HX3.out (HK.out.below HS3.out) (HF.out.below HS3.out)).mono ?_
  rintro e w4 ⟨g4, N4, c4, rfl, hN, ho, hb⟩
  have HFIN := Lib.hid (show Made w (M.tag key bs) (.returned (.slice (some ⟨g4, 0, none⟩) N4 c4)) w4 from ⟨g4, N4, c4, rfl, hN, row_base ho HS3.out.size, HS3.out.trans (hb.mono HS3.out.size)⟩)
  clear hN ho hb
  go_wp2
  go_ret
  exact HFIN.out

/-! ### the reference's -/
theorem refSum_made {w : World} {A : Option Addr} {n c : Nat} {bs : List (BitVec 8)} (hr : RowRd w ⟨A, n, c⟩ bs) (hn : n ≤ 1000000000000) : Calls Tryd.prog 37 #[.slice A n c] w (Made w (M.sum bs)) :=
  (RefSum_any A n c bs w hr.rd hr.len hn hr.none).mono fun e w' ⟨g, cap, he, ho, hb⟩ => ⟨g, 32, cap, he, rfl, ho, hb⟩
/-- what stands at place j once k places are done -/
def unders (key : List (BitVec 8)) (n : BitVec 8) (k : Nat) : List (BitVec 8) := (M.macUnder key n).take k ++ zer (64 - k)
theorem unders_length (key : List (BitVec 8)) (n : BitVec 8) (k : Nat) (h : k ≤ 64) : (unders key n k).length = 64 := by
  unfold unders
  rw [List.length_append, List.length_take, M.macUnder_length, zer_length]; omega
theorem unders_at (key : List (BitVec 8)) (n : BitVec 8) (k : Nat) (h : k < 64) : (unders key n k)[k]? = some 0#8 := by
  unfold unders
  rw [List.getElem?_append_right (by rw [List.length_take, M.macUnder_length]; omega), List.length_take, M.macUnder_length, Nat.min_eq_left (by omega), Nat.sub_self]
  unfold zer
  rw [List.getElem?_replicate, if_pos (by omega)]
theorem unders_set (key : List (BitVec 8)) (n : BitVec 8) (k : Nat) (h : k < 64) (y : BitVec 8) (hy : (M.macUnder key n)[k]? = some y) : (unders key n k).set k y = unders key n (k + 1) := by
  apply List.ext_getElem?
  intro j
  have hl : (M.macUnder key n).length = 64 := M.macUnder_length key n
  by_cases e : j = k
  · subst e
    rw [List.getElem?_set_self (by rw [unders_length _ _ _ (by omega)]; exact h)]
    unfold unders
    rw [List.getElem?_append_left (by rw [List.length_take]; omega), List.getElem?_take, if_pos (by omega), hy]
  · rw [List.getElem?_set_ne (Ne.symm e)]
    unfold unders
    by_cases h1 : j < k
    · rw [List.getElem?_append_left (by rw [List.length_take]; omega), List.getElem?_append_left (by rw [List.length_take]; omega), List.getElem?_take, List.getElem?_take, if_pos h1, if_pos (by omega)]
    · rw [List.getElem?_append_right (by rw [List.length_take]; omega), List.getElem?_append_right (by rw [List.length_take]; omega), List.length_take, List.length_take, Nat.min_eq_left (by omega), Nat.min_eq_left (by omega)]
      unfold zer
      rw [List.getElem?_replicate, List.getElem?_replicate]
      by_cases h2 : j < 64
      · rw [if_pos (by omega), if_pos (by omega)]
      · rw [if_neg (by omega), if_neg (by omega)]
theorem under_at (key : List (BitVec 8)) (n : BitVec 8) (k : Nat) (h : k < 64) : (M.macUnder key n)[k]? = some (((M.keyOf key).getD k 0#8) ^^^ n) := by
  have hl := M.keyOf_le key
  unfold M.macUnder M.macBlock
  rw [List.getElem?_map]
  by_cases h1 : k < (M.keyOf key).length
  · rw [List.getElem?_append_left h1, List.getElem?_eq_getElem h1]
    simp [h1]
  · rw [List.getElem?_append_right (by omega), List.getElem?_replicate, if_pos (by omega)]
    simp [h1]

end Go.Proofs.YtidcfjmibljkeaaDoor.K
