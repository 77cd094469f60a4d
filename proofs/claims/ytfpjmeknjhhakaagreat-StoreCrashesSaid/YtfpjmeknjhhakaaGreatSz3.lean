/- Merged: LetMath, KitLetter, TmBx, Lit, Box, Held, KitEnts, WireTake, WireRest, WireCatch, WireReads. -/
import Derived.Test.YtfpjmeknjhhakaaGreatSz2
import Derived.Deep.RegionLaw
import Derived.Defers
import Derived.Recover
import Derived.WalkLawsBesides
import Derived.Laws.Pointers
set_option linter.unusedVariables false
/- Letters as plain Lean functions: whether one is right, its bytes, what bytes are one. No program in sight. -/
namespace Go.Proofs.YtfpjmeknjhhakaaGreat.M
structure Let where
  kind : BitVec 8
  src : Int
  dst : Int
  term : Int
  index : Int
  was : Int
  ok : Bool
  commit : Int
  version : Int
  ents : List Ent
def zeroLet : Let := ⟨0#8, 0, 0, 0, 0, 0, false, 0, 0, []⟩
/-- from one to another -/
def wi (n a b : Int) : Bool := decide (a ≤ n) && decide (n ≤ b)
theorem wi_iff (n a b : Int) : wi n a b = true ↔ a ≤ n ∧ n ≤ b := by simp [wi]
def tm (n : Int) : Bool := wi n 0 1099511627776
def ix (n : Int) : Bool := wi n 0 1073741824
def z (n : Int) : Bool := n == 0
def lask (l : Let) : Bool := [!l.ok].all id && [l.commit, l.version, (l.ents.length : Int)].all z && ([l.term, l.was].all tm && [l.index].all ix)
def lvote (l : Let) : Bool := [l.index, l.was, l.commit, l.version, (l.ents.length : Int)].all z && ([l.term].all tm && [].all ix)
def lputs (l : Let) : Bool := [!l.ok, decide ((l.ents.length : Int) ≤ 4)].all id && [l.version].all z && ([l.term, l.was].all tm && [l.index, l.commit].all ix) && l.ents.all fun e => tm e.term
def ldone (l : Let) : Bool := [l.was, l.commit, l.version, (l.ents.length : Int)].all z && ([l.term].all tm && [l.index].all ix)
def lack (l : Let) : Bool := [l.term, l.index, l.was, l.commit, (l.ents.length : Int)].all z && wi l.version 1 1073741824
def lkind (l : Let) : Bool := if l.kind = 1#8 then lask l else if l.kind = 2#8 then lvote l else if l.kind = 3#8 then lputs l else if l.kind = 4#8 then ldone l else if l.kind = 5#8 then lack l else false
/-- P24.1 -/
def lright (l : Let) : Bool := wi l.src 1 7 && wi l.dst 1 7 && lkind l
def lnums (l : Let) : List Int := [l.kind.toNat, l.src, l.dst, l.term, l.index, l.was, flag l.ok, l.commit, l.version, l.ents.length]
def nums (l : List Int) : List B := l.flatMap num
theorem nums_snoc (l : List Int) (n : Int) : nums (l ++ [n]) = nums l ++ num n := by simp [nums]
theorem nums_length (l : List Int) : (nums l).length = 8 * l.length := by
  induction l with
  | nil => rfl
  | cons n l ih => rw [nums, List.flatMap_cons, List.length_append, num_length]; simp only [nums] at ih; rw [ih, List.length_cons]; omega
def lbytes (l : Let) : List B := nums (lnums l) ++ ents l.ents
def lput (l : Let) : List B := if lright l then lbytes l else []
def lputE (l : Let) : Nat := if lright l then 0 else 4
/-- so many numbers are read -/
def rdNums (s : Rdr) : Nat → List Int × Rdr
  | 0 => ([], s)
  | k + 1 => ((rdNums s k).1 ++ [(rdNumber (rdNums s k).2).1], (rdNumber (rdNums s k).2).2)
theorem rdNums_length (s : Rdr) (k : Nat) : (rdNums s k).1.length = k := by
  induction k with
  | zero => rfl
  | succ k ih => rw [rdNums, List.length_append, ih]; rfl
def rdEnts (s : Rdr) : Nat → List Ent × Rdr
  | 0 => ([], s)
  | k + 1 => ((rdEnts s k).1 ++ [(rdEntry (rdEnts s k).2).1], (rdEntry (rdEnts s k).2).2)
theorem rdEnts_length (s : Rdr) (k : Nat) : (rdEnts s k).1.length = k := by
  induction k with
  | zero => rfl
  | succ k ih => rw [rdEnts, List.length_append, ih]; rfl
/-- the letter that the numbers and entries make -/
def lof (ns : List Int) (es : List Ent) : Let := ⟨BitVec.ofInt 8 (ns.getD 0 0), ns.getD 1 0, ns.getD 2 0, ns.getD 3 0, ns.getD 4 0, ns.getD 5 0, ns.getD 6 0 == 1, ns.getD 7 0, ns.getD 8 0, es⟩
def lfits (ns : List Int) : Bool := wi (ns.getD 0 0) 0 255 && wi (ns.getD 6 0) 0 1 && wi (ns.getD 9 0) 0 4
/-- what is read of bytes -/
def lread (b : List B) : Option Let :=
  if lfits (rdNums (some b) 10).1 = true ∧ (rdEnts (rdNums (some b) 10).2 ((rdNums (some b) 10).1.getD 9 0).toNat).2 = some [] ∧ lright (lof (rdNums (some b) 10).1 (rdEnts (rdNums (some b) 10).2 ((rdNums (some b) 10).1.getD 9 0).toNat).1) = true
  then some (lof (rdNums (some b) 10).1 (rdEnts (rdNums (some b) 10).2 ((rdNums (some b) 10).1.getD 9 0).toNat).1) else none
def lgetE (b : List B) : Nat := if (lread b).isSome then 0 else 4
def lget (b : List B) : Let := (lread b).getD zeroLet

theorem rdNums_bad (k : Nat) : (rdNums none k).2 = none := by
  induction k with
  | zero => rfl
  | succ k ih => rw [rdNums, ih]; rfl
theorem rdEnts_bad (k : Nat) : (rdEnts none k).2 = none := by
  induction k with
  | zero => rfl
  | succ k ih => rw [rdEnts, ih, rdEntry_bad]
theorem rdNums_nums (l : List Int) (h : ∀ n ∈ l, inI64 n) (t : List B) (k : Nat) (hk : k ≤ l.length) : rdNums (some (nums l ++ t)) k = (l.take k, some (nums (l.drop k) ++ t)) := by
  induction k with
  | zero => rfl
  | succ k ih =>
    have hk' : k < l.length := by omega
    rw [rdNums, ih (by omega)]
    have e : nums (l.drop k) = num l[k] ++ nums (l.drop (k + 1)) := by
      unfold nums
      conv => lhs; rw [List.drop_eq_getElem_cons hk']
      exact List.flatMap_cons
    rw [e, List.append_assoc, rdNumber_num _ _ (h _ (List.getElem_mem _)), List.take_succ_eq_append_getElem hk']
theorem rdEnts_ents (l : List Ent) (h : ∀ e ∈ l, e.Ok) (t : List B) (k : Nat) (hk : k ≤ l.length) : rdEnts (some (ents l ++ t)) k = (l.take k, some (ents (l.drop k) ++ t)) := by
  induction k with
  | zero => rfl
  | succ k ih =>
    have hk' : k < l.length := by omega
    rw [rdEnts, ih (by omega)]
    have e : ents (l.drop k) = ent l[k] ++ ents (l.drop (k + 1)) := by
      unfold ents
      conv => lhs; rw [List.drop_eq_getElem_cons hk']
      exact List.flatMap_cons
    rw [e, List.append_assoc, rdEntry_ent _ _ (h _ (List.getElem_mem _)), List.take_succ_eq_append_getElem hk']
theorem eats_nums (l : List Int) (h : ∀ n ∈ l, inI64 n) : Eats (fun s => (rdNums s l.length).2) (nums l) := by
  suffices H : ∀ k, k ≤ l.length → Eats (fun s => (rdNums s k).2) (nums (l.take k)) by
    have := H l.length (Nat.le_refl _)
    rwa [List.take_length] at this
  intro k
  induction k with
  | zero => intro _; exact Eats.id
  | succ k ih =>
    intro hk
    have hk' : k < l.length := by omega
    have := (ih (by omega)).comp (eats_num l[k] (h _ (List.getElem_mem _)))
    rw [List.take_succ_eq_append_getElem hk', nums_snoc]
    exact this
theorem rdEnts_all (l : List Ent) (s : Rdr) : ∀ k, k ≤ l.length → (rdEnts s k).2 = rdAll (l.take k) s := by
  intro k
  induction k with
  | zero => intro _; rfl
  | succ k ih =>
    intro hk
    have hk' : k < l.length := by omega
    rw [rdEnts, ih (by omega), List.take_succ_eq_append_getElem hk', rdAll_snoc]
structure Let.Ok (l : Let) : Prop where
  ents : ∀ e ∈ l.ents, e.Ok
theorem tm_iff (n : Int) : tm n = true ↔ 0 ≤ n ∧ n ≤ 1099511627776 := wi_iff _ _ _
theorem ix_iff (n : Int) : ix n = true ↔ 0 ≤ n ∧ n ≤ 1073741824 := wi_iff _ _ _
theorem z_iff (n : Int) : z n = true ↔ n = 0 := by simp [z]
/-- a right letter's numbers are small -/
theorem lright_small (l : Let) (h : lright l = true) : (1 ≤ l.src ∧ l.src ≤ 7) ∧ (1 ≤ l.dst ∧ l.dst ≤ 7) ∧ (0 ≤ l.term ∧ l.term ≤ 1099511627776) ∧ (0 ≤ l.index ∧ l.index ≤ 1073741824) ∧ (0 ≤ l.was ∧ l.was ≤ 1099511627776) ∧ (0 ≤ l.commit ∧ l.commit ≤ 1073741824) ∧ (0 ≤ l.version ∧ l.version ≤ 1073741824) ∧ l.ents.length ≤ 4 := by
  unfold lright lkind at h
  simp only [Bool.and_eq_true, wi_iff] at h
  obtain ⟨⟨h1, h2⟩, h3⟩ := h
  refine ⟨h1, h2, ?_⟩
  split at h3
  · simp only [lask, List.all_cons, List.all_nil, id_eq, Bool.and_eq_true, tm_iff, ix_iff, z_iff] at h3; omega
  split at h3
  · simp only [lvote, List.all_cons, List.all_nil, Bool.and_eq_true, tm_iff, z_iff] at h3; omega
  split at h3
  · simp only [lputs, List.all_cons, List.all_nil, id_eq, Bool.and_eq_true, tm_iff, ix_iff, z_iff, decide_eq_true_eq] at h3; omega
  split at h3
  · simp only [ldone, List.all_cons, List.all_nil, Bool.and_eq_true, tm_iff, ix_iff, z_iff] at h3; omega
  split at h3
  · simp only [lack, List.all_cons, List.all_nil, Bool.and_eq_true, z_iff, wi_iff] at h3; omega
  · cases h3
theorem lnums_in (l : Let) (h : lright l = true) : ∀ n ∈ lnums l, inI64 n := by
  obtain ⟨h1, h2, h3, h4, h5, h6, h7, h8⟩ := lright_small l h
  have hk := l.kind.isLt
  have hf : 0 ≤ flag l.ok ∧ flag l.ok ≤ 1 := by unfold flag; split <;> omega
  intro n hn
  simp only [lnums, List.mem_cons, List.not_mem_nil, or_false] at hn
  unfold inI64
  rcases hn with rfl | rfl | rfl | rfl | rfl | rfl | rfl | rfl | rfl | rfl <;> omega
theorem lof_nums (l : Let) : lof (lnums l) l.ents = l := by
  have hk : BitVec.ofInt 8 (l.kind.toNat : Int) = l.kind := by
    apply BitVec.eq_of_toNat_eq
    have := l.kind.isLt
    rw [BitVec.toNat_ofInt]; omega
  have hf : (flag l.ok == 1) = l.ok := by unfold flag; cases l.ok <;> rfl
  show Let.mk (BitVec.ofInt 8 (l.kind.toNat : Int)) l.src l.dst l.term l.index l.was (flag l.ok == 1) l.commit l.version l.ents = l
  rw [hk, hf]
theorem lfits_nums (l : Let) (h : lright l = true) : lfits (lnums l) = true := by
  have h8 := (lright_small l h).2.2.2.2.2.2.2
  have hk := l.kind.isLt
  have hf : 0 ≤ flag l.ok ∧ flag l.ok ≤ 1 := by unfold flag; split <;> omega
  unfold lfits
  simp only [Bool.and_eq_true, wi_iff]
  show ((0 ≤ (l.kind.toNat : Int) ∧ (l.kind.toNat : Int) ≤ 255) ∧ 0 ≤ flag l.ok ∧ flag l.ok ≤ 1) ∧ 0 ≤ (l.ents.length : Int) ∧ (l.ents.length : Int) ≤ 4
  omega
theorem rdNums_lbytes (l : Let) (h : lright l = true) (t : List B) : rdNums (some (lbytes l ++ t)) 10 = (lnums l, some (ents l.ents ++ t)) := by
  have := rdNums_nums (lnums l) (lnums_in l h) (ents l.ents ++ t) 10 (Nat.le_refl 10)
  rw [lbytes, List.append_assoc, this]
  rfl
theorem lread_more (l : Let) (h : lright l = true) (ho : l.Ok) (t : List B) (ht : t ≠ []) : lread (lbytes l ++ t) = none := by
  unfold lread
  rw [rdNums_lbytes l h t]
  have e : ((lnums l).getD 9 0).toNat = l.ents.length := by show ((l.ents.length : Int)).toNat = _; omega
  rw [e, rdEnts_ents l.ents ho.ents t _ (Nat.le_refl _), List.drop_length]
  rw [if_neg]
  rintro ⟨_, h2, _⟩
  simp [ents] at h2
  exact ht h2
theorem lread_bytes (l : Let) (h : lright l = true) (ho : l.Ok) : lread (lbytes l) = some l := by
  unfold lread
  have e0 := rdNums_lbytes l h []
  rw [List.append_nil, List.append_nil] at e0
  rw [e0]
  have e : ((lnums l).getD 9 0).toNat = l.ents.length := by show ((l.ents.length : Int)).toNat = _; omega
  have e1 := rdEnts_ents l.ents ho.ents [] _ (Nat.le_refl _)
  rw [List.append_nil, List.take_length, List.drop_length] at e1
  rw [e, e1, lof_nums]
  rw [if_pos ⟨lfits_nums l h, rfl, h⟩]
theorem lread_cut (l : Let) (h : lright l = true) (ho : l.Ok) (k : Nat) (hk : k < (lbytes l).length) : lread ((lbytes l).take k) = none := by
  unfold lread
  rw [if_neg]
  rintro ⟨_, h2, _⟩
  by_cases hl : k < (nums (lnums l)).length
  · have e := (eats_nums (lnums l) (lnums_in l h)).cut k hl
    rw [lbytes, List.take_append_of_le_length (by omega)] at h2
    have e' : (rdNums (some ((nums (lnums l)).take k)) 10).2 = none := e
    rw [e', rdEnts_bad] at h2
    cases h2
  · rw [lbytes, List.length_append] at hk
    rw [lbytes, List.take_append, List.take_of_length_le (by omega)] at h2
    have e := rdNums_nums (lnums l) (lnums_in l h) ((ents l.ents).take (k - (nums (lnums l)).length)) 10 (Nat.le_refl 10)
    rw [e] at h2
    have e9 : (((lnums l).take 10).getD 9 0).toNat = l.ents.length := by show ((l.ents.length : Int)).toNat = _; omega
    have e10 : nums ((lnums l).drop 10) = [] := rfl
    simp only [e9, e10, List.nil_append] at h2
    rw [rdEnts_all l.ents _ _ (Nat.le_refl _), List.take_length, (eats_all l.ents ho.ents).cut _ (by omega)] at h2
    cases h2
theorem rdEntry_inv {s : Rdr} {e : Ent} {t : List B} (h : rdEntry s = (e, some t)) : ∃ l, s = some l ∧ l = ent e ++ t := by
  cases s with
  | none => rw [rdEntry_bad] at h; cases h
  | some l =>
    refine ⟨l, rfl, ?_⟩
    simp only [rdEntry] at h
    split at h
    · cases h
    · rename_i hc
      simp only [not_or, Int.not_lt] at hc
      obtain ⟨h0, h1, h2, h3, h4⟩ := hc
      simp only [Prod.mk.injEq] at h
      obtain ⟨he, ht⟩ := h
      obtain ⟨l5, e5, q5⟩ := rdBytes_inv (Prod.ext rfl ht : rdBytes _ = (_, some t))
      obtain ⟨l4, e4, q4⟩ := rdNumber_inv' e5
      obtain ⟨l3, e3, q3⟩ := rdNumber_inv' e4
      obtain ⟨l2, e2, q2⟩ := rdNumber_inv' e3
      obtain ⟨l1, e1, q1⟩ := rdNumber_inv' e2
      obtain ⟨l0, e0, q0⟩ := rdNumber_inv' e1
      cases e0
      subst he
      have hk : ((BitVec.ofInt 8 (rdNumber (rdNumber (some l)).2).1).toNat : Int) = (rdNumber (rdNumber (some l)).2).1 := by rw [BitVec.toNat_ofInt]; omega
      have hg : flag ((rdNumber (rdNumber (rdNumber (rdNumber (rdNumber (some l)).2).2).2).2).1 == 1) = (rdNumber (rdNumber (rdNumber (rdNumber (rdNumber (some l)).2).2).2).2).1 := by
        generalize (rdNumber (rdNumber (rdNumber (rdNumber (rdNumber (some l)).2).2).2).2).1 = x at *
        rcases (by omega : x = 0 ∨ x = 1) with rfl | rfl <;> rfl
      unfold ent
      simp only [hk, hg, List.append_assoc]
      rw [← q5, ← q4, ← q3, ← q2, ← q1]
      exact q0
theorem rdNums_inv (b : List B) : ∀ (k : Nat) (t : List B), (rdNums (some b) k).2 = some t → b = nums (rdNums (some b) k).1 ++ t
  | 0, t, h => by cases h; rfl
  | k + 1, t, h => by
    rw [rdNums] at h ⊢
    obtain ⟨l, e, q⟩ := rdNumber_inv' h
    have ih := rdNums_inv b k l e
    rw [nums_snoc, List.append_assoc, ← q]
    exact ih
theorem rdEnts_inv (s : Rdr) : ∀ (k : Nat) (t : List B), (rdEnts s k).2 = some t → ∃ b, s = some b ∧ b = ents (rdEnts s k).1 ++ t
  | 0, t, h => ⟨t, h, rfl⟩
  | k + 1, t, h => by
    rw [rdEnts] at h ⊢
    obtain ⟨l, e, q⟩ := rdEntry_inv (Prod.ext rfl h : rdEntry (rdEnts s k).2 = (_, some t))
    obtain ⟨b, e1, q1⟩ := rdEnts_inv s k l e
    refine ⟨b, e1, ?_⟩
    rw [ents_snoc, List.append_assoc, ← q]
    exact q1
theorem lread_put (b : List B) (l : Let) (h : lread b = some l) : lright l = true ∧ lbytes l = b := by
  unfold lread at h
  split at h
  · rename_i hc
    obtain ⟨h1, h2, h3⟩ := hc
    obtain ⟨r, e1, q1⟩ := rdEnts_inv _ _ _ h2
    have q2 := rdNums_inv b 10 r e1
    rw [List.append_nil] at q1
    have hl := rdNums_length (some b) 10
    have hel := rdEnts_length (rdNums (some b) 10).2 ((rdNums (some b) 10).1.getD 9 0).toNat
    simp only [Option.some.injEq] at h
    subst h
    refine ⟨h3, ?_⟩
    generalize rdEnts (rdNums (some b) 10).2 ((rdNums (some b) 10).1.getD 9 0).toNat = E at *
    generalize (rdNums (some b) 10).1 = ns at *
    match ns, hl with
    | [n0, n1, n2, n3, n4, n5, n6, n7, n8, n9], _ =>
      unfold lfits at h1
      simp only [Bool.and_eq_true, wi_iff] at h1
      obtain ⟨⟨h10, h16⟩, h19⟩ := h1
      have h10' : 0 ≤ n0 ∧ n0 ≤ 255 := h10
      have h16' : 0 ≤ n6 ∧ n6 ≤ 1 := h16
      have h19' : 0 ≤ n9 ∧ n9 ≤ 4 := h19
      have hel' : E.1.length = n9.toNat := hel
      have hk : ((BitVec.ofInt 8 n0).toNat : Int) = n0 := by rw [BitVec.toNat_ofInt]; omega
      have hg : flag (n6 == 1) = n6 := by
        rcases (by omega : n6 = 0 ∨ n6 = 1) with rfl | rfl <;> rfl
      have h9 : ((E.1.length : Nat) : Int) = n9 := by omega
      unfold lbytes
      have e2 : lnums (lof [n0, n1, n2, n3, n4, n5, n6, n7, n8, n9] E.1) = [n0, n1, n2, n3, n4, n5, n6, n7, n8, n9] := by
        show [((BitVec.ofInt 8 n0).toNat : Int), n1, n2, n3, n4, n5, flag (n6 == 1), n7, n8, ((E.1.length : Nat) : Int)] = _
        rw [hk, hg, h9]
      rw [e2, q2, q1]
      rfl
  · cases h
theorem lgetE_zero (b : List B) : lgetE b = 0 ↔ ∃ l, lread b = some l := by
  unfold lgetE
  cases lread b <;> simp
theorem lget_put (b : List B) (h : lgetE b = 0) : lright (lget b) = true ∧ lbytes (lget b) = b := by
  obtain ⟨l, e⟩ := (lgetE_zero b).1 h
  have e2 : lget b = l := by unfold lget; rw [e]; rfl
  rw [e2]
  exact lread_put b l e
theorem lget_bad (b : List B) (h : lgetE b ≠ 0) : lgetE b = 4 ∧ lget b = zeroLet := by
  unfold lgetE lget at *
  cases e : lread b with
  | none => exact ⟨rfl, rfl⟩
  | some l => rw [e] at h; exact absurd rfl h
end Go.Proofs.YtfpjmeknjhhakaaGreat.M

/- The contracts of barbicankit's SameEntries, SameLetter. -/
namespace Go.Proofs.YtfpjmeknjhhakaaGreat.K
open Go Go.RowKit

def SaidB (w : World) (b : Bool) (e : Ending) (w' : World) : Prop := e = .returned (.bool b) ∧ Since w w'
theorem SameEntries_ne (A : Option Addr) (n c : Nat) (B : Option Addr) (m d : Nat) (w : World) (h : n ≠ m) :
    Calls Tryz.prog 45 #[.slice A n c, .slice B m d] w (SaidB w false) := by
  have h1 : ((n : Int) != (m : Int)) = true := by simp; omega
  go_enter Tryz.func45, Tryz.ntmps45
  go_wp2
  go_ret
  exact ⟨rfl, Below.refl _ _⟩
set_option maxHeartbeats 2000000 in
set_option maxRecDepth 100000 in
theorem SameEntries_eq (A : Option Addr) (n c : Nat) (B : Option Addr) (d : Nat) (es : List M.Ent) (w : World) (hl : es.length = n) (hA : EntsRd w A es) (hB : EntsRd w B es) (hn : n ≤ 9223372036854775807) (hD : ∀ e ∈ es, e.data.length ≤ 4611686018427387904) :
    Calls Tryz.prog 45 #[.slice A n c, .slice B n d] w (SaidB w true) := by
  have HA := Lib.hid hA; have HB := Lib.hid hB; have HL := Lib.hid hl; have HD := Lib.hid hD
  clear hA hB hl hD
  go_enter Tryz.func45, Tryz.ntmps45
  go_wp2
  go_loopw [5] (fun i wr => ∃ k : Nat, k ≤ n ∧ i = .int .i64 (k : Int) ∧ Since w wr) (fun i _ => n - (intOf i).toNat)
  case atStart => exact ⟨0, by omega, rfl, Below.refl _ _⟩
  case round =>
    obtain ⟨k, hk, rfl, hs⟩ := hrel
    have S1 := Lib.hid hs
    clear hs
    have k0 : (0 : Int) ≤ (k : Int) := by omega
    rcases Nat.lt_or_ge k n with h1 | h1
    · have i1 : (k : Int) < (n : Int) := by omega
      have hkl : k < es.length := by rw [HL.out]; exact h1
      obtain ⟨b, o, rfl, A', m', c', ⟨y0, y1, y2, y3, y4, y5⟩, hra⟩ := HA.out.since S1.out.drew k hkl
      obtain ⟨b2, o2, rfl, B', m2, d', ⟨z0, z1, z2, z3, z4, z5⟩, hrb⟩ := HB.out.since S1.out.drew k hkl
      obtain ⟨x, hx⟩ : ∃ x, x = es[k] := ⟨_, rfl⟩
      rw [← hx] at y0 y1 y2 y3 y4 z0 z1 z2 z3 z4 hra hrb
      have HDX := Lib.hid (show m' ≤ 4611686018427387904 by have h := HD.out _ (List.getElem_mem hkl); rw [← hx] at h; have := hra.len; dsimp only at this; omega)
      have HRA := Lib.hid hra; have HRB := Lib.hid hrb
      clear hx hra hrb
      go_wp2_with fail
      go_region_law (first
        | (go_simp; go_at_call 71; refine (SameEntry_eq x.term x.version x.server x.kind x.good A' B' m' c' m2 d' x.data _ HRA.out HRB.out HDX.out).mono ?_; rintro e w3 ⟨rfl, hs3⟩; have S3 := Lib.hid (S1.out.drew.add hs3); clear hs3)
        | fail "arm")
      all_goals
        clear y0 y1 y2 y3 y4 y5 z0 z1 z2 z3 z4 z5
        go_wp2_with fail
        go_roundw
        case rel => exact ⟨k + 1, by omega, by go_num, S3.out⟩
        case measure => simp [intOf]; omega
    · have i1 : ¬ (k : Int) < (n : Int) := by omega
      go_wp2
      go_ret
      exact ⟨rfl, S1.out⟩
end Go.Proofs.YtfpjmeknjhhakaaGreat.K

/- Two blocks made ahead. -/
namespace Go.Proofs.YtfpjmeknjhhakaaGreat.K
open Go Go.RowKit

theorem tmBx {w : World} {c d : Array Value} {t : TypeId} : Since w ((w.alloc (.cells c t)).alloc (.cells d t)) := Since.alloc (Since.alloc (Below.refl _ _) _) _
end Go.Proofs.YtfpjmeknjhhakaaGreat.K

/- Literal slices, lent ones, and the kit's questions about them. -/
namespace Go.Proofs.YtfpjmeknjhhakaaGreat.K
open Go Go.RowKit

theorem row_lit (w : World) (cs : Array Value) (t : TypeId) (bs : List (BitVec 8)) (n c : Nat) (h : cs.toList = bv bs) (hn : bs.length = n) : RowRd (w.alloc (.cells cs t)) ⟨some ⟨w.heap.size, 0, none⟩, n, c⟩ bs :=
  ⟨Rd.of_block (heap_alloc_new w _) (by rw [h, ← bv_length, List.take_length]), hn, fun h => by cases h⟩
/-- two rows that read the same -/
theorem SameBytes_eq (A B : Option Addr) (n m c d : Nat) (bs : List (BitVec 8)) (w : World) (hx : RowRd w ⟨A, n, c⟩ bs) (hy : RowRd w ⟨B, m, d⟩ bs) (hn2 : n ≤ 4611686018427387904) :
    Calls Tryz.prog 15 #[.slice A n c, .slice B m d] w fun e w' => e = .returned (.bool true) ∧ Below w.heap.size w w' := by
  have hnm : m ≤ 4611686018427387904 := by have := hx.len; have := hy.len; simp at *; omega
  refine (SameBytes_any A B n m c d bs bs w hx.rd hy.rd hx.len hy.len hn2 hnm).mono ?_
  rintro e w1 ⟨rfl, q, rfl⟩
  exact ⟨by rw [decide_eq_true rfl], below_drewN (Below.refl _ _) q⟩
theorem grown_none_of_below {w w1 : World} (h : Below w.heap.size w w1) : w.grownBy w1 none := ⟨h.os, h.tape, h.output, h.size, fun k hk _ => h.block k hk⟩
abbrev RB := Rw × List (BitVec 8)
def flat (l : List RB) : List (BitVec 8) := (l.map (·.2)).flatten
def accOf (p : RB) : Acc := ⟨p.1.v, p.1.n, 5, 1, bv p.2⟩
/-- lent bytes -/
def Lent1 (w0 : World) (n : Nat) (bs : List (BitVec 8)) (e : Ending) (w' : World) : Prop := ∃ g, e = .returned (.slice (some ⟨g, 0, none⟩) n (n + 12)) ∧ w0.heap.size ≤ g ∧ w'.heap[g]? = some (.cells (bv (bs ++ marks 1 0 12)).toArray 5 (0, 0)) ∧ Since w0 w'
theorem lent_from (w0 : World) (A : Option Addr) (n c : Nat) (bs : List (BitVec 8)) (hr : RowRd w0 ⟨A, n, c⟩ bs) (hn2 : n ≤ 140737488000000) {w : World} (h : Since w0 w) :
    Calls Tryz.prog 91 #[.slice A n c] w (Lent1 w n bs) := by
  have hr' := h.row hr
  exact (LentBytes_any A n c bs w hr'.rd hr'.len hn2 hr'.none).mono fun e w' ⟨g, he, hg, hb, hbe⟩ => ⟨g, he, hg, hb, hbe⟩
/-- kept, as lent -/
theorem kept_made {w0 : World} {g : Nat} {A : Option Addr} {n c : Nat} {bs : List (BitVec 8)} (hg : w0.heap[g]? = some (.cells (bv (bs ++ marks 1 0 12)).toArray 5 (0, 0))) (hr : RowRd w0 ⟨A, n, c⟩ bs) (hn2 : n ≤ 140737488000000) {w : World} (h : Since w0 w) :
    Calls Tryz.prog 93 #[.slice (some ⟨g, 0, none⟩) n (n + 12), .slice A n c] w fun e w' => e = .returned (.bool true) ∧ Below w.heap.size w w' :=
  (KeptBytes_any g A n c bs w (h.at hg) (h.row hr).rd hr.len hn2).mono fun e w' ⟨he, q, hw⟩ => ⟨he, by subst hw; exact below_drewN (Below.refl _ _) q⟩
theorem same_made {w0 : World} {A B : Option Addr} {n m c d : Nat} {bs : List (BitVec 8)} (hx : RowRd w0 ⟨A, n, c⟩ bs) (hy : RowRd w0 ⟨B, m, d⟩ bs) (hn2 : n ≤ 4611686018427387904) {w : World} (h : Since w0 w) :
    Calls Tryz.prog 15 #[.slice A n c, .slice B m d] w fun e w' => e = .returned (.bool true) ∧ Below w.heap.size w w' :=
  SameBytes_eq A B n m c d bs w (h.row hx) (h.row hy) hn2
/-- lent bytes read as the bytes -/
theorem lent_row {w : World} {g n : Nat} {bs : List (BitVec 8)} (hg : w.heap[g]? = some (.cells (bv (bs ++ marks 1 0 12)).toArray 5 (0, 0))) (hn : bs.length = n) : RowRd w ⟨some ⟨g, 0, none⟩, n, n + 12⟩ bs :=
  ⟨Rd.of_block hg (by rw [List.toList_toArray, bv_append, List.take_left' (bv_length bs)]), hn, fun h => by cases h⟩
end Go.Proofs.YtfpjmeknjhhakaaGreat.K

/- Boxes as accounts of a bank: blocks of cells that the call made, written cell by cell or whole. -/
namespace Go.Proofs.YtfpjmeknjhhakaaGreat.K
open Go Go.RowKit

def rowAcc (A : Option Addr) (N c : Nat) (bs : List (BitVec 8)) : Acc := ⟨.slice A N c, N, 5, 1, bv bs⟩
/-- a block of cells as a row -/
def boxAcc (g : Nat) (t : TypeId) (vs : List Value) : Acc := ⟨.slice (some ⟨g, 0, none⟩) vs.length vs.length, vs.length, t, 1, vs⟩
theorem Bank.box {w0 w : World} {L : List Acc} (h : Bank w0 w L) (cs : Array Value) (t : TypeId) (hs : cs.size ≤ 1000000) : Bank w0 (w.alloc (.cells cs t)) (boxAcc w.heap.size t cs.toList :: L) := by
  have := h.litV cs t hs
  exact this
/-- a box's block -/
theorem Bank.boxAt {w0 w : World} {L : List Acc} (h : Bank w0 w L) (i : Nat) {g : Nat} {t : TypeId} {vs : List Value} (hi : L[i]? = some (boxAcc g t vs)) : w0.heap.size ≤ g ∧ w.heap[g]? = some (.cells vs.toArray t (0, 0)) := own_full (h.at i hi)
/-- a cell of a box is written -/
theorem Bank.boxSet {w0 w : World} {L : List Acc} (h : Bank w0 w L) (i : Nat) {g : Nat} {t : TypeId} {vs : List Value} (hi : L[i]? = some (boxAcc g t vs)) (j : Nat) (v : Value) : Bank w0 (w.setCell ⟨g, j, Option.none⟩ v) (L.set i (boxAcc g t (vs.set j v))) := by
  obtain ⟨ho, hg⟩ := (h.at i hi).stored j v
  refine h.put i hi ?_ hg (.inl ?_)
  · show (w.setCell ⟨g, j, Option.none⟩ v).ownsRow _ _ _ (.slice _ (vs.set j v).length (vs.set j v).length) (vs.set j v).length _
    rw [List.length_set]
    exact ho
  · show Value.ownBlock (.slice _ (vs.set j v).length (vs.set j v).length) = _
    rw [List.length_set]
    rfl
theorem Bank.ne {w0 w : World} {L : List Acc} (h : Bank w0 w L) {i j : Nat} {g g' : Nat} {t t' : TypeId} {vs vs' : List Value} (hi : L[i]? = some (boxAcc g t vs)) (hj : L[j]? = some (boxAcc g' t' vs')) (hij : i ≠ j) : g ≠ g' := by
  intro e
  subst e
  exact h.sepAt hi hj hij g rfl rfl
theorem Bank.cell {w0 w : World} {L : List Acc} (h : Bank w0 w L) (i : Nat) {g : Nat} {t : TypeId} {vs : List Value} (hi : L[i]? = some (boxAcc g t vs)) (j : Nat) {v : Value} (hv : vs[j]? = some v) : w.cell? ⟨g, j, Option.none⟩ = some v := block_cell (h.boxAt i hi).2 hv
theorem Bank.free {w0 w : World} {L : List Acc} (h : Bank w0 w L) (i : Nat) {g : Nat} {t : TypeId} {vs : List Value} (hi : L[i]? = some (boxAcc g t vs)) (j : Nat) : w.frozen? ⟨g, j, Option.none⟩ = false := frozen_of_row w g j _ _ (h.boxAt i hi).2
theorem own_someB {w : World} {base : Nat} {e : TypeId} {A : Option Addr} {n c : Nat} {xs : List Value} (h : w.ownsRow base e 1 (.slice A n c) n xs) (hp : 0 < n) : ∃ g, A = some ⟨g, 0, none⟩ := by
  rcases h.2 with ⟨h0, h1⟩ | ⟨g, cap, cur, hv, _⟩
  · cases h0; omega
  · simp only [Value.slice.injEq, true_and] at hv
    exact ⟨g, hv.1⟩
/-- a box is written whole -/
theorem Bank.boxRow {w0 w : World} {L : List Acc} (h : Bank w0 w L) (i : Nat) {g : Nat} {t : TypeId} {vs : List Value} (hi : L[i]? = some (boxAcc g t vs)) (vs' : List Value) (hl : vs'.length = vs.length) (hs : vs.length ≤ 1000000) : Bank w0 (w.setRow g vs'.toArray) (L.set i (boxAcc g t vs')) := by
  obtain ⟨hb, hg⟩ := h.boxAt i hi
  refine h.put i hi ?_ (show w.grownBy (w.setRow g vs'.toArray) (some g) from ⟨rfl, rfl, rfl, by simp [World.setRow], fun k hk hne => setRow_other w g k _ (fun e => hne (by rw [e]))⟩) (.inl ?_)
  · refine ⟨?_, .inr ⟨g, _, _, rfl, hb, setRow_heap _ _ _ _ _ _ hg, Nat.le_refl _, ?_, ?_, ?_⟩⟩
    · show vs'.length = vs'.length * 1; omega
    · show vs'.length ≤ maxLen; unfold maxLen; omega
    · show _ = vs'.length * 1; simp
    · show vs'.toArray.toList.take (vs'.length * 1) = vs'; simp
  · show Value.ownBlock (.slice _ vs'.length vs'.length) = _
    rw [hl]; rfl
end Go.Proofs.YtfpjmeknjhhakaaGreat.K

/- A reader beside a bank: its block and what it reads of are none of the bank's. Plain lemmas over any program. -/
namespace Go.Proofs.YtfpjmeknjhhakaaGreat.K
open Go Go.RowKit

theorem Bank.sub {w0 w : World} {L L' : List Acc} (h : Bank w0 w L) (hs : L'.Sublist L) : Bank w0 w L' := ⟨h.since, fun p hp => h.own p (hs.subset hp), h.sep.sublist hs⟩
structure Held (w0 w : World) (Q : World → M.Rdr → Prop) (s : M.Rdr) (R : Nat) (Bd : Option Addr) (L : List Acc) : Prop where
  bank : Bank w0 w L
  q : Q w s
  keep : ∀ w w' s (row : Option Nat), Q w s → w.grownBy w' row → row ≠ some R → (∀ a, Bd = some a → row ≠ some a.block) → Q w' s
  lt : R < w.heap.size ∧ ∀ a, Bd = some a → a.block < w.heap.size
  base : w0.heap.size ≤ R
  away : ∀ p ∈ L, ∀ b, p.v.ownBlock = some b → b ≠ R ∧ ∀ a, Bd = some a → b ≠ a.block
section
variable {w0 w w' : World} {Q : World → M.Rdr → Prop} {s s' : M.Rdr} {R : Nat} {Bd : Option Addr} {L : List Acc}
theorem Held.step (h : Held w0 w Q s R Bd L) (hq : Q w' s') (hg : w.grownBy w' (some R)) : Held w0 w' Q s' R Bd L :=
  ⟨h.bank.other hg h.base (fun p hp e => (h.away p hp R e).1 rfl), hq, h.keep, ⟨Nat.lt_of_lt_of_le h.lt.1 hg.size, fun a e => Nat.lt_of_lt_of_le (h.lt.2 a e) hg.size⟩, h.base, h.away⟩
theorem Held.row (h : Held w0 w Q s R Bd L) (hq : Q w' s') (hg : w.grownBy w' (some R)) {e : TypeId} {size m : Nat} {v : Value} {xs : List Value} (ho : w'.ownsRow w.heap.size e size v m xs) : Held w0 w' Q s' R Bd (⟨v, m, e, size, xs⟩ :: L) := by
  have h1 := h.step hq hg
  refine ⟨h1.bank.add ho h.bank.since.size (fun p hp b hb => (h.bank.lt hp hb).2), hq, h.keep, h1.lt, h.base, fun p hp b hb => ?_⟩
  rcases List.mem_cons.1 hp with rfl | hp
  · have h2 := (ho.lt b hb).1
    have h3 := h.lt.1
    exact ⟨by omega, fun a e => by have := h.lt.2 a e; omega⟩
  · exact h.away p hp b hb
theorem Held.call (h : Held w0 w Q s R Bd L) (hb : Below w.heap.size w w') : Held w0 w' Q s R Bd L :=
  ⟨h.bank.call hb, h.keep _ _ _ none h.q (grown_none_of_below hb) (by simp) (fun _ _ => by simp), h.keep, ⟨Nat.lt_of_lt_of_le h.lt.1 hb.size, fun a e => Nat.lt_of_lt_of_le (h.lt.2 a e) hb.size⟩, h.base, h.away⟩
theorem Held.set (h : Held w0 w Q s R Bd L) (i : Nat) {g : Nat} {t : TypeId} {vs : List Value} (hi : L[i]? = some (boxAcc g t vs)) (j : Nat) (v : Value) : Held w0 (w.setCell ⟨g, j, Option.none⟩ v) Q s R Bd (L.set i (boxAcc g t (vs.set j v))) := by
  have ha := h.away _ (List.mem_of_getElem? hi) g rfl
  refine ⟨h.bank.boxSet i hi j v, h.keep _ _ _ (some g) h.q (grownBy_setCell w g j v) (fun e => ha.1 (Option.some.inj e)) (fun a e e2 => ha.2 a e (Option.some.inj e2)), h.keep, ⟨by simpa using h.lt.1, fun a e => by simpa using h.lt.2 a e⟩, h.base, fun p hp b hb => ?_⟩
  rcases List.mem_or_eq_of_mem_set hp with hp | rfl
  · exact h.away p hp b hb
  · have e : b = g := by simpa [boxAcc, Value.ownBlock] using hb.symm
    subst e
    exact ha
theorem Held.box (h : Held w0 w Q s R Bd L) (cs : Array Value) (t : TypeId) (hs : cs.size ≤ 1000000) : Held w0 (w.alloc (.cells cs t)) Q s R Bd (boxAcc w.heap.size t cs.toList :: L) := by
  have h1 := h.call ((Below.refl _ _).alloc (Nat.le_refl _) (.cells cs t))
  refine ⟨h.bank.box cs t hs, h1.q, h.keep, h1.lt, h.base, fun p hp b hb => ?_⟩
  rcases List.mem_cons.1 hp with rfl | hp
  · have e : b = w.heap.size := by simpa [boxAcc, Value.ownBlock] using hb.symm
    have h3 := h.lt.1
    exact ⟨by omega, fun a ea => by have := h.lt.2 a ea; omega⟩
  · exact h.away p hp b hb
/-- a reader that was just made -/
theorem Held.start {w1 : World} (hB : Bank w0 w1 L) (hq : Q w s) (hb : Below w1.heap.size w1 w) (hR : w1.heap.size ≤ R) (hRl : R < w.heap.size) (hBd : ∀ a, Bd = some a → w1.heap.size ≤ a.block ∧ a.block < w.heap.size)
    (keep : ∀ w w' s (row : Option Nat), Q w s → w.grownBy w' row → row ≠ some R → (∀ a, Bd = some a → row ≠ some a.block) → Q w' s) : Held w0 w Q s R Bd L :=
  ⟨hB.call hb, hq, keep, ⟨hRl, fun a e => (hBd a e).2⟩, Nat.le_trans hB.since.size hR, fun p hp b e => by
    have h1 := (hB.lt hp e).2
    exact ⟨by omega, fun a ea => by have := (hBd a ea).1; omega⟩⟩
end
end Go.Proofs.YtfpjmeknjhhakaaGreat.K

/- The contracts of barbicankit's markEntry, LentEntries. -/
namespace Go.Proofs.YtfpjmeknjhhakaaGreat.K
open Go Go.RowKit

theorem infoEntry : (Tryz.prog.info? 62).map (fun i => (i.zero, i.size, i.bytes)) = some (some (.agg #[.int .i64 0, .int .u8 0, .int .i64 0, .int .i64 0, .bool false, .slice none 0 0]), 6, 64) := by kernel_rfl
theorem own_fullE {w : World} {base : Nat} {e : TypeId} {g n es : Nat} {xs : List Value} (h : w.ownsRow base e es (.slice (some ⟨g, 0, none⟩) n n) n xs) : base ≤ g ∧ w.heap[g]? = some (.cells xs.toArray e (0, 0)) := by
  rcases h.2 with ⟨h1, _⟩ | ⟨g', cap, cur, hv, hb, hg, _, _, hs, ht⟩
  · simp at h1
  · simp only [Value.slice.injEq, Option.some.injEq, Addr.mk.injEq, and_true, true_and] at hv
    obtain ⟨rfl, rfl⟩ := hv
    refine ⟨hb, ?_⟩
    rw [hg, ← ht, List.take_of_length_le (by simp; omega)]
/-- the mark of a place, an entry's cells -/
def mEnt (k i : Int) : List Value := entL (markI k i) 0 0 0#8 false none 0 0
def zeroEL : List Value := entL 0 0 0 0#8 false none 0 0
theorem entL_oneL (t v s : Int) (K : BitVec 8) (G : Bool) (A : Option Addr) (n c : Nat) : ∀ u ∈ entL t v s K G A n c, u.oneCell' = true := by
  intro u hu
  simp only [entL, List.mem_cons, List.mem_nil_iff, or_false] at hu
  rcases hu with rfl | rfl | rfl | rfl | rfl | rfl <;> rfl
theorem load_ent (t v s : Int) (K : BitVec 8) (G : Bool) (A : Option Addr) (n c : Nat) {w : World} {g : Nat} (h : w.heap[g]? = some (.cells (entL t v s K G A n c).toArray 62 (0, 0))) : (loadVar 62 ⟨g, 0, none⟩).run Tryz.prog w = .ok (.agg (entL t v s K G A n c).toArray) w := by
  have x0 : w.cell? ⟨g, 0, none⟩ = some (.int .i64 t) := block_cell h rfl
  have x1 : w.cell? ⟨g, 1, none⟩ = some (B8 K) := block_cell h rfl
  have x2 : w.cell? ⟨g, 2, none⟩ = some (.int .i64 v) := block_cell h rfl
  have x3 : w.cell? ⟨g, 3, none⟩ = some (.int .i64 s) := block_cell h rfl
  have x4 : w.cell? ⟨g, 4, none⟩ = some (.bool G) := block_cell h rfl
  have x5 : w.cell? ⟨g, 5, none⟩ = some (.slice A n c) := block_cell h rfl
  simp [go_sem, x0, x1, x2, x3, x4, x5, entL]
set_option maxHeartbeats 4000000 in
set_option maxRecDepth 100000 in
theorem markEntry_any (k i : Int) (w : World) : Calls Tryz.prog 69 #[.int .i64 k, .int .i64 i] w fun e w' => e = .returned (.agg #[.int .i64 (markI k i), B8 0#8, .int .i64 0, .int .i64 0, .bool false, .slice none 0 0]) ∧ Since w w' := by
  have BK0 := Lib.hid ((Bank.nil (Below.refl w.heap.size w)).box zeroEL.toArray 62 (by decide))
  go_enter Tryz.func69, Tryz.ntmps69
  go_wp2_with fail
  generalize hw1 : w.alloc (.cells #[.int .i64 0, .int .u8 0, .int .i64 0, .int .i64 0, .bool false, .slice none 0 0] 62) = w1 at *
  have BK1 := Lib.hid (show Bank w w1 [boxAcc w.heap.size 62 zeroEL] from by rw [← hw1]; exact BK0.out)
  clear hw1 BK0
  refine (mark_any k i _).mono ?_
  rintro e w' ⟨rfl, rfl⟩
  have HRES := Lib.hid (BK1.out.boxAt 0 rfl).2
  have HS := Lib.hid (BK1.out.boxRow 0 rfl (mEnt k i) rfl (by decide)).since
  have hinf : (Tryz.prog.info? 62).map (·.size) = some (#[.int .i64 (markI k i), .int .u8 0, .int .i64 0, .int .i64 0, .bool false, .slice none 0 0] : Array Value).size := infoEntL (markI k i) 0 0 0#8 false none 0 0
  have hone : (#[.int .i64 (markI k i), .int .u8 0, .int .i64 0, .int .i64 0, .bool false, .slice none 0 0] : Array Value).all (·.oneCell') = true := entL_one (markI k i) 0 0 0#8 false none 0 0
  go_wp2_with (with_reducible refine wpList_store_row rfl 62 (.tmp 4) (.tmp 8) rfl w.heap.size #[.int .i64 (markI k i), .int .u8 0, .int .i64 0, .int .i64 0, .bool false, .slice none 0 0] rfl rfl 62 _ HRES.out hinf rfl hone ?_)
  refine bodyPost_ret (v := .agg (mEnt k i).toArray) ?_ ?_ ?_
  · exact results_cell_row rfl _ _ w.heap.size 62 _ (0, 0) _ rfl (setRow_heap _ _ _ _ _ _ HRES.out) Tryz.underlying62 rfl (infoEntL _ _ _ _ _ _ _ _)
  · rfl
  · exact ⟨rfl, HS.out⟩
/-- cells of a lent entry: its data lie at block d -/
def lentE (e : M.Ent) (d : Nat) : List Value := entL e.term e.version e.server e.kind e.good (some ⟨d, 0, none⟩) e.data.length (e.data.length + 12)
def lentEs (es : List M.Ent) (d : Nat → Nat) (k : Nat) : List Value := (List.range k).flatMap fun i => lentE (es.getD i M.zeroEnt) (d i)
def markEs (k : Nat) : List Value := (List.range k).flatMap fun (i : Nat) => mEnt 1 i
theorem lentEs_succ (es : List M.Ent) (d : Nat → Nat) (k : Nat) : lentEs es d (k + 1) = lentEs es d k ++ lentE (es.getD k M.zeroEnt) (d k) := by simp [lentEs, List.range_succ]
theorem markEs_succ (k : Nat) : markEs (k + 1) = markEs k ++ mEnt 1 k := by simp [markEs, List.range_succ]
theorem lentE_length (e : M.Ent) (d : Nat) : (lentE e d).length = 6 := rfl
theorem mEnt_length (k i : Int) : (mEnt k i).length = 6 := rfl
theorem lentEs_length (es : List M.Ent) (d : Nat → Nat) : ∀ k, (lentEs es d k).length = k * 6
  | 0 => rfl
  | k + 1 => by rw [lentEs_succ, List.length_append, lentEs_length es d k, lentE_length]; omega
theorem markEs_length : ∀ k, (markEs k).length = k * 6
  | 0 => rfl
  | k + 1 => by rw [markEs_succ, List.length_append, markEs_length k, mEnt_length]; omega
theorem lentEs_congr (es : List M.Ent) (d d' : Nat → Nat) (k : Nat) (h : ∀ j, j < k → d j = d' j) : lentEs es d k = lentEs es d' k := by
  induction k with
  | zero => rfl
  | succ k ih => rw [lentEs_succ, lentEs_succ, ih fun j hj => h j (by omega), h k (by omega)]
theorem cells_lit1 (w : World) (vs : List Value) (t : TypeId) : ∀ j u, vs[j]? = some u → (w.alloc (.cells vs.toArray t)).cell? ((⟨w.heap.size, 0, none⟩ : Addr).add j) = some u := fun j u hu => by
  rw [Addr.add_lit, Nat.zero_add]
  exact block_cell (heap_alloc_new w _) hu
theorem cells_litE2 (w : World) (o : Obj) (vs : List Value) (t : TypeId) : ∀ j u, vs[j]? = some u → ((w.alloc o).alloc (.cells vs.toArray t)).cell? ((⟨w.heap.size + 1, 0, none⟩ : Addr).add j) = some u := fun j u hu => by
  have h := cells_lit1 (w.alloc o) vs t j u hu
  rwa [World.size_alloc] at h
/-- the data of lent entries -/
def LentData (w0 w : World) (es : List M.Ent) (d : Nat → Nat) (k : Nat) : Prop := ∀ j, j < k → w0.heap.size < d j ∧ w.heap[d j]? = some (.cells (bv ((es.getD j M.zeroEnt).data ++ marks 1 0 12)).toArray 5 (0, 0))
theorem LentData.call {w0 w w' : World} {es : List M.Ent} {d : Nat → Nat} {k : Nat} (h : LentData w0 w es d k) (hs : Since w w') : LentData w0 w' es d k := fun j hj => ⟨(h j hj).1, Since.at hs (h j hj).2⟩
theorem LentData.grown {w0 w w' : World} {es : List M.Ent} {d : Nat → Nat} {k : Nat} (h : LentData w0 w es d k) (hg : w.grownBy w' (some w0.heap.size)) : LentData w0 w' es d k := fun j hj =>
  ⟨(h j hj).1, (hg.block _ (Array.getElem?_eq_some_iff.1 (h j hj).2).1 (fun e => by have := (h j hj).1; simp at e; omega)).trans (h j hj).2⟩
/-- an account of entries -/
def entAcc (g k c : Nat) (xs : List Value) : Acc := ⟨.slice (some ⟨g, 0, none⟩) k c, k, 62, 6, xs⟩
/-- lent entries -/
def LentEs (w : World) (n : Nat) (es : List M.Ent) (e : Ending) (w' : World) : Prop := ∃ g d, e = .returned (.slice (some ⟨g, 0, none⟩) n (n + 12)) ∧ w.heap.size ≤ g ∧ w'.heap[g]? = some (.cells (lentEs es d n ++ markEs 12).toArray 62 (0, 0)) ∧ (∀ j, j < n → w.heap.size ≤ d j ∧ w'.heap[d j]? = some (.cells (bv ((es.getD j M.zeroEnt).data ++ marks 1 0 12)).toArray 5 (0, 0))) ∧ Since w w'
set_option maxHeartbeats 8000000 in
set_option maxRecDepth 100000 in
theorem LentEntries_any (A : Option Addr) (n c : Nat) (es : List M.Ent) (w : World) (hl : es.length = n) (hE : EntsRd w A es) (hn : n ≤ 1000000) (hD : ∀ e ∈ es, e.data.length ≤ 140737488000000) :
    Calls Tryz.prog 33 #[.slice A n c] w (LentEs w n es) := by
  obtain ⟨i0, hi, hz0, hz1, hz2⟩ := info_parts infoEntry
  have HE := Lib.hid hE; have HL := Lib.hid hl; have HD := Lib.hid hD
  have BK0 := Lib.hid (Bank.nil (Below.refl w.heap.size w))
  clear hE hl hD
  go_enter Tryz.func33, Tryz.ntmps33
  go_wp2_with (at_make; refine wpList_make_own _ rfl _ _ 34 rfl w.heap.size 62 i0 _ 6 Tryz.underlying34 hi hz0 hz1 _ _ _ (n + 12) rfl rfl (by omega) (by rw [hz2]; omega) (by unfold maxLen; omega) (Nat.le_refl _) ?_; intro w1 hown1 hgrow1)
  have BK1 := Lib.hid (show Bank w w1 [entAcc w.heap.size 0 (n + 12) []] from ⟨(Below.refl _ _).grown hgrow1 (Nat.le_refl _) (by simp), fun p hp => by rw [List.mem_singleton.1 hp]; exact hown1, .cons (fun _ h => by cases h) .nil⟩)
  clear hown1 hgrow1 BK0
  go_loopw [3, 4] (fun v i wr => ∃ (k : Nat) (d : Nat → Nat), k ≤ n ∧ i = .int .i64 (k : Int) ∧ v = .slice (some ⟨w.heap.size, 0, none⟩) k (n + 12) ∧ Bank w wr [entAcc w.heap.size k (n + 12) (lentEs es d k)] ∧ LentData w wr es d k) (fun _ i _ => n - (intOf i).toNat)
  case atStart => exact ⟨0, fun _ => 0, by omega, rfl, rfl, BK1.out, fun _ h => absurd h (Nat.not_lt_zero _)⟩
  case round =>
    clear BK1
    obtain ⟨k, d, hk, rfl, rfl, hB, hLD⟩ := hrel
    have BK := Lib.hid hB; have LD := Lib.hid hLD
    clear hB hLD
    have k0 : (0 : Int) ≤ (k : Int) := by omega
    rcases Nat.lt_or_ge k n with h1 | h1
    · have i1 : (k : Int) < (n : Int) := by omega
      have hkl : k < es.length := by rw [HL.out]; exact h1
      obtain ⟨b, o, rfl, A', m', c2, ⟨y0, y1, y2, y3, y4, y5⟩, hrd⟩ := HE.out.since BK.out.since k hkl
      obtain ⟨x, hx⟩ : ∃ x, x = es[k] := ⟨_, rfl⟩
      rw [← hx] at y0 y1 y2 y3 y4 hrd
      have HXD := Lib.hid (show es.getD k M.zeroEnt = x by rw [hx]; simp [hkl])
      have HML := Lib.hid (show x.data.length = m' from hrd.len)
      have HMB := Lib.hid (show m' ≤ 140737488000000 by rw [← HML.out, hx]; exact HD.out _ (List.getElem_mem _))
      have HRD := Lib.hid hrd
      clear hx hrd
      go_wp2_with fail
      clear y0 y1 y2 y3 y4 y5
      refine (LentEntry_any x.term x.version x.server x.kind x.good A' m' c2 x.data wr HRD.out HMB.out).mono ?_
      rintro e w1 ⟨g, rfl, hg, hb, hs⟩
      have hGw := (BK.out.lt (List.mem_singleton.2 rfl) (p := entAcc w.heap.size k (n + 12) (lentEs es d k)) (b := w.heap.size) rfl).2
      have HG := Lib.hid (show w.heap.size < g by omega)
      have BK3 := Lib.hid (((BK.out.call hs).alloc (.cells #[.int .i64 x.term, B8 x.kind, .int .i64 x.version, .int .i64 x.server, .bool x.good, .slice (some ⟨g, 0, none⟩) m' (m' + 12)] 62)).alloc (.cells #[.int .i64 x.term, B8 x.kind, .int .i64 x.version, .int .i64 x.server, .bool x.good, .slice (some ⟨g, 0, none⟩) m' (m' + 12)] 62))
      have S3 := Lib.hid (tmBx (w := w1) (c := #[.int .i64 x.term, B8 x.kind, .int .i64 x.version, .int .i64 x.server, .bool x.good, .slice (some ⟨g, 0, none⟩) m' (m' + 12)]) (d := #[.int .i64 x.term, B8 x.kind, .int .i64 x.version, .int .i64 x.server, .bool x.good, .slice (some ⟨g, 0, none⟩) m' (m' + 12)]) (t := 62))
      have LD1 := Lib.hid (show LentData w w1 es (upd d k g) (k + 1) from fun j hj => by
        by_cases h : j = k
        · subst h
          rw [upd_same, HXD.out]
          exact ⟨HG.out, hb⟩
        · rw [upd_other _ _ _ h]
          exact (LD.out.call hs) j (by omega))
      have HCG := Lib.hid (lentEs_congr es (upd d k g) d k (fun j hj => upd_other _ _ _ (by omega)))
      clear hg hb hs hGw BK LD HRD
      go_wp2_with (at_builtin; refine wpList_append_fits _ rfl _ _ 34 rfl w.heap.size 62 i0 6 Tryz.underlying34 hi hz1 w.heap.size k (n + 12) (lentEs es d k) rfl (BK3.out.at 0 rfl) ⟨w1.heap.size + 1, 0, none⟩ 1 1 (entL x.term x.version x.server x.kind x.good (some ⟨g, 0, none⟩) m' (m' + 12)) rfl rfl (cells_litE2 w1 _ (entL x.term x.version x.server x.kind x.good (some ⟨g, 0, none⟩) m' (m' + 12)) _) (entL_oneL _ _ _ _ _ _ _ _) (by omega) ?_; intro w4 hown4 hgrow4; have HO4 := Lib.hid hown4; have HG4 := Lib.hid hgrow4; clear hown4 hgrow4)
      go_roundw
      case rel =>
        refine ⟨k + 1, upd d k g, by omega, by go_num, rfl, ?_, (LD1.out.call S3.out).grown HG4.out⟩
        rw [lentEs_succ, HCG.out, upd_same, HXD.out, show lentE x g = entL x.term x.version x.server x.kind x.good (some ⟨g, 0, none⟩) m' (m' + 12) by rw [lentE, HML.out]]
        exact BK3.out.put 0 rfl (p' := entAcc w.heap.size (k + 1) (n + 12) _) HO4.out HG4.out (.inl rfl)
      case measure => simp [intOf]; omega
    · have i1 : ¬ (k : Int) < (n : Int) := by omega
      obtain rfl : k = n := by omega
      go_wp2_with fail
      go_loopw [3, 6] (fun v i wr => ∃ q : Nat, q ≤ 12 ∧ i = .int .i64 (q : Int) ∧ v = .slice (some ⟨w.heap.size, 0, none⟩) (k + q) (k + 12) ∧ Bank w wr [entAcc w.heap.size (k + q) (k + 12) (lentEs es d k ++ markEs q)] ∧ LentData w wr es d k) (fun _ i _ => 12 - (intOf i).toNat)
      case atStart => exact ⟨0, by omega, rfl, rfl, by have h := BK.out; simpa [markEs] using h, LD.out⟩
      case round =>
        clear BK LD
        obtain ⟨q, hq, rfl, rfl, hB, hLD⟩ := hrel
        have BK := Lib.hid hB; have LD := Lib.hid hLD
        clear hB hLD
        have q0 : (0 : Int) ≤ (q : Int) := by omega
        rcases Nat.lt_or_ge q 12 with h2 | h2
        · have i2 : (q : Int) < 12 := by omega
          go_wp2_with fail
          refine (markEntry_any 1 (q : Int) wr).mono ?_
          rintro e w1 ⟨rfl, hs⟩
          have BK3 := Lib.hid ((BK.out.call hs).alloc (.cells (mEnt 1 (q : Int)).toArray 62))
          have LD3 := Lib.hid ((LD.out.call hs).call (Since.alloc (Below.refl _ _) (.cells (mEnt 1 (q : Int)).toArray 62)))
          clear hs BK LD
          go_wp2_with (at_builtin; refine wpList_append_fits _ rfl _ _ 34 rfl w.heap.size 62 i0 6 Tryz.underlying34 hi hz1 w.heap.size (k + q) (k + 12) (lentEs es d k ++ markEs q) rfl (BK3.out.at 0 rfl) ⟨w1.heap.size, 0, none⟩ 1 1 (mEnt 1 (q : Int)) rfl rfl (cells_lit1 w1 (mEnt 1 (q : Int)) _) (entL_oneL _ _ _ _ _ _ _ _) (by omega) ?_; intro w4 hown4 hgrow4; have HO4 := Lib.hid hown4; have HG4 := Lib.hid hgrow4; clear hown4 hgrow4)
          go_roundw
          case rel =>
            refine ⟨q + 1, by omega, by go_num, by rw [Nat.add_assoc], ?_, LD3.out.grown HG4.out⟩
            rw [markEs_succ, ← List.append_assoc, ← Nat.add_assoc]
            exact BK3.out.put 0 rfl (p' := entAcc w.heap.size (k + q + 1) (k + 12) _) HO4.out HG4.out (.inl rfl)
          case measure => simp [intOf]; omega
        · have i2 : ¬ (q : Int) < 12 := by omega
          obtain rfl : q = 12 := by omega
          have hf := own_fullE (BK.out.at 0 rfl)
          have HFIN := Lib.hid (show LentEs w k es (.returned (.slice (some ⟨w.heap.size, 0, none⟩) k (k + 12))) wr from ⟨_, d, rfl, Nat.le_refl _, hf.2, fun j hj => ⟨Nat.le_of_lt (LD.out j hj).1, (LD.out j hj).2⟩, BK.out.since⟩)
          clear hf
          go_wp2
          go_ret
          exact HFIN.out
end Go.Proofs.YtfpjmeknjhhakaaGreat.K

/- The contract of the program's rest.take: bytes are taken, or it panics. -/
namespace Go.Proofs.YtfpjmeknjhhakaaGreat.K
open Go Go.RowKit

def readP (A : Option Addr) (n c : Nat) (made bad : Bool) : List Value := [.slice A n c, .bool made, .bool bad]
/-- the block P is a reader of the program's whose left bytes are l -/
structure PrgR (w : World) (P : Nat) (l : List (BitVec 8)) (A : Option Addr) (n c : Nat) (made bad : Bool) : Prop where
  blk : ∃ t, w.heap[P]? = some (.cells (readP A n c made bad).toArray t (0, 0))
  rd : Rd w A l
  len : l.length = n
  none : A = Option.none → c = 0
  n_le : n ≤ 1000000000000
  cap : n ≤ c ∧ c ≤ 9223372036854775807
  ne : ∀ a, A = some a → a.block ≠ P
  form : ∀ a, A = some a → ∃ g o, a = ⟨g, o, Option.none⟩
theorem PrgR.cell {w : World} {P : Nat} {l : List (BitVec 8)} {A : Option Addr} {n c : Nat} {made bad : Bool} (h : PrgR w P l A n c made bad) {i : Nat} {v : Value} (hv : (readP A n c made bad)[i]? = some v) : w.cell? ⟨P, i, Option.none⟩ = some v := by
  obtain ⟨t, hb⟩ := h.blk
  exact block_cell hb hv
theorem PrgR.free {w : World} {P : Nat} {l : List (BitVec 8)} {A : Option Addr} {n c : Nat} {made bad : Bool} (h : PrgR w P l A n c made bad) (i : Nat) : w.frozen? ⟨P, i, Option.none⟩ = false := by
  obtain ⟨t, hb⟩ := h.blk
  exact frozen_of_row w P i _ t hb
theorem Rd.setCellP {w : World} {A : Option Addr} {l : List (BitVec 8)} (h : Rd w A l) {b i : Nat} (hb : ∀ a, A = some a → a.block ≠ b) (v : Value) : Rd (w.setCell ⟨b, i, none⟩ v) A l := fun k hk => by
  obtain ⟨g', o, e, hc⟩ := h k hk
  exact ⟨g', o, e, by rw [cell_setCell_ne _ (hb _ e)]; exact hc⟩
/-- what a panic bears -/
def shortP : List PanicEntry := [{ v := .iface 153 (.agg #[]), recovered := false }]

set_option maxHeartbeats 1000000 in
theorem take_bad (P : Nat) (l : List (BitVec 8)) (A : Option Addr) (n c : Nat) (made bad : Bool) (k : Int) (w : World) (h : PrgR w P l A n c made bad) (hk : k < 0 ∨ (n : Int) < k) :
    Calls Tryz.prog 114 #[.pointer (some ⟨P, 0, none⟩), .int .i64 k] w fun e w' => e = .panicked shortP ∧ w = w' := by
  have c0 : w.cell? ⟨P, 0, none⟩ = some (.slice A n c) := h.cell rfl
  clear h
  rcases hk with hk | hk
  · have d1 : decide (k < 0) = true := by simpa using hk
    go_enter Tryz.func114, Tryz.ntmps114
    go_wp2
    exact ⟨rfl, rfl, rfl⟩
  · have p1 : ¬ k < 0 := by omega
    have d1 : decide (k < 0) = false := by simpa using p1
    have d2 : decide ((n : Int) < k) = true := by simpa using hk
    go_enter Tryz.func114, Tryz.ntmps114
    go_wp2
    exact ⟨rfl, rfl, rfl⟩

/-- bytes were taken -/
def TakeOk (w : World) (P : Nat) (l : List (BitVec 8)) (A : Option Addr) (n c : Nat) (made bad : Bool) (k : Nat) (e : Ending) (w' : World) : Prop :=
  e = .returned (.slice A k c) ∧ (∃ A', PrgR w' P (l.drop k) A' (n - k) (c - k) made bad ∧ ∀ a', A' = some a' → ∃ a, A = some a ∧ a'.block = a.block) ∧ w.grownBy w' (some P) ∧ Rd w' A (l.take k)
theorem take_post {w : World} {P : Nat} {l : List (BitVec 8)} {A A' : Option Addr} {n c : Nat} {made bad : Bool} (h : PrgR w P l A n c made bad) {k : Nat} (hk : k ≤ n)
    (hA : (c = k ∧ A' = A) ∨ ∃ g o, A = some ⟨g, o, none⟩ ∧ A' = some ⟨g, o + k, none⟩) : TakeOk w P l A n c made bad k (.returned (.slice A k c)) (w.setCell ⟨P, 0, none⟩ (.slice A' (n - k) (c - k))) := by
  obtain ⟨t, hb⟩ := h.blk
  have hlen := h.len
  have hne' : ∀ a', A' = some a' → a'.block ≠ P := by
    intro a' e
    rcases hA with ⟨_, rfl⟩ | ⟨g, o, h1, h2⟩
    · exact h.ne a' e
    · rw [h2] at e; cases e
      exact h.ne ⟨g, o, none⟩ h1
  have hrd : Rd w A' (l.drop k) := by
    intro i hi
    have hi2 : k + i < l.length := by rw [List.length_drop] at hi; omega
    rcases hA with ⟨hc, rfl⟩ | ⟨g, o, h1, h2⟩
    · have := h.cap.1; omega
    · obtain ⟨b, o', e, hc⟩ := h.rd (k + i) hi2
      rw [h1] at e; cases e
      exact ⟨g, o + k, h2, by rw [Nat.add_assoc, hc]; simp⟩
  refine ⟨rfl, ⟨A', ⟨⟨t, block_set hb 0 _⟩, hrd.setCellP hne' _, by rw [List.length_drop]; omega, fun e => ?_, by have := h.n_le; omega, ⟨by have := h.cap; omega, by have := h.cap; omega⟩, hne', fun a e => ?_⟩, fun a' e => ?_⟩, grownBy_setCell w P 0 _, Rd.setCellP (fun i hi => ?_) h.ne _⟩
  · rcases hA with ⟨hc, _⟩ | ⟨g, o, _, h2⟩
    · omega
    · rw [h2] at e; cases e
  · rcases hA with ⟨_, rfl⟩ | ⟨g, o, _, h2⟩
    · exact h.form a e
    · rw [h2] at e; cases e; exact ⟨_, _, rfl⟩
  · rcases hA with ⟨_, rfl⟩ | ⟨g, o, h1, h2⟩
    · exact ⟨a', e, rfl⟩
    · rw [h2] at e; cases e; exact ⟨_, h1, rfl⟩
  · have hi2 : i < l.length := by rw [List.length_take] at hi; omega
    obtain ⟨b, o', e, hc⟩ := h.rd i hi2
    exact ⟨b, o', e, by rw [hc]; simp⟩

set_option maxHeartbeats 1000000 in
theorem take_ok (P : Nat) (l : List (BitVec 8)) (A : Option Addr) (n c : Nat) (made bad : Bool) (k : Nat) (w : World) (h : PrgR w P l A n c made bad) (hk : k ≤ n) :
    Calls Tryz.prog 114 #[.pointer (some ⟨P, 0, none⟩), .int .i64 (k : Int)] w (TakeOk w P l A n c made bad k) := by
  have c0 : w.cell? ⟨P, 0, none⟩ = some (.slice A n c) := h.cell rfl
  have f0 := h.free 0
  have hcap := h.cap
  have hnl := h.n_le
  have p1 : ¬ (k : Int) < 0 := by omega
  have p2 : ¬ (n : Int) < (k : Int) := by omega
  have p3 : (k : Int) ≤ (c : Int) := by omega
  have p4 : (k : Int) ≤ (n : Int) := by omega
  have p0 : (0 : Int) ≤ (k : Int) := by omega
  have H := Lib.hid h
  clear h
  by_cases hck : c = k
  · have hp := take_post H.out hk (A' := A) (.inl ⟨hck, rfl⟩)
    have hnk : n = k := by omega
    subst hnk
    subst hck
    simp only [Nat.sub_self] at hp
    have HP := Lib.hid hp
    clear hp
    go_enter Tryz.func114, Tryz.ntmps114
    go_wp2
    go_ret
    exact HP.out
  · obtain ⟨ad, rfl⟩ : ∃ ad, A = some ad := by
      cases A with
      | some ad => exact ⟨ad, rfl⟩
      | none => have h1 := H.out.none rfl; omega
    obtain ⟨g, o, rfl⟩ := H.out.form ad rfl
    have hp := take_post H.out hk (A' := some ⟨g, o + k, none⟩) (.inr ⟨g, o, rfl, rfl⟩)
    have HP := Lib.hid hp
    clear hp
    go_enter Tryz.func114, Tryz.ntmps114
    go_wp2
    go_ret
    exact HP.out

/-- a number was read -/
def NumOk (w : World) (P : Nat) (l : List (BitVec 8)) (A : Option Addr) (n c : Nat) (made bad : Bool) (e : Ending) (w' : World) : Prop :=
  e = .returned (.int .i64 (M.val (l.take 8))) ∧ (∃ A', PrgR w' P (l.drop 8) A' (n - 8) (c - 8) made bad ∧ ∀ a', A' = some a' → ∃ a, A = some a ∧ a'.block = a.block) ∧ w.grownBy w' (some P)
theorem PrgR.drewN {w : World} {P : Nat} {l : List (BitVec 8)} {A : Option Addr} {n c : Nat} {made bad : Bool} (h : PrgR w P l A n c made bad) (q : Nat) : PrgR (w.drewN q) P l A n c made bad :=
  ⟨h.blk, h.rd, h.len, h.none, h.n_le, h.cap, h.ne, h.form⟩
theorem conv_W64_int' {P : Program} (w : World) (src dst : TypeId) (x : BitVec 64) (hs : P.underlying src = some (.int .u64)) (hd : P.underlying dst = some (.int .i64)) : (convert src dst (W64 x)).run P w = .ok (.int .i64 x.toInt) w := by
  have h : IntKind.i64.wrap (x.toNat : Int) = x.toInt := by
    rw [BitVec.toInt_eq_toNat_bmod]
    simp [IntKind.wrap, IntKind.bits, IntKind.signed, Int.bmod]
    split <;> split <;> omega
  simp [convert, run_underlying hs, run_underlying hd, Conv.intToInt, W64, h]

set_option maxHeartbeats 1000000 in
theorem pnum_bad (P : Nat) (l : List (BitVec 8)) (A : Option Addr) (n c : Nat) (made bad : Bool) (w : World) (h : PrgR w P l A n c made bad) (hn : n < 8) :
    Calls Tryz.prog 102 #[.pointer (some ⟨P, 0, none⟩)] w fun e w' => e = .panicked shortP ∧ w = w' := by
  have H := Lib.hid h
  clear h
  go_enter Tryz.func102, Tryz.ntmps102
  go_wp2_with fail
  refine (take_bad P l A n c made bad 8 w H.out (by omega)).mono ?_
  rintro e w' ⟨rfl, rfl⟩
  go_wp2
  exact ⟨rfl, rfl, rfl⟩

set_option maxHeartbeats 1000000 in
theorem pnum_ok (P : Nat) (l : List (BitVec 8)) (A : Option Addr) (n c : Nat) (made bad : Bool) (w : World) (h : PrgR w P l A n c made bad) (hn : 8 ≤ n) :
    Calls Tryz.prog 102 #[.pointer (some ⟨P, 0, none⟩)] w (NumOk w P l A n c made bad) := by
  have hlen := h.len
  have H := Lib.hid h; have HLEN := Lib.hid hlen
  clear h hlen
  go_enter Tryz.func102, Tryz.ntmps102
  go_wp2_with fail
  refine (take_ok P l A n c made bad 8 w H.out hn).mono ?_
  rintro e w1 ⟨rfl, ⟨A', hpr, hA'⟩, hg, hrd⟩
  have hl8 : (l.take 8).length = 8 := by have := HLEN.out; rw [List.length_take]; omega
  obtain ⟨b, o, rfl, _, hD⟩ := hrd.lay (by omega)
  rw [hl8] at hD
  have HPR := Lib.hid hpr; have HG := Lib.hid hg; have HD := Lib.hid hD; have HL8 := Lib.hid hl8; have HA := Lib.hid hA'
  clear hpr hg hrd hD hl8 hA'
  go_wp2
  go_loopw [3, 5, 9] (fun v _ i wr => ∃ k : Nat, k ≤ 8 ∧ i = .int .i64 (k : Int) ∧ v = W64 (M.w64 ((l.take 8).take k)) ∧ w1 = wr) (fun _ _ i _ => 8 - (intOf i).toNat)
  case atStart => exact ⟨0, by omega, rfl, rfl, rfl⟩
  case round =>
    obtain ⟨k, hk, rfl, rfl, rfl⟩ := hrel
    have k0 : (0 : Int) ≤ (k : Int) := by omega
    rcases Nat.lt_or_ge k 8 with h9 | h9
    · have k1 : (k : Int) < 8 := by omega
      have cx : w1.cell? ⟨b, o + k, none⟩ = some (B8 ((l.take 8).getD k 0)) := HD.out k h9
      go_wp2
      go_roundw
      case rel =>
        refine ⟨k + 1, by omega, by go_num, ?_, by trivial⟩
        have hl := HL8.out
        have hk' : k < (l.take 8).length := by rw [hl]; exact h9
        rw [show (l.take 8).take (k + 1) = (l.take 8).take k ++ [(l.take 8)[k]] from List.take_succ_eq_append_getElem hk', M.w64_snoc, ← M.shift_or]
        have hk2 : k < l.length := by have := HLEN.out; omega
        congr 2
        simp [hk2]
      case measure => simp [intOf]; omega
    · have hk8 : k = 8 := by omega
      have k1 : ¬ (k : Int) < 8 := by omega
      have hcv := fun w => conv_W64_int' (P := Tryz.prog) w 132 3 (M.w64 ((l.take 8).take k)) Tryz.underlying132 Tryz.underlying3
      have HK8 := Lib.hid hk8
      clear hk8
      go_wp2
      go_ret
      refine ⟨?_, ⟨A', HPR.out, HA.out⟩, HG.out⟩
      have e : M.val (l.take 8) = (M.w64 ((l.take 8).take k)).toInt := by rw [HK8.out, List.take_take]; rfl
      rw [e]; rfl
end Go.Proofs.YtfpjmeknjhhakaaGreat.K

/- The contracts of the program's rest.small and rest.bytes: they read, or panic. -/
namespace Go.Proofs.YtfpjmeknjhhakaaGreat.K
open Go Go.RowKit

/-- it panicked, and the reader is one still -/
def PBad (w : World) (P : Nat) (made bad : Bool) (e : Ending) (w' : World) : Prop :=
  e = .panicked shortP ∧ (∃ l A n c, PrgR w' P l A n c made bad) ∧ w.grownBy w' (some P)
theorem grown_refl (w : World) (row : Option Nat) : w.grownBy w row := ⟨rfl, rfl, rfl, Nat.le_refl _, fun _ _ _ => rfl⟩
theorem grown_trans' {w w1 w2 : World} {row : Option Nat} (h : w.grownBy w1 row) (h' : w1.grownBy w2 row) : w.grownBy w2 row :=
  ⟨h'.os.trans h.os, h'.tape.trans h.tape, h'.output.trans h.output, Nat.le_trans h.size h'.size, fun k hk hne => (h'.block k (Nat.lt_of_lt_of_le hk h.size) hne).trans (h.block k hk hne)⟩
theorem pnum_bad' (P : Nat) (l : List (BitVec 8)) (A : Option Addr) (n c : Nat) (made bad : Bool) (w : World) (h : PrgR w P l A n c made bad) (hn : n < 8) :
    Calls Tryz.prog 102 #[.pointer (some ⟨P, 0, none⟩)] w (PBad w P made bad) :=
  (pnum_bad P l A n c made bad w h hn).mono fun e w' ⟨he, hw⟩ => by subst hw; exact ⟨he, ⟨l, A, n, c, h⟩, grown_refl _ _⟩

set_option maxHeartbeats 1000000 in
theorem small_ok (P : Nat) (l : List (BitVec 8)) (A : Option Addr) (n c : Nat) (made bad : Bool) (most : Int) (w : World) (h : PrgR w P l A n c made bad) (hn : 8 ≤ n) (h0 : 0 ≤ M.val (l.take 8)) (h1 : M.val (l.take 8) ≤ most) :
    Calls Tryz.prog 103 #[.pointer (some ⟨P, 0, none⟩), .int .i64 most] w (NumOk w P l A n c made bad) := by
  obtain ⟨v, hv⟩ : ∃ v, v = M.val (l.take 8) := ⟨_, rfl⟩
  rw [← hv] at h0 h1
  have g0 : ¬ v < 0 := by omega
  have g1 : ¬ most < v := by omega
  have H := Lib.hid h; have HV := Lib.hid hv
  clear h hv
  go_enter Tryz.func103, Tryz.ntmps103
  go_wp2_with fail
  refine (pnum_ok P l A n c made bad w H.out hn).mono ?_
  rintro e w1 ⟨rfl, hp, hg⟩
  rw [← HV.out]
  have HP := Lib.hid hp; have HG := Lib.hid hg
  clear hp hg
  go_wp2
  go_ret
  exact ⟨by rw [← HV.out]; rfl, HP.out, HG.out⟩
set_option maxHeartbeats 1000000 in
theorem small_bad (P : Nat) (l : List (BitVec 8)) (A : Option Addr) (n c : Nat) (made bad : Bool) (most : Int) (w : World) (h : PrgR w P l A n c made bad) (hb : n < 8 ∨ (8 ≤ n ∧ (M.val (l.take 8) < 0 ∨ most < M.val (l.take 8)))) :
    Calls Tryz.prog 103 #[.pointer (some ⟨P, 0, none⟩), .int .i64 most] w (PBad w P made bad) := by
  have H := Lib.hid h
  clear h
  rcases hb with hn | ⟨hn, hb⟩
  · go_enter Tryz.func103, Tryz.ntmps103
    go_wp2_with fail
    refine (pnum_bad' P l A n c made bad w H.out hn).mono ?_
    rintro e w1 ⟨rfl, hp, hg⟩
    have HP := Lib.hid hp; have HG := Lib.hid hg
    clear hp hg
    go_wp2
    exact ⟨rfl, rfl, HP.out, HG.out⟩
  · obtain ⟨v, hv⟩ : ∃ v, v = M.val (l.take 8) := ⟨_, rfl⟩
    rw [← hv] at hb
    have HV := Lib.hid hv
    clear hv
    rcases hb with hb | hb
    · have d1 : decide (v < 0) = true := by simpa using hb
      go_enter Tryz.func103, Tryz.ntmps103
      go_wp2_with fail
      refine (pnum_ok P l A n c made bad w H.out hn).mono ?_
      rintro e w1 ⟨rfl, ⟨A', hp, _⟩, hg⟩
      rw [← HV.out]
      have HP := Lib.hid hp; have HG := Lib.hid hg
      clear hp hg
      go_wp2
      exact ⟨rfl, rfl, ⟨_, _, _, _, HP.out⟩, HG.out⟩
    · by_cases hv0 : v < 0
      · have d1 : decide (v < 0) = true := by simpa using hv0
        go_enter Tryz.func103, Tryz.ntmps103
        go_wp2_with fail
        refine (pnum_ok P l A n c made bad w H.out hn).mono ?_
        rintro e w1 ⟨rfl, ⟨A', hp, _⟩, hg⟩
        rw [← HV.out]
        have HP := Lib.hid hp; have HG := Lib.hid hg
        clear hp hg
        go_wp2
        exact ⟨rfl, rfl, ⟨_, _, _, _, HP.out⟩, HG.out⟩
      · have d1 : decide (v < 0) = false := by simpa using hv0
        have d2 : decide (most < v) = true := by simpa using hb
        go_enter Tryz.func103, Tryz.ntmps103
        go_wp2_with fail
        refine (pnum_ok P l A n c made bad w H.out hn).mono ?_
        rintro e w1 ⟨rfl, ⟨A', hp, _⟩, hg⟩
        rw [← HV.out]
        have HP := Lib.hid hp; have HG := Lib.hid hg
        clear hp hg
        go_wp2
        exact ⟨rfl, rfl, ⟨_, _, _, _, HP.out⟩, HG.out⟩

/-- bytes were read -/
def BytOk (w : World) (P : Nat) (l : List (BitVec 8)) (A : Option Addr) (made bad : Bool) (e : Ending) (w' : World) : Prop :=
  ∃ B m c' A' n2 c2 l', e = .returned (.slice B m c') ∧ w'.ownsRow w.heap.size 5 1 (.slice B m c') m (bv (M.rdBytes (some l)).1) ∧ (M.rdBytes (some l)).2 = some l' ∧ PrgR w' P l' A' n2 c2 made bad ∧ (∀ a', A' = some a' → ∃ a, A = some a ∧ a'.block = a.block) ∧ w.grownBy w' (some P)
theorem PrgR.grown {w w' : World} {P : Nat} {l : List (BitVec 8)} {A : Option Addr} {n c : Nat} {made bad : Bool} (h : PrgR w P l A n c made bad) {row : Option Nat} (hg : w.grownBy w' row) (hR : row ≠ some P) (hA : ∀ a, A = some a → row ≠ some a.block) : PrgR w' P l A n c made bad := by
  obtain ⟨t, hb⟩ := h.blk
  refine ⟨⟨t, (hg.block P (Array.getElem?_eq_some_iff.1 hb).1 (Ne.symm hR)).trans hb⟩, fun k hk => ?_, h.len, h.none, h.n_le, h.cap, h.ne, h.form⟩
  obtain ⟨b, o, e, hc⟩ := h.rd k hk
  exact ⟨b, o, e, hg.cell hc (Ne.symm (hA ⟨b, o, Option.none⟩ e))⟩

set_option maxHeartbeats 1000000 in
theorem bytes_bad (P : Nat) (l : List (BitVec 8)) (A : Option Addr) (n c : Nat) (made bad : Bool) (w : World) (h : PrgR w P l A n c made bad) (hb : (M.rdBytes (some l)).2 = none) :
    Calls Tryz.prog 104 #[.pointer (some ⟨P, 0, none⟩)] w (PBad w P made bad) := by
  have hlen := h.len
  have hga := World.grownBy_alloc w (.cells #[] 5)
  have h0 := h.grown (hga none) (by simp) (fun _ _ => by simp)
  have H0 := Lib.hid h0; have HGA := Lib.hid (hga (some P))
  clear h h0 hga
  rcases Nat.lt_or_ge n 8 with h8 | h8
  · go_enter Tryz.func104, Tryz.ntmps104
    go_wp2_with fail
    refine (pnum_bad' P l A n c made bad _ H0.out h8).mono ?_
    rintro e w1 ⟨rfl, hp, hg⟩
    have HP := Lib.hid hp; have HG := Lib.hid (grown_trans' HGA.out hg)
    clear hp hg
    go_wp2
    exact ⟨rfl, rfl, HP.out, HG.out⟩
  · have hv : M.val (l.take 8) < 0 ∨ ((n - 8 : Nat) : Int) < M.val (l.take 8) := by
      simp only [M.rdBytes, M.rdNumber] at hb
      rw [if_neg (by omega)] at hb
      simp only at hb
      split at hb
      · rename_i h'; rw [List.length_drop, hlen] at h'; exact h'
      · cases hb
    obtain ⟨v, hvv⟩ : ∃ v, v = M.val (l.take 8) := ⟨_, rfl⟩
    rw [← hvv] at hv
    have HV := Lib.hid hvv
    clear hvv hb hlen
    go_enter Tryz.func104, Tryz.ntmps104
    go_wp2_with fail
    refine (pnum_ok P l A n c made bad _ H0.out h8).mono ?_
    rintro e w1 ⟨rfl, ⟨A', hp, _⟩, hg⟩
    rw [← HV.out]
    have HP := Lib.hid hp; have HG := Lib.hid (grown_trans' HGA.out hg)
    clear hp hg
    go_wp2_with fail
    refine (take_bad P (l.drop 8) A' (n - 8) (c - 8) made bad v w1 HP.out hv).mono ?_
    rintro e w2 ⟨rfl, rfl⟩
    go_wp2
    exact ⟨rfl, rfl, ⟨_, _, _, _, HP.out⟩, HG.out⟩

theorem grown_more {w w2 w3 : World} {P X : Nat} (h : w.grownBy w2 (some P)) (h' : w2.grownBy w3 (some X)) (hX : w.heap.size ≤ X) : w.grownBy w3 (some P) :=
  ⟨h'.os.trans h.os, h'.tape.trans h.tape, h'.output.trans h.output, Nat.le_trans h.size h'.size, fun k hk hne => (h'.block k (Nat.lt_of_lt_of_le hk h.size) (by simp; omega)).trans (h.block k hk hne)⟩
theorem PrgR.lt {w : World} {P : Nat} {l : List (BitVec 8)} {A : Option Addr} {n c : Nat} {made bad : Bool} (h : PrgR w P l A n c made bad) : P < w.heap.size := by
  obtain ⟨t, hb⟩ := h.blk
  exact (Array.getElem?_eq_some_iff.1 hb).1

theorem away {w : World} {A0 A1 A2 : Option Addr} (h0 : ∀ a, A0 = some a → a.block < w.heap.size) (h1 : ∀ a', A1 = some a' → ∃ a, A0 = some a ∧ a'.block = a.block) (h2 : ∀ a', A2 = some a' → ∃ a, A1 = some a ∧ a'.block = a.block) : ∀ a, A2 = some a → some w.heap.size ≠ some a.block := by
  intro a e
  obtain ⟨a1, e1, g1⟩ := h2 a e
  obtain ⟨a0, e0, g0⟩ := h1 a1 e1
  have := h0 a0 e0
  simp; omega
set_option maxHeartbeats 1000000 in
set_option maxRecDepth 100000 in
theorem bytes_ok (P : Nat) (l : List (BitVec 8)) (A : Option Addr) (n c : Nat) (made bad : Bool) (w : World) (l' : List (BitVec 8)) (h : PrgR w P l A n c made bad) (hAB : ∀ a, A = some a → a.block < w.heap.size) (hb : (M.rdBytes (some l)).2 = some l') :
    Calls Tryz.prog 104 #[.pointer (some ⟨P, 0, none⟩)] w (BytOk w P l A made bad) := by
  obtain ⟨i0, hi, hz0, hz1, hz2⟩ := info_parts infoByte
  have hlen := h.len
  have hnl := h.n_le
  have hPl := h.lt
  have hga := World.grownBy_alloc w (.cells #[] 5)
  have h0 := h.grown (hga none) (by simp) (fun _ _ => by simp)
  have hrow := own_lit0 (w := w) (base := w.heap.size) (e := 5) (Nat.le_refl _)
  have hv : 8 ≤ n ∧ 0 ≤ M.val (l.take 8) ∧ M.val (l.take 8) ≤ ((n - 8 : Nat) : Int) ∧ M.rdBytes (some l) = ((l.drop 8).take (M.val (l.take 8)).toNat, some ((l.drop 8).drop (M.val (l.take 8)).toNat)) := by
    simp only [M.rdBytes, M.rdNumber] at hb ⊢
    by_cases h8 : l.length < 8
    · rw [if_pos h8] at hb; cases hb
    · rw [if_neg h8] at hb ⊢
      simp only at hb ⊢
      by_cases hc : M.val (l.take 8) < 0 ∨ ((l.drop 8).length : Int) < M.val (l.take 8)
      · rw [if_pos hc] at hb; cases hb
      · rw [if_neg hc]
        rw [List.length_drop, hlen] at hc
        exact ⟨by omega, by omega, by omega, rfl⟩
  obtain ⟨h8, hv0, hv1, hrb⟩ := hv
  obtain ⟨m, hm⟩ : ∃ m : Nat, M.val (l.take 8) = (m : Int) := ⟨(M.val (l.take 8)).toNat, by omega⟩
  rw [hm] at hrb hv1
  rw [Int.toNat_natCast] at hrb
  have hm1 : m ≤ n - 8 := by omega
  have HRB := Lib.hid hrb; have H0 := Lib.hid h0; have HGA := Lib.hid (hga (some P)); have HROW := Lib.hid hrow; have HM := Lib.hid hm; have HAB := Lib.hid hAB; have HLEN := Lib.hid hlen
  clear h h0 hga hrow hb hrb hm hv0 hv1 hAB hlen
  go_enter Tryz.func104, Tryz.ntmps104
  go_wp2_with fail
  refine (pnum_ok P l A n c made bad _ H0.out h8).mono ?_
  rintro e w1 ⟨rfl, ⟨A1, hp, hA1⟩, hg⟩
  rw [HM.out]
  have HP := Lib.hid hp; have HG := Lib.hid (grown_trans' HGA.out hg); have HA1 := Lib.hid hA1
  have HROW1 := Lib.hid (World.ownsRow.kept HROW.out hg (.inr (by simp [Value.ownBlock]; omega)))
  clear hp hg hA1 HROW
  go_wp2_with fail
  refine (take_ok P (l.drop 8) A1 (n - 8) (c - 8) made bad m w1 HP.out hm1).mono ?_
  rintro e w2 ⟨rfl, ⟨A2, hp2, hA2⟩, hg2, hrd2⟩
  have hcs := hrd2.cells
  have hlm : ((l.drop 8).take m).length = m := by have := HLEN.out; rw [List.length_take, List.length_drop]; omega
  have hl2 : (bv ((l.drop 8).take m)).length = m * 1 := by rw [bv_length, hlm]; omega
  have hnn : A1 = none → m = 0 ∧ c - 8 = 0 := fun e => ⟨by
    rw [e] at hrd2
    rw [hrd2.empty] at hlm; exact hlm.symm, HP.out.none e⟩
  have hs2 : w.heap.size ≤ w2.heap.size := Nat.le_trans HG.out.size hg2.size
  have HP2 := Lib.hid hp2; have HG2 := Lib.hid (grown_trans' HG.out hg2); have HA2 := Lib.hid hA2; have HCS := Lib.hid hcs; have HL2 := Lib.hid hl2; have HNN := Lib.hid hnn
  have HROW2 := Lib.hid (World.ownsRow.kept HROW1.out hg2 (.inr (by simp [Value.ownBlock]; omega)))
  clear hp2 hg2 hA2 hrd2 hcs hlm hl2 hnn HROW1 HP HG
  go_wp2_with (at_builtin; refine wpList_append_any _ rfl _ _ 37 rfl w.heap.size 5 i0 (.int .u8 0) 1 1 Tryz.underlying37 hi hz0 hz1 hz2 rfl (by decide) _ 0 (bv []) rfl HROW2.out A1 m (c - 8) (bv ((l.drop 8).take m)) rfl HNN.out HL2.out HCS.out (bv_one _) (by unfold maxLen; omega) (by omega) hs2 ?_; intro v3 w3 hown3 hgrow3; rw [← bv_append, List.nil_append, Nat.zero_add] at hown3; obtain ⟨B3, d3, rfl⟩ := row_slice hown3; have hgrow4 : w2.grownBy w3 (some w.heap.size) := hgrow3; have HG3 := Lib.hid (grown_more HG2.out hgrow4 (Nat.le_refl _)); have HP3 := Lib.hid (HP2.out.grown hgrow4 (fun e => by (cases e; omega)) (away HAB.out HA1.out HA2.out)); have HO3 := Lib.hid hown3; clear hown3 hgrow3 hgrow4)
  go_ret
  refine ⟨B3, m, d3, A2, _, _, (l.drop 8).drop m, rfl, by rw [HRB.out]; exact HO3.out, by rw [HRB.out], HP3.out, fun a e => ?_, HG3.out⟩
  obtain ⟨a1, e1, h1⟩ := HA2.out a e
  obtain ⟨a0, e0, h0⟩ := HA1.out a1 e1
  exact ⟨a0, e0, h1.trans h0⟩
end Go.Proofs.YtfpjmeknjhhakaaGreat.K

/- The deferred closures of wire.reads. -/
namespace Go.Proofs.YtfpjmeknjhhakaaGreat.K
open Go Go.RowKit

theorem tmps21 (a b x : Value) : (#[a, b] ++ ((Array.replicate 19 undef).setIfInBounds 4 x).setIfInBounds 0 x) = #[a, b, x, undef, undef, undef, x, undef, undef, undef, undef, undef, undef, undef, undef, undef, undef, undef, undef, undef, undef] := by
  apply Array.toList_inj.1
  simp [List.replicate]
theorem catchInt_idle (p q : Addr) (w : World) :
    CallsD Tryz.prog 116 #[.pointer (some p), .pointer (some q)] .returning w fun e u' w' => e = .returned (.tuple #[]) ∧ u' = .returning ∧ w' = w := by
  refine callsD_of_wpS Tryz.func116 rfl fun c₀ cs hu => ?_
  apply wpS_seq
  apply wpS_region
  simp [wpOpsS, go_sem, recoverD, hu, Tryz.ntmps116, Exit.thenS]
  refine wpS_of_wp ?_
  rw [tmps21]
  go_wp2
  cases c₀
  simp_all [bodyPostS, results, Tryz.results116]
set_option maxHeartbeats 1000000 in
set_option maxRecDepth 100000 in
theorem catchInt_panicking (O R P : Nat) (x : Int) (A : Option Addr) (l : List (BitVec 8)) (n c : Nat) (w : World) (ho : w.cell? ⟨O, 0, none⟩ = some (.int .i64 x)) (hof : w.frozen? ⟨O, 0, none⟩ = false) (hr : w.cell? ⟨R, 0, none⟩ = some (.pointer (some ⟨P, 0, none⟩))) (hp : PrgR w P l A n c true false) (hOP : O ≠ P) :
    CallsD Tryz.prog 116 #[.pointer (some ⟨O, 0, none⟩), .pointer (some ⟨R, 0, none⟩)] (.panicking shortP) w fun e u' w' =>
      e = .returned (.tuple #[]) ∧ u' = .panicking [{ v := .iface 153 (.agg #[]), recovered := true }] ∧ w' = ((w.alloc (.cells #[] 153)).setCell ⟨O, 0, none⟩ (.int .i64 0)).setCell ⟨P, 2, none⟩ (.bool true) := by
  have hta : ∀ w, (Instr.typeAssert (.iface 153 (.agg #[])) 20 153 true).run Tryz.prog w = .ok (.tuple #[.agg #[], .bool true]) w := fun _ => by kernel_rfl
  refine callsD_of_wpS Tryz.func116 rfl fun c₀ cs hu => ?_
  unfold shortP at hu
  have d0 : w.cell? ⟨P, 2, none⟩ = some (.bool false) := hp.cell rfl
  have hr' := cell_old (.cells #[] 153) hr
  have ho' := cell_old (.cells #[] 153) ho
  have hof' : (w.alloc (.cells #[] 153)).frozen? ⟨O, 0, none⟩ = false := (((Below.refl w.heap.size w).alloc (Nat.le_refl _) (.cells #[] 153)).frozen (p := ⟨O, 0, none⟩) (block_lt_of_cell ho)).trans hof
  have d2 : ((w.alloc (.cells #[] 153)).setCell ⟨O, 0, none⟩ (.int .i64 0)).cell? ⟨P, 2, none⟩ = some (.bool false) := (cell_setCell_ne _ (fun e => hOP e.symm)).trans (cell_old _ d0)
  have f2 : (w.alloc (.cells #[] 153)).frozen? ⟨P, 2, none⟩ = false := (((Below.refl w.heap.size w).alloc (Nat.le_refl _) (.cells #[] 153)).frozen (p := ⟨P, 2, none⟩) (block_lt_of_cell d0)).trans (hp.free 2)
  clear hp d0 hr ho hof
  apply wpS_seq
  apply wpS_region
  simp [wpOpsS, go_sem, recoverD, hu, Tryz.ntmps116, Exit.thenS]
  refine wpS_of_wp ?_
  rw [tmps21]
  go_wp2
  cases c₀
  simp_all [bodyPostS, results, Tryz.results116]
end Go.Proofs.YtfpjmeknjhhakaaGreat.K

/- The contracts of the program's reader: Bad, Number. -/
namespace Go.Proofs.YtfpjmeknjhhakaaGreat.K
open Go Go.RowKit

theorem pBad_nil (w : World) : Calls Tryz.prog 84 #[.pointer none] w fun e w' => e = .returned (.bool true) ∧ w = w' := by
  go_enter Tryz.func84, Tryz.ntmps84
  go_wp2
  go_ret
  exact ⟨rfl, rfl⟩
theorem pBad_any (P : Nat) (l : List (BitVec 8)) (A : Option Addr) (n c : Nat) (bad : Bool) (w : World) (h : PrgR w P l A n c true bad) : Calls Tryz.prog 84 #[.pointer (some ⟨P, 0, none⟩)] w fun e w' => e = .returned (.bool bad) ∧ w = w' := by
  have c1 : w.cell? ⟨P, 1, none⟩ = some (.bool true) := h.cell rfl
  have c2 : w.cell? ⟨P, 2, none⟩ = some (.bool bad) := h.cell rfl
  clear h
  go_enter Tryz.func84, Tryz.ntmps84
  go_wp2
  go_ret
  exact ⟨rfl, rfl⟩
theorem pBad_unmade (P : Nat) (l : List (BitVec 8)) (A : Option Addr) (n c : Nat) (bad : Bool) (w : World) (h : PrgR w P l A n c false bad) : Calls Tryz.prog 84 #[.pointer (some ⟨P, 0, none⟩)] w fun e w' => e = .returned (.bool true) ∧ w = w' := by
  have c1 : w.cell? ⟨P, 1, none⟩ = some (.bool false) := h.cell rfl
  clear h
  go_enter Tryz.func84, Tryz.ntmps84
  go_wp2
  go_ret
  exact ⟨rfl, rfl⟩

theorem closNum_ok (Bx P : Nat) (l : List (BitVec 8)) (A : Option Addr) (n c : Nat) (made bad : Bool) (w : World) (h : PrgR w P l A n c made bad) (hb : w.cell? ⟨Bx, 0, none⟩ = some (.pointer (some ⟨P, 0, none⟩))) (hn : 8 ≤ n) :
    Calls Tryz.prog 108 #[.pointer (some ⟨Bx, 0, none⟩)] w (NumOk w P l A n c made bad) := by
  have H := Lib.hid h
  clear h
  go_enter Tryz.func108, Tryz.ntmps108
  go_wp2_with fail
  refine (pnum_ok P l A n c made bad w H.out hn).mono ?_
  rintro e w1 ⟨rfl, hp, hg⟩
  have HP := Lib.hid hp; have HG := Lib.hid hg
  clear hp hg
  go_wp2
  go_ret
  exact ⟨rfl, HP.out, HG.out⟩
theorem closNum_bad (Bx P : Nat) (l : List (BitVec 8)) (A : Option Addr) (n c : Nat) (made bad : Bool) (w : World) (h : PrgR w P l A n c made bad) (hb : w.cell? ⟨Bx, 0, none⟩ = some (.pointer (some ⟨P, 0, none⟩))) (hn : n < 8) :
    Calls Tryz.prog 108 #[.pointer (some ⟨Bx, 0, none⟩)] w (PBad w P made bad) := by
  have H := Lib.hid h
  clear h
  go_enter Tryz.func108, Tryz.ntmps108
  go_wp2_with fail
  refine (pnum_bad' P l A n c made bad w H.out hn).mono ?_
  rintro e w1 ⟨rfl, hp, hg⟩
  have HP := Lib.hid hp; have HG := Lib.hid hg
  clear hp hg
  go_wp2
  exact ⟨rfl, rfl, HP.out, HG.out⟩

/-- a reader, wherever it stands -/
def PrgN (w : World) (P : Nat) (s : M.Rdr) (A0 : Option Addr) : Prop :=
  ∃ l A n c, (match s with | some l' => PrgR w P l A n c true false ∧ l = l' ∧ (∀ a, A = some a → ∃ a0, A0 = some a0 ∧ a.block = a0.block) | none => ∃ t, w.heap[P]? = some (.cells (readP A n c true true).toArray t (0, 0)))

/-- a number was got, or nothing -/
def GotNum (w : World) (P : Nat) (s : M.Rdr) (A0 : Option Addr) (e : Ending) (w' : World) : Prop := e = .returned (.int .i64 (M.rdNumber s).1) ∧ PrgN w' P (M.rdNumber s).2 A0 ∧ w.grownBy w' (some P)
set_option maxHeartbeats 1000000 in
set_option maxRecDepth 100000 in
theorem readsInt_ok (Bx P : Nat) (l : List (BitVec 8)) (A : Option Addr) (n c : Nat) (w : World) (h : PrgR w P l A n c true false) (hb : w.cell? ⟨Bx, 0, none⟩ = some (.pointer (some ⟨P, 0, none⟩))) (hn : 8 ≤ n) (hAB : ∀ a, A = some a → a.block < w.heap.size) (hBP : Bx ≠ P) :
    Calls Tryz.prog 107 #[.pointer (some ⟨P, 0, none⟩), .func (.func 108) #[] #[.pointer (some ⟨Bx, 0, none⟩)]] w (GotNum w P (some l) A) := by
  have hmf : ∀ (fn : Fn) (first cap : Array Value) (w : World), (Instr.makeFunc fn first cap).run Tryz.prog w = .ok (.func fn first cap) w := fun _ _ _ _ => rfl
  have hPl := h.lt
  have hBl := block_lt_of_cell hb
  have hga : w.grownBy ((w.alloc (.cells #[.pointer (some ⟨P, 0, none⟩)] 105)).alloc (.cells #[.int .i64 0] 3)) none := ⟨rfl, rfl, rfl, by simp; omega, fun k hk _ => (heap_alloc_old _ _ (by simp; omega)).trans (heap_alloc_old w _ hk)⟩
  have h2 := h.grown hga (by simp) (fun _ _ => by simp)
  have hb2 := hga.cell hb (by simp)
  have ho2 : ((w.alloc (.cells #[.pointer (some ⟨P, 0, none⟩)] 105)).alloc (.cells #[.int .i64 0] 3)).heap[w.heap.size + 1]? = some (.cells #[.int .i64 0] 3 (0, 0)) := heap_alloc2_new w _ _
  have hsz2 : ((w.alloc (.cells #[.pointer (some ⟨P, 0, none⟩)] 105)).alloc (.cells #[.int .i64 0] 3)).heap.size = w.heap.size + 2 := by simp
  have H := Lib.hid h2; have HB := Lib.hid hb2; have HGA := Lib.hid hga; have HO2 := Lib.hid ho2; have HSZ2 := Lib.hid hsz2; have HAB := Lib.hid hAB
  clear h hb h2 hb2 hga ho2 hsz2 hAB
  go_enter_defers Tryz.func107, Tryz.ntmps107
  go_wp2_with fail
  refine (pBad_any P l A n c false _ H.out).mono ?_
  rintro e w1 ⟨rfl, rfl⟩
  go_wp2_with fail
  refine (closNum_ok Bx P l A n c true false _ H.out HB.out hn).mono ?_
  rintro e w1 ⟨rfl, ⟨A', hp, hA'⟩, hg⟩
  have hob : w1.heap[w.heap.size + 1]? = some (.cells #[.int .i64 0] 3 (0, 0)) := (hg.block _ (by rw [HSZ2.out]; omega) (by simp; omega)).trans HO2.out
  have hoc : w1.cell? ⟨w.heap.size + 1, 0, none⟩ = some (.int .i64 0) := block_cell (xs := [.int .i64 0]) hob rfl
  have hof : w1.frozen? ⟨w.heap.size + 1, 0, none⟩ = false := frozen_of_row w1 _ 0 _ _ hob
  have HP := Lib.hid hp; have HA' := Lib.hid hA'; have HG := Lib.hid hg; have HOB := Lib.hid hob
  clear hp hA' hg hob
  go_wp2
  have hoc2 : (w1.setCell ⟨w.heap.size + 1, 0, none⟩ (.int .i64 (M.val (l.take 8)))).cell? ⟨w.heap.size + 1, 0, none⟩ = some (.int .i64 (M.val (l.take 8))) := World.cell?_setCell_same _ _ _ hoc
  refine leaves_cons (f := 116) (args := #[.pointer (some ⟨w.heap.size + 1, 0, none⟩), .pointer (some ⟨w.heap.size, 0, none⟩)]) (by simp) (by simp [go_sem]) ?_
  refine (catchInt_idle _ _ _).mono ?_
  rintro e u' w'' ⟨rfl, rfl, rfl⟩
  have hfin : GotNum w P (some l) A (.returned (.int .i64 (M.val (l.take 8)))) (w1.setCell ⟨w.heap.size + 1, 0, none⟩ (.int .i64 (M.val (l.take 8)))) := by
    have hr : M.rdNumber (some l) = (M.val (l.take 8), some (l.drop 8)) := by
      simp only [M.rdNumber]; rw [if_neg (by have := H.out.len; omega)]
    refine ⟨by rw [hr], ?_, ?_⟩
    · rw [hr]
      refine ⟨_, A', _, _, HP.out.grown (grownBy_setCell w1 (w.heap.size + 1) 0 _) (by simp; omega) (fun a e => ?_), rfl, HA'.out⟩
      obtain ⟨a0, e0, h0⟩ := HA'.out a e
      have := HAB.out a0 e0
      simp; omega
    · refine grown_more (X := w.heap.size + 1) (grown_trans' ⟨HGA.out.os, HGA.out.tape, HGA.out.output, HGA.out.size, fun k hk _ => HGA.out.block k hk (by simp)⟩ HG.out) (grownBy_setCell w1 (w.heap.size + 1) 0 _) (by omega)
  have HFIN := Lib.hid hfin
  clear hfin
  simp [Leaves, settle, results, Tryz.results107, go_sem, hoc2]
  exact HFIN.out

set_option maxHeartbeats 1000000 in
set_option maxRecDepth 100000 in
theorem readsInt_bad (Bx P : Nat) (l : List (BitVec 8)) (A : Option Addr) (n c : Nat) (w : World) (h : PrgR w P l A n c true false) (hb : w.cell? ⟨Bx, 0, none⟩ = some (.pointer (some ⟨P, 0, none⟩))) (hn : n < 8) (hBP : Bx ≠ P) :
    Calls Tryz.prog 107 #[.pointer (some ⟨P, 0, none⟩), .func (.func 108) #[] #[.pointer (some ⟨Bx, 0, none⟩)]] w (GotNum w P (some l) A) := by
  have hmf : ∀ (fn : Fn) (first cap : Array Value) (w : World), (Instr.makeFunc fn first cap).run Tryz.prog w = .ok (.func fn first cap) w := fun _ _ _ _ => rfl
  have hPl := h.lt
  have hlen := h.len
  have hga : w.grownBy ((w.alloc (.cells #[.pointer (some ⟨P, 0, none⟩)] 105)).alloc (.cells #[.int .i64 0] 3)) none := ⟨rfl, rfl, rfl, by simp; omega, fun k hk _ => (heap_alloc_old _ _ (by simp; omega)).trans (heap_alloc_old w _ hk)⟩
  have h2 := h.grown hga (by simp) (fun _ _ => by simp)
  have hb2 := hga.cell hb (by simp)
  have ho2 : ((w.alloc (.cells #[.pointer (some ⟨P, 0, none⟩)] 105)).alloc (.cells #[.int .i64 0] 3)).heap[w.heap.size + 1]? = some (.cells #[.int .i64 0] 3 (0, 0)) := heap_alloc2_new w _ _
  have hr2 : ((w.alloc (.cells #[.pointer (some ⟨P, 0, none⟩)] 105)).alloc (.cells #[.int .i64 0] 3)).heap[w.heap.size]? = some (.cells #[.pointer (some ⟨P, 0, none⟩)] 105 (0, 0)) := heap_alloc2_old w _ _
  have hsz2 : ((w.alloc (.cells #[.pointer (some ⟨P, 0, none⟩)] 105)).alloc (.cells #[.int .i64 0] 3)).heap.size = w.heap.size + 2 := by simp
  have H := Lib.hid h2; have HB := Lib.hid hb2; have HGA := Lib.hid hga; have HO2 := Lib.hid ho2; have HR2 := Lib.hid hr2; have HSZ2 := Lib.hid hsz2; have HLEN := Lib.hid hlen
  clear h hb h2 hb2 hga ho2 hr2 hsz2 hlen
  go_enter_defers Tryz.func107, Tryz.ntmps107
  go_wp2_with fail
  refine (pBad_any P l A n c false _ H.out).mono ?_
  rintro e w1 ⟨rfl, rfl⟩
  go_wp2_with fail
  refine (closNum_bad Bx P l A n c true false _ H.out HB.out hn).mono ?_
  rintro e w1 ⟨rfl, ⟨l1, A1, n1, c1, hp⟩, hg⟩
  have hob : w1.heap[w.heap.size + 1]? = some (.cells #[.int .i64 0] 3 (0, 0)) := (hg.block _ (by rw [HSZ2.out]; omega) (by simp; omega)).trans HO2.out
  have hrb : w1.heap[w.heap.size]? = some (.cells #[.pointer (some ⟨P, 0, none⟩)] 105 (0, 0)) := (hg.block _ (by rw [HSZ2.out]; omega) (by simp; omega)).trans HR2.out
  have hoc : w1.cell? ⟨w.heap.size + 1, 0, none⟩ = some (.int .i64 0) := block_cell (xs := [.int .i64 0]) hob rfl
  have hrc : w1.cell? ⟨w.heap.size, 0, none⟩ = some (.pointer (some ⟨P, 0, none⟩)) := block_cell (xs := [.pointer (some ⟨P, 0, none⟩)]) hrb rfl
  have hof : w1.frozen? ⟨w.heap.size + 1, 0, none⟩ = false := frozen_of_row w1 _ 0 _ _ hob
  have HP := Lib.hid hp; have HG := Lib.hid hg; have HOC := Lib.hid hoc; have HRC := Lib.hid hrc; have HOF := Lib.hid hof
  clear hp hg hob hrb hoc hrc hof
  go_wp2
  refine leaves_cons (f := 116) (args := #[.pointer (some ⟨w.heap.size + 1, 0, none⟩), .pointer (some ⟨w.heap.size, 0, none⟩)]) (by simp) (by simp [go_sem]) ?_
  refine (catchInt_panicking (w.heap.size + 1) w.heap.size P 0 A1 l1 n1 c1 _ HOC.out HOF.out HRC.out HP.out (by omega)).mono ?_
  rintro e u' w'' ⟨rfl, rfl, rfl⟩
  have hPl1 := HP.out.lt
  have hw2 : w1.grownBy (w1.alloc (.cells #[] 153)) none := World.grownBy_alloc w1 _ _
  have hlt1 := block_lt_of_cell HOC.out
  have hoc2 : (((w1.alloc (.cells #[] 153)).setCell ⟨w.heap.size + 1, 0, none⟩ (.int .i64 0)).setCell ⟨P, 2, none⟩ (.bool true)).cell? ⟨w.heap.size + 1, 0, none⟩ = some (.int .i64 0) := (cell_setCell_ne _ (by omega)).trans (World.cell?_setCell_same _ _ _ (cell_old _ HOC.out))
  have hfin : GotNum w P (some l) A (.returned (.int .i64 0)) (((w1.alloc (.cells #[] 153)).setCell ⟨w.heap.size + 1, 0, none⟩ (.int .i64 0)).setCell ⟨P, 2, none⟩ (.bool true)) := by
    have hr : M.rdNumber (some l) = (0, none) := by
      simp only [M.rdNumber]; rw [if_pos (by have := HLEN.out; omega)]
    refine ⟨by rw [hr], ?_, ?_⟩
    · rw [hr]
      obtain ⟨t, hblk⟩ := HP.out.blk
      have hblk2 : ((w1.alloc (.cells #[] 153)).setCell ⟨w.heap.size + 1, 0, none⟩ (.int .i64 0)).heap[P]? = some (.cells (readP A1 n1 c1 true false).toArray t (0, 0)) := (heap_setCell_other _ ⟨w.heap.size + 1, 0, none⟩ P _ (by simp; omega)).trans ((heap_alloc_old w1 _ hPl1).trans hblk)
      exact ⟨[], A1, n1, c1, t, block_set hblk2 2 _⟩
    · have g1 : w.grownBy w1 (some P) := grown_trans' ⟨HGA.out.os, HGA.out.tape, HGA.out.output, HGA.out.size, fun k hk _ => HGA.out.block k hk (by simp)⟩ HG.out
      have g2 : w.grownBy (w1.alloc (.cells #[] 153)) (some P) := grown_trans' g1 (World.grownBy_alloc w1 _ _)
      have g3 := grown_more g2 (grownBy_setCell (w1.alloc (.cells #[] 153)) (w.heap.size + 1) 0 (.int .i64 0)) (by omega)
      exact grown_trans' g3 (grownBy_setCell _ P 2 _)
  have HFIN := Lib.hid hfin
  clear hfin
  simp [Leaves, settle, results, Tryz.results107, go_sem, hoc2]
  exact HFIN.out

theorem pBad_bad (P : Nat) (A : Option Addr) (n c : Nat) (w : World) (h : ∃ t, w.heap[P]? = some (.cells (readP A n c true true).toArray t (0, 0))) : Calls Tryz.prog 84 #[.pointer (some ⟨P, 0, none⟩)] w fun e w' => e = .returned (.bool true) ∧ w = w' := by
  obtain ⟨t, hb⟩ := h
  have c1 : w.cell? ⟨P, 1, none⟩ = some (.bool true) := block_cell hb rfl
  have c2 : w.cell? ⟨P, 2, none⟩ = some (.bool true) := block_cell hb rfl
  clear hb
  go_enter Tryz.func84, Tryz.ntmps84
  go_wp2
  go_ret
  exact ⟨rfl, rfl⟩

/-- nothing is read of what is bad -/
theorem readsInt_early (p : Option Addr) (Bx : Addr) (w : World) (hbad : ∀ w1, w.grownBy w1 none → Calls Tryz.prog 84 #[.pointer p] w1 fun e w' => e = .returned (.bool true) ∧ w1 = w') :
    Calls Tryz.prog 107 #[.pointer p, .func (.func 108) #[] #[.pointer (some Bx)]] w fun e w' => e = .returned (.int .i64 0) ∧ Below w.heap.size w w' := by
  have hga : w.grownBy ((w.alloc (.cells #[.pointer p] 105)).alloc (.cells #[.int .i64 0] 3)) none := ⟨rfl, rfl, rfl, by simp; omega, fun k hk _ => (heap_alloc_old _ _ (by simp; omega)).trans (heap_alloc_old w _ hk)⟩
  have hb := hbad _ hga
  have hbel : Below w.heap.size w ((w.alloc (.cells #[.pointer p] 105)).alloc (.cells #[.int .i64 0] 3)) := ((Below.refl _ _).alloc (Nat.le_refl _) _).alloc (by simp) _
  have HB := Lib.hid hb; have HBEL := Lib.hid hbel
  clear hbad hga hb hbel
  go_enter_defers Tryz.func107, Tryz.ntmps107
  go_wp2_with fail
  refine HB.out.mono ?_
  rintro e w1 ⟨rfl, rfl⟩
  go_wp2
  simp [bodyPostD, Leaves, results, Tryz.results107, go_sem]
  exact HBEL.out

set_option maxHeartbeats 1000000 in
theorem pNumber_early (p : Option Addr) (w : World) (hbad : ∀ w1, w.grownBy w1 none → Calls Tryz.prog 84 #[.pointer p] w1 fun e w' => e = .returned (.bool true) ∧ w1 = w') :
    Calls Tryz.prog 90 #[.pointer p] w fun e w' => e = .returned (.int .i64 0) ∧ Below w.heap.size w w' := by
  have hmf : ∀ (fn : Fn) (first cap : Array Value) (w : World), (Instr.makeFunc fn first cap).run Tryz.prog w = .ok (.func fn first cap) w := fun _ _ _ _ => rfl
  have hga : w.grownBy (w.alloc (.cells #[.pointer p] 105)) none := World.grownBy_alloc w _ _
  have hbel : Below w.heap.size w (w.alloc (.cells #[.pointer p] 105)) := (Below.refl _ _).alloc (Nat.le_refl _) _
  have hb := readsInt_early p ⟨w.heap.size, 0, none⟩ (w.alloc (.cells #[.pointer p] 105)) (fun w1 h1 => hbad w1 (grown_trans' hga h1))
  have HB := Lib.hid hb; have HBEL := Lib.hid hbel
  clear hbad hga hb hbel
  go_enter Tryz.func90, Tryz.ntmps90
  go_wp2_with fail
  refine HB.out.mono ?_
  rintro e w1 ⟨rfl, hb1⟩
  have HB1 := Lib.hid (HBEL.out.trans (hb1.mono (by simp)))
  clear hb1
  go_wp2
  go_ret
  exact ⟨rfl, HB1.out⟩

set_option maxHeartbeats 1000000 in
theorem pNumber_any (P : Nat) (s : M.Rdr) (A0 : Option Addr) (w : World) (h : PrgN w P s A0) (hAB : ∀ a, A0 = some a → a.block < w.heap.size) :
    Calls Tryz.prog 90 #[.pointer (some ⟨P, 0, none⟩)] w (GotNum w P s A0) := by
  obtain ⟨l, A, n, c, h⟩ := h
  cases s with
  | none =>
    have h' : ∃ t, w.heap[P]? = some (.cells (readP A n c true true).toArray t (0, 0)) := h
    have hPl : P < w.heap.size := by obtain ⟨t, hb⟩ := h'; exact (Array.getElem?_eq_some_iff.1 hb).1
    refine (pNumber_early (some ⟨P, 0, none⟩) w (fun w1 hg => pBad_bad P A n c w1 ?_)).mono ?_
    · obtain ⟨t, hb⟩ := h'
      exact ⟨t, (hg.block P hPl (by simp)).trans hb⟩
    · rintro e w' ⟨rfl, hb⟩
      obtain ⟨t, hb'⟩ := h'
      exact ⟨rfl, ⟨l, A, n, c, t, (hb.block P hPl).trans hb'⟩, ⟨hb.os, hb.tape, hb.output, hb.size, fun k hk _ => hb.block k hk⟩⟩
  | some l' =>
    obtain ⟨hp, rfl, hA⟩ := h
    have hmf : ∀ (fn : Fn) (first cap : Array Value) (w : World), (Instr.makeFunc fn first cap).run Tryz.prog w = .ok (.func fn first cap) w := fun _ _ _ _ => rfl
    have hPl := hp.lt
    have hga : w.grownBy (w.alloc (.cells #[.pointer (some ⟨P, 0, none⟩)] 105)) none := World.grownBy_alloc w _ _
    have hp2 := hp.grown hga (by simp) (fun _ _ => by simp)
    have hbx : (w.alloc (.cells #[.pointer (some ⟨P, 0, none⟩)] 105)).cell? ⟨w.heap.size, 0, none⟩ = some (.pointer (some ⟨P, 0, none⟩)) := by rw [World.cell?_alloc_new]; rfl
    have hcall : Calls Tryz.prog 107 #[.pointer (some ⟨P, 0, none⟩), .func (.func 108) #[] #[.pointer (some ⟨w.heap.size, 0, none⟩)]] (w.alloc (.cells #[.pointer (some ⟨P, 0, none⟩)] 105)) (GotNum (w.alloc (.cells #[.pointer (some ⟨P, 0, none⟩)] 105)) P (some l) A) := by
      rcases Nat.lt_or_ge n 8 with h8 | h8
      · exact readsInt_bad w.heap.size P l A n c _ hp2 hbx h8 (by omega)
      · exact readsInt_ok w.heap.size P l A n c _ hp2 hbx h8 (fun a e => by obtain ⟨a0, e0, h0⟩ := hA a e; have := hAB a0 e0; simp; omega) (by omega)
    have HC := Lib.hid hcall; have HA := Lib.hid hA; have HGA := Lib.hid hga
    clear hcall hA hga hp2 hbx hp hAB
    go_enter Tryz.func90, Tryz.ntmps90
    go_wp2_with fail
    refine HC.out.mono ?_
    rintro e w1 ⟨rfl, ⟨l2, A2, n2, c2, hp⟩, hg⟩
    have hfin : GotNum w P (some l) A0 (.returned (.int .i64 (M.rdNumber (some l)).1)) w1 := by
      refine ⟨rfl, ⟨l2, A2, n2, c2, ?_⟩, grown_trans' ⟨HGA.out.os, HGA.out.tape, HGA.out.output, HGA.out.size, fun k hk _ => HGA.out.block k hk (by simp)⟩ hg⟩
      cases hs : (M.rdNumber (some l)).2 with
      | none => rw [hs] at hp; exact hp
      | some l3 =>
        rw [hs] at hp
        refine ⟨hp.1, hp.2.1, fun a e => ?_⟩
        obtain ⟨a1, e1, h1⟩ := hp.2.2 a e
        obtain ⟨a0, e0, h0⟩ := HA.out a1 e1
        exact ⟨a0, e0, h1.trans h0⟩
    have HFIN := Lib.hid hfin
    clear hfin hp hg
    go_wp2
    go_ret
    exact HFIN.out
end Go.Proofs.YtfpjmeknjhhakaaGreat.K
