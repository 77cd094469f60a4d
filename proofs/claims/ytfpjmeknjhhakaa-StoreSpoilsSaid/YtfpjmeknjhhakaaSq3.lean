/- Merged: LetMath, KitLetter, TmBx, FlatNil, FlatBytes, Apart. -/
import Derived.Test.YtfpjmeknjhhakaaSq2
import Derived.Deep.RegionLaw
set_option linter.unusedVariables false
/- Letters as plain Lean functions: whether one is right, its bytes, what bytes are one. No program in sight. -/
namespace Go.Proofs.Ytfpjmeknjhhakaa.M
structure Let where
  kind : BitVec 8
  src : Int
  dst : Int
  term : Int
  index : Int
  was : Int
  ok : Bool
  commit : Int
  version : Int
  ents : List Ent
def zeroLet : Let := ⟨0#8, 0, 0, 0, 0, 0, false, 0, 0, []⟩
/-- from one to another -/
def wi (n a b : Int) : Bool := decide (a ≤ n) && decide (n ≤ b)
theorem wi_iff (n a b : Int) : wi n a b = true ↔ a ≤ n ∧ n ≤ b := by simp [wi]
def tm (n : Int) : Bool := wi n 0 1099511627776
def ix (n : Int) : Bool := wi n 0 1073741824
def z (n : Int) : Bool := n == 0
def lask (l : Let) : Bool := [!l.ok].all id && [l.commit, l.version, (l.ents.length : Int)].all z && ([l.term, l.was].all tm && [l.index].all ix)
def lvote (l : Let) : Bool := [l.index, l.was, l.commit, l.version, (l.ents.length : Int)].all z && ([l.term].all tm && [].all ix)
def lputs (l : Let) : Bool := [!l.ok, decide ((l.ents.length : Int) ≤ 4)].all id && [l.version].all z && ([l.term, l.was].all tm && [l.index, l.commit].all ix) && l.ents.all fun e => tm e.term
def ldone (l : Let) : Bool := [l.was, l.commit, l.version, (l.ents.length : Int)].all z && ([l.term].all tm && [l.index].all ix)
def lack (l : Let) : Bool := [l.term, l.index, l.was, l.commit, (l.ents.length : Int)].all z && wi l.version 1 1073741824
def lkind (l : Let) : Bool := if l.kind = 1#8 then lask l else if l.kind = 2#8 then lvote l else if l.kind = 3#8 then lputs l else if l.kind = 4#8 then ldone l else if l.kind = 5#8 then lack l else false
/-- P24.1 -/
def lright (l : Let) : Bool := wi l.src 1 7 && wi l.dst 1 7 && lkind l
def lnums (l : Let) : List Int := [l.kind.toNat, l.src, l.dst, l.term, l.index, l.was, flag l.ok, l.commit, l.version, l.ents.length]
def nums (l : List Int) : List B := l.flatMap num
theorem nums_snoc (l : List Int) (n : Int) : nums (l ++ [n]) = nums l ++ num n := by simp [nums]
theorem nums_length (l : List Int) : (nums l).length = 8 * l.length := by
  induction l with
  | nil => rfl
  | cons n l ih => rw [nums, List.flatMap_cons, List.length_append, num_length]; simp only [nums] at ih; rw [ih, List.length_cons]; omega
def lbytes (l : Let) : List B := nums (lnums l) ++ ents l.ents
def lput (l : Let) : List B := if lright l then lbytes l else []
def lputE (l : Let) : Nat := if lright l then 0 else 4
/-- so many numbers are read -/
def rdNums (s : Rdr) : Nat → List Int × Rdr
  | 0 => ([], s)
  | k + 1 => ((rdNums s k).1 ++ [(rdNumber (rdNums s k).2).1], (rdNumber (rdNums s k).2).2)
theorem rdNums_length (s : Rdr) (k : Nat) : (rdNums s k).1.length = k := by
  induction k with
  | zero => rfl
  | succ k ih => rw [rdNums, List.length_append, ih]; rfl
def rdEnts (s : Rdr) : Nat → List Ent × Rdr
  | 0 => ([], s)
  | k + 1 => ((rdEnts s k).1 ++ [(rdEntry (rdEnts s k).2).1], (rdEntry (rdEnts s k).2).2)
theorem rdEnts_length (s : Rdr) (k : Nat) : (rdEnts s k).1.length = k := by
  induction k with
  | zero => rfl
  | succ k ih => rw [rdEnts, List.length_append, ih]; rfl
/-- the letter that the numbers and entries make -/
def lof (ns : List Int) (es : List Ent) : Let := ⟨BitVec.ofInt 8 (ns.getD 0 0), ns.getD 1 0, ns.getD 2 0, ns.getD 3 0, ns.getD 4 0, ns.getD 5 0, ns.getD 6 0 == 1, ns.getD 7 0, ns.getD 8 0, es⟩
def lfits (ns : List Int) : Bool := wi (ns.getD 0 0) 0 255 && wi (ns.getD 6 0) 0 1 && wi (ns.getD 9 0) 0 4
/-- what is read of bytes -/
def lread (b : List B) : Option Let :=
  if lfits (rdNums (some b) 10).1 = true ∧ (rdEnts (rdNums (some b) 10).2 ((rdNums (some b) 10).1.getD 9 0).toNat).2 = some [] ∧ lright (lof (rdNums (some b) 10).1 (rdEnts (rdNums (some b) 10).2 ((rdNums (some b) 10).1.getD 9 0).toNat).1) = true
  then some (lof (rdNums (some b) 10).1 (rdEnts (rdNums (some b) 10).2 ((rdNums (some b) 10).1.getD 9 0).toNat).1) else none
def lgetE (b : List B) : Nat := if (lread b).isSome then 0 else 4
def lget (b : List B) : Let := (lread b).getD zeroLet

theorem rdNums_bad (k : Nat) : (rdNums none k).2 = none := by
  induction k with
  | zero => rfl
  | succ k ih => rw [rdNums, ih]; rfl
theorem rdEnts_bad (k : Nat) : (rdEnts none k).2 = none := by
  induction k with
  | zero => rfl
  | succ k ih => rw [rdEnts, ih, rdEntry_bad]
theorem rdNums_nums (l : List Int) (h : ∀ n ∈ l, inI64 n) (t : List B) (k : Nat) (hk : k ≤ l.length) : rdNums (some (nums l ++ t)) k = (l.take k, some (nums (l.drop k) ++ t)) := by
  induction k with
  | zero => rfl
  | succ k ih =>
    have hk' : k < l.length := by omega
    rw [rdNums, ih (by omega)]
    have e : nums (l.drop k) = num l[k] ++ nums (l.drop (k + 1)) := by
      unfold nums
      conv => lhs; rw [List.drop_eq_getElem_cons hk']
      exact List.flatMap_cons
    rw [e, List.append_assoc, rdNumber_num _ _ (h _ (List.getElem_mem _)), List.take_succ_eq_append_getElem hk']
theorem rdEnts_ents (l : List Ent) (h : ∀ e ∈ l, e.Ok) (t : List B) (k : Nat) (hk : k ≤ l.length) : rdEnts (some (ents l ++ t)) k = (l.take k, some (ents (l.drop k) ++ t)) := by
  induction k with
  | zero => rfl
  | succ k ih =>
    have hk' : k < l.length := by omega
    rw [rdEnts, ih (by omega)]
    have e : ents (l.drop k) = ent l[k] ++ ents (l.drop (k + 1)) := by
      unfold ents
      conv => lhs; rw [List.drop_eq_getElem_cons hk']
      exact List.flatMap_cons
    rw [e, List.append_assoc, rdEntry_ent _ _ (h _ (List.getElem_mem _)), List.take_succ_eq_append_getElem hk']
theorem eats_nums (l : List Int) (h : ∀ n ∈ l, inI64 n) : Eats (fun s => (rdNums s l.length).2) (nums l) := by
  suffices H : ∀ k, k ≤ l.length → Eats (fun s => (rdNums s k).2) (nums (l.take k)) by
    have := H l.length (Nat.le_refl _)
    rwa [List.take_length] at this
  intro k
  induction k with
  | zero => intro _; exact Eats.id
  | succ k ih =>
    intro hk
    have hk' : k < l.length := by omega
    have := (ih (by omega)).comp (eats_num l[k] (h _ (List.getElem_mem _)))
    rw [List.take_succ_eq_append_getElem hk', nums_snoc]
    exact this
theorem rdEnts_all (l : List Ent) (s : Rdr) : ∀ k, k ≤ l.length → (rdEnts s k).2 = rdAll (l.take k) s := by
  intro k
  induction k with
  | zero => intro _; rfl
  | succ k ih =>
    intro hk
    have hk' : k < l.length := by omega
    rw [rdEnts, ih (by omega), List.take_succ_eq_append_getElem hk', rdAll_snoc]
structure Let.Ok (l : Let) : Prop where
  ents : ∀ e ∈ l.ents, e.Ok
theorem tm_iff (n : Int) : tm n = true ↔ 0 ≤ n ∧ n ≤ 1099511627776 := wi_iff _ _ _
theorem ix_iff (n : Int) : ix n = true ↔ 0 ≤ n ∧ n ≤ 1073741824 := wi_iff _ _ _
theorem z_iff (n : Int) : z n = true ↔ n = 0 := by simp [z]
/-- a right letter's numbers are small -/
theorem lright_small (l : Let) (h : lright l = true) : (1 ≤ l.src ∧ l.src ≤ 7) ∧ (1 ≤ l.dst ∧ l.dst ≤ 7) ∧ (0 ≤ l.term ∧ l.term ≤ 1099511627776) ∧ (0 ≤ l.index ∧ l.index ≤ 1073741824) ∧ (0 ≤ l.was ∧ l.was ≤ 1099511627776) ∧ (0 ≤ l.commit ∧ l.commit ≤ 1073741824) ∧ (0 ≤ l.version ∧ l.version ≤ 1073741824) ∧ l.ents.length ≤ 4 := by
  unfold lright lkind at h
  simp only [Bool.and_eq_true, wi_iff] at h
  obtain ⟨⟨h1, h2⟩, h3⟩ := h
  refine ⟨h1, h2, ?_⟩
  split at h3
  · simp only [lask, List.all_cons, List.all_nil, id_eq, Bool.and_eq_true, tm_iff, ix_iff, z_iff] at h3; omega
  split at h3
  · simp only [lvote, List.all_cons, List.all_nil, Bool.and_eq_true, tm_iff, z_iff] at h3; omega
  split at h3
  · simp only [lputs, List.all_cons, List.all_nil, id_eq, Bool.and_eq_true, tm_iff, ix_iff, z_iff, decide_eq_true_eq] at h3; omega
  split at h3
  · simp only [ldone, List.all_cons, List.all_nil, Bool.and_eq_true, tm_iff, ix_iff, z_iff] at h3; omega
  split at h3
  · simp only [lack, List.all_cons, List.all_nil, Bool.and_eq_true, z_iff, wi_iff] at h3; omega
  · cases h3
theorem lnums_in (l : Let) (h : lright l = true) : ∀ n ∈ lnums l, inI64 n := by
  obtain ⟨h1, h2, h3, h4, h5, h6, h7, h8⟩ := lright_small l h
  have hk := l.kind.isLt
  have hf : 0 ≤ flag l.ok ∧ flag l.ok ≤ 1 := by unfold flag; split <;> omega
  intro n hn
  simp only [lnums, List.mem_cons, List.not_mem_nil, or_false] at hn
  unfold inI64
  rcases hn with rfl | rfl | rfl | rfl | rfl | rfl | rfl | rfl | rfl | rfl <;> omega
theorem lof_nums (l : Let) : lof (lnums l) l.ents = l := by
  have hk : BitVec.ofInt 8 (l.kind.toNat : Int) = l.kind := by
    apply BitVec.eq_of_toNat_eq
    have := l.kind.isLt
    rw [BitVec.toNat_ofInt]; omega
  have hf : (flag l.ok == 1) = l.ok := by unfold flag; cases l.ok <;> rfl
  show Let.mk (BitVec.ofInt 8 (l.kind.toNat : Int)) l.src l.dst l.term l.index l.was (flag l.ok == 1) l.commit l.version l.ents = l
  rw [hk, hf]
theorem lfits_nums (l : Let) (h : lright l = true) : lfits (lnums l) = true := by
  have h8 := (lright_small l h).2.2.2.2.2.2.2
  have hk := l.kind.isLt
  have hf : 0 ≤ flag l.ok ∧ flag l.ok ≤ 1 := by unfold flag; split <;> omega
  unfold lfits
  simp only [Bool.and_eq_true, wi_iff]
  show ((0 ≤ (l.kind.toNat : Int) ∧ (l.kind.toNat : Int) ≤ 255) ∧ 0 ≤ flag l.ok ∧ flag l.ok ≤ 1) ∧ 0 ≤ (l.ents.length : Int) ∧ (l.ents.length : Int) ≤ 4
  omega
theorem rdNums_lbytes (l : Let) (h : lright l = true) (t : List B) : rdNums (some (lbytes l ++ t)) 10 = (lnums l, some (ents l.ents ++ t)) := by
  have := rdNums_nums (lnums l) (lnums_in l h) (ents l.ents ++ t) 10 (Nat.le_refl 10)
  rw [lbytes, List.append_assoc, this]
  rfl
theorem lread_more (l : Let) (h : lright l = true) (ho : l.Ok) (t : List B) (ht : t ≠ []) : lread (lbytes l ++ t) = none := by
  unfold lread
  rw [rdNums_lbytes l h t]
  have e : ((lnums l).getD 9 0).toNat = l.ents.length := by show ((l.ents.length : Int)).toNat = _; omega
  rw [e, rdEnts_ents l.ents ho.ents t _ (Nat.le_refl _), List.drop_length]
  rw [if_neg]
  rintro ⟨_, h2, _⟩
  simp [ents] at h2
  exact ht h2
theorem lread_bytes (l : Let) (h : lright l = true) (ho : l.Ok) : lread (lbytes l) = some l := by
  unfold lread
  have e0 := rdNums_lbytes l h []
  rw [List.append_nil, List.append_nil] at e0
  rw [e0]
  have e : ((lnums l).getD 9 0).toNat = l.ents.length := by show ((l.ents.length : Int)).toNat = _; omega
  have e1 := rdEnts_ents l.ents ho.ents [] _ (Nat.le_refl _)
  rw [List.append_nil, List.take_length, List.drop_length] at e1
  rw [e, e1, lof_nums]
  rw [if_pos ⟨lfits_nums l h, rfl, h⟩]
theorem lread_cut (l : Let) (h : lright l = true) (ho : l.Ok) (k : Nat) (hk : k < (lbytes l).length) : lread ((lbytes l).take k) = none := by
  unfold lread
  rw [if_neg]
  rintro ⟨_, h2, _⟩
  by_cases hl : k < (nums (lnums l)).length
  · have e := (eats_nums (lnums l) (lnums_in l h)).cut k hl
    rw [lbytes, List.take_append_of_le_length (by omega)] at h2
    have e' : (rdNums (some ((nums (lnums l)).take k)) 10).2 = none := e
    rw [e', rdEnts_bad] at h2
    cases h2
  · rw [lbytes, List.length_append] at hk
    rw [lbytes, List.take_append, List.take_of_length_le (by omega)] at h2
    have e := rdNums_nums (lnums l) (lnums_in l h) ((ents l.ents).take (k - (nums (lnums l)).length)) 10 (Nat.le_refl 10)
    rw [e] at h2
    have e9 : (((lnums l).take 10).getD 9 0).toNat = l.ents.length := by show ((l.ents.length : Int)).toNat = _; omega
    have e10 : nums ((lnums l).drop 10) = [] := rfl
    simp only [e9, e10, List.nil_append] at h2
    rw [rdEnts_all l.ents _ _ (Nat.le_refl _), List.take_length, (eats_all l.ents ho.ents).cut _ (by omega)] at h2
    cases h2
theorem rdEntry_inv {s : Rdr} {e : Ent} {t : List B} (h : rdEntry s = (e, some t)) : ∃ l, s = some l ∧ l = ent e ++ t := by
  cases s with
  | none => rw [rdEntry_bad] at h; cases h
  | some l =>
    refine ⟨l, rfl, ?_⟩
    simp only [rdEntry] at h
    split at h
    · cases h
    · rename_i hc
      simp only [not_or, Int.not_lt] at hc
      obtain ⟨h0, h1, h2, h3, h4⟩ := hc
      simp only [Prod.mk.injEq] at h
      obtain ⟨he, ht⟩ := h
      obtain ⟨l5, e5, q5⟩ := rdBytes_inv (Prod.ext rfl ht : rdBytes _ = (_, some t))
      obtain ⟨l4, e4, q4⟩ := rdNumber_inv' e5
      obtain ⟨l3, e3, q3⟩ := rdNumber_inv' e4
      obtain ⟨l2, e2, q2⟩ := rdNumber_inv' e3
      obtain ⟨l1, e1, q1⟩ := rdNumber_inv' e2
      obtain ⟨l0, e0, q0⟩ := rdNumber_inv' e1
      cases e0
      subst he
      have hk : ((BitVec.ofInt 8 (rdNumber (rdNumber (some l)).2).1).toNat : Int) = (rdNumber (rdNumber (some l)).2).1 := by rw [BitVec.toNat_ofInt]; omega
      have hg : flag ((rdNumber (rdNumber (rdNumber (rdNumber (rdNumber (some l)).2).2).2).2).1 == 1) = (rdNumber (rdNumber (rdNumber (rdNumber (rdNumber (some l)).2).2).2).2).1 := by
        generalize (rdNumber (rdNumber (rdNumber (rdNumber (rdNumber (some l)).2).2).2).2).1 = x at *
        rcases (by omega : x = 0 ∨ x = 1) with rfl | rfl <;> rfl
      unfold ent
      simp only [hk, hg, List.append_assoc]
      rw [← q5, ← q4, ← q3, ← q2, ← q1]
      exact q0
theorem rdNums_inv (b : List B) : ∀ (k : Nat) (t : List B), (rdNums (some b) k).2 = some t → b = nums (rdNums (some b) k).1 ++ t
  | 0, t, h => by cases h; rfl
  | k + 1, t, h => by
    rw [rdNums] at h ⊢
    obtain ⟨l, e, q⟩ := rdNumber_inv' h
    have ih := rdNums_inv b k l e
    rw [nums_snoc, List.append_assoc, ← q]
    exact ih
theorem rdEnts_inv (s : Rdr) : ∀ (k : Nat) (t : List B), (rdEnts s k).2 = some t → ∃ b, s = some b ∧ b = ents (rdEnts s k).1 ++ t
  | 0, t, h => ⟨t, h, rfl⟩
  | k + 1, t, h => by
    rw [rdEnts] at h ⊢
    obtain ⟨l, e, q⟩ := rdEntry_inv (Prod.ext rfl h : rdEntry (rdEnts s k).2 = (_, some t))
    obtain ⟨b, e1, q1⟩ := rdEnts_inv s k l e
    refine ⟨b, e1, ?_⟩
    rw [ents_snoc, List.append_assoc, ← q]
    exact q1
theorem lread_put (b : List B) (l : Let) (h : lread b = some l) : lright l = true ∧ lbytes l = b := by
  unfold lread at h
  split at h
  · rename_i hc
    obtain ⟨h1, h2, h3⟩ := hc
    obtain ⟨r, e1, q1⟩ := rdEnts_inv _ _ _ h2
    have q2 := rdNums_inv b 10 r e1
    rw [List.append_nil] at q1
    have hl := rdNums_length (some b) 10
    have hel := rdEnts_length (rdNums (some b) 10).2 ((rdNums (some b) 10).1.getD 9 0).toNat
    simp only [Option.some.injEq] at h
    subst h
    refine ⟨h3, ?_⟩
    generalize rdEnts (rdNums (some b) 10).2 ((rdNums (some b) 10).1.getD 9 0).toNat = E at *
    generalize (rdNums (some b) 10).1 = ns at *
    match ns, hl with
    | [n0, n1, n2, n3, n4, n5, n6, n7, n8, n9], _ =>
      unfold lfits at h1
      simp only [Bool.and_eq_true, wi_iff] at h1
      obtain ⟨⟨h10, h16⟩, h19⟩ := h1
      have h10' : 0 ≤ n0 ∧ n0 ≤ 255 := h10
      have h16' : 0 ≤ n6 ∧ n6 ≤ 1 := h16
      have h19' : 0 ≤ n9 ∧ n9 ≤ 4 := h19
      have hel' : E.1.length = n9.toNat := hel
      have hk : ((BitVec.ofInt 8 n0).toNat : Int) = n0 := by rw [BitVec.toNat_ofInt]; omega
      have hg : flag (n6 == 1) = n6 := by
        rcases (by omega : n6 = 0 ∨ n6 = 1) with rfl | rfl <;> rfl
      have h9 : ((E.1.length : Nat) : Int) = n9 := by omega
      unfold lbytes
      have e2 : lnums (lof [n0, n1, n2, n3, n4, n5, n6, n7, n8, n9] E.1) = [n0, n1, n2, n3, n4, n5, n6, n7, n8, n9] := by
        show [((BitVec.ofInt 8 n0).toNat : Int), n1, n2, n3, n4, n5, flag (n6 == 1), n7, n8, ((E.1.length : Nat) : Int)] = _
        rw [hk, hg, h9]
      rw [e2, q2, q1]
      rfl
  · cases h
theorem lgetE_zero (b : List B) : lgetE b = 0 ↔ ∃ l, lread b = some l := by
  unfold lgetE
  cases lread b <;> simp
theorem lget_put (b : List B) (h : lgetE b = 0) : lright (lget b) = true ∧ lbytes (lget b) = b := by
  obtain ⟨l, e⟩ := (lgetE_zero b).1 h
  have e2 : lget b = l := by unfold lget; rw [e]; rfl
  rw [e2]
  exact lread_put b l e
theorem lget_bad (b : List B) (h : lgetE b ≠ 0) : lgetE b = 4 ∧ lget b = zeroLet := by
  unfold lgetE lget at *
  cases e : lread b with
  | none => exact ⟨rfl, rfl⟩
  | some l => rw [e] at h; exact absurd rfl h
end Go.Proofs.Ytfpjmeknjhhakaa.M

/- The contracts of barbicankit's SameEntries, SameLetter. -/
namespace Go.Proofs.Ytfpjmeknjhhakaa.K
open Go Go.RowKit

def SaidB (w : World) (b : Bool) (e : Ending) (w' : World) : Prop := e = .returned (.bool b) ∧ Since w w'
theorem SameEntries_ne (A : Option Addr) (n c : Nat) (B : Option Addr) (m d : Nat) (w : World) (h : n ≠ m) :
    Calls Try.prog 65 #[.slice A n c, .slice B m d] w (SaidB w false) := by
  have h1 : ((n : Int) != (m : Int)) = true := by simp; omega
  go_enter Try.func65, Try.ntmps65
  go_wp2
  go_ret
  exact ⟨rfl, Below.refl _ _⟩
set_option maxHeartbeats 2000000 in
set_option maxRecDepth 100000 in
theorem SameEntries_eq (A : Option Addr) (n c : Nat) (B : Option Addr) (d : Nat) (es : List M.Ent) (w : World) (hl : es.length = n) (hA : EntsRd w A es) (hB : EntsRd w B es) (hn : n ≤ 9223372036854775807) (hD : ∀ e ∈ es, e.data.length ≤ 4611686018427387904) :
    Calls Try.prog 65 #[.slice A n c, .slice B n d] w (SaidB w true) := by
  have HA := Lib.hid hA; have HB := Lib.hid hB; have HL := Lib.hid hl; have HD := Lib.hid hD
  clear hA hB hl hD
  go_enter Try.func65, Try.ntmps65
  go_wp2
  go_loopw [5] (fun i wr => ∃ k : Nat, k ≤ n ∧ i = .int .i64 (k : Int) ∧ Since w wr) (fun i _ => n - (intOf i).toNat)
  case atStart => exact ⟨0, by omega, rfl, Below.refl _ _⟩
  case round =>
    obtain ⟨k, hk, rfl, hs⟩ := hrel
    have S1 := Lib.hid hs
    clear hs
    have k0 : (0 : Int) ≤ (k : Int) := by omega
    rcases Nat.lt_or_ge k n with h1 | h1
    · have i1 : (k : Int) < (n : Int) := by omega
      have hkl : k < es.length := by rw [HL.out]; exact h1
      obtain ⟨b, o, rfl, A', m', c', ⟨y0, y1, y2, y3, y4, y5⟩, hra⟩ := HA.out.since S1.out.drew k hkl
      obtain ⟨b2, o2, rfl, B', m2, d', ⟨z0, z1, z2, z3, z4, z5⟩, hrb⟩ := HB.out.since S1.out.drew k hkl
      obtain ⟨x, hx⟩ : ∃ x, x = es[k] := ⟨_, rfl⟩
      rw [← hx] at y0 y1 y2 y3 y4 z0 z1 z2 z3 z4 hra hrb
      have HDX := Lib.hid (show m' ≤ 4611686018427387904 by have h := HD.out _ (List.getElem_mem hkl); rw [← hx] at h; have := hra.len; dsimp only at this; omega)
      have HRA := Lib.hid hra; have HRB := Lib.hid hrb
      clear hx hra hrb
      go_wp2_with fail
      go_region_law (first
        | (go_simp; go_at_call 119; refine (SameEntry_eq x.term x.version x.server x.kind x.good A' B' m' c' m2 d' x.data _ HRA.out HRB.out HDX.out).mono ?_; rintro e w3 ⟨rfl, hs3⟩; have S3 := Lib.hid (S1.out.drew.add hs3); clear hs3)
        | fail "arm")
      all_goals
        clear y0 y1 y2 y3 y4 y5 z0 z1 z2 z3 z4 z5
        go_wp2_with fail
        go_roundw
        case rel => exact ⟨k + 1, by omega, by go_num, S3.out⟩
        case measure => simp [intOf]; omega
    · have i1 : ¬ (k : Int) < (n : Int) := by omega
      go_wp2
      go_ret
      exact ⟨rfl, S1.out⟩
end Go.Proofs.Ytfpjmeknjhhakaa.K

/- Two blocks made ahead. -/
namespace Go.Proofs.Ytfpjmeknjhhakaa.K
open Go Go.RowKit

theorem tmBx {w : World} {c d : Array Value} {t : TypeId} : Since w ((w.alloc (.cells c t)).alloc (.cells d t)) := Since.alloc (Since.alloc (Below.refl _ _) _) _
end Go.Proofs.Ytfpjmeknjhhakaa.K

/- The contracts of the flat functions of barbicankit at nil: they tell true. -/
namespace Go.Proofs.Ytfpjmeknjhhakaa.K
open Go Go.RowKit

theorem infoFlatLimbs : (Try.prog.info? 205).map (fun i => (i.zero, i.size, i.bytes)) = some (some (.slice none 0 0), 1, 24) := by kernel_rfl
set_option maxHeartbeats 1000000 in
set_option maxRecDepth 100000 in
theorem flatLimbs_nil (w : World) : Calls Try.prog 82 #[.slice none 0 0] w fun e w' => e = .returned (.bool true) ∧ Below w.heap.size w w' := by
  obtain ⟨i0, hi, hz0, hz1, hz2⟩ := info_parts infoFlatLimbs
  go_enter Try.func82, Try.ntmps82
  go_wp2
  refine wp_loop_rounds 1 ?_
  rw [rounds_succ]
  go_wp2_with (at_make; refine wpList_make_own _ rfl _ _ 96 rfl w.heap.size 205 i0 (.slice none 0 0) 1 Try.underlying96 hi hz0 hz1 _ _ _ 0 rfl rfl (by omega) (by rw [hz2]; omega) (by unfold maxLen; omega) (Nat.le_refl _) ?_; intro w1 hown1 hgrow1)
  refine wp_loop_rounds 1 ?_
  rw [rounds_succ]
  go_wp2
  refine wp_loop_rounds 1 ?_
  rw [rounds_succ]
  go_wp2
  refine wp_loop_rounds 1 ?_
  rw [rounds_succ]
  go_wp2
  refine wp_loop_rounds 1 ?_
  rw [rounds_succ]
  go_wp2
  go_ret
  exact ⟨rfl, (Below.refl _ _).grown hgrow1 (Nat.le_refl _) (by simp)⟩

theorem infoFlatWords : (Try.prog.info? 206).map (fun i => (i.zero, i.size, i.bytes)) = some (some (.slice none 0 0), 1, 24) := by kernel_rfl
set_option maxHeartbeats 1000000 in
set_option maxRecDepth 100000 in
theorem flatWords_nil (w : World) : Calls Try.prog 83 #[.slice none 0 0] w fun e w' => e = .returned (.bool true) ∧ Below w.heap.size w w' := by
  obtain ⟨i0, hi, hz0, hz1, hz2⟩ := info_parts infoFlatWords
  go_enter Try.func83, Try.ntmps83
  go_wp2
  refine wp_loop_rounds 1 ?_
  rw [rounds_succ]
  go_wp2_with (at_make; refine wpList_make_own _ rfl _ _ 97 rfl w.heap.size 206 i0 (.slice none 0 0) 1 Try.underlying97 hi hz0 hz1 _ _ _ 0 rfl rfl (by omega) (by rw [hz2]; omega) (by unfold maxLen; omega) (Nat.le_refl _) ?_; intro w1 hown1 hgrow1)
  refine wp_loop_rounds 1 ?_
  rw [rounds_succ]
  go_wp2
  refine wp_loop_rounds 1 ?_
  rw [rounds_succ]
  go_wp2
  refine wp_loop_rounds 1 ?_
  rw [rounds_succ]
  go_wp2
  refine wp_loop_rounds 1 ?_
  rw [rounds_succ]
  go_wp2
  go_ret
  exact ⟨rfl, (Below.refl _ _).grown hgrow1 (Nat.le_refl _) (by simp)⟩

theorem infoFlatInts : (Try.prog.info? 43).map (fun i => (i.zero, i.size, i.bytes)) = some (some (.slice none 0 0), 1, 24) := by kernel_rfl
set_option maxHeartbeats 1000000 in
set_option maxRecDepth 100000 in
theorem flatInts_nil (w : World) : Calls Try.prog 84 #[.slice none 0 0] w fun e w' => e = .returned (.bool true) ∧ Below w.heap.size w w' := by
  obtain ⟨i0, hi, hz0, hz1, hz2⟩ := info_parts infoFlatInts
  go_enter Try.func84, Try.ntmps84
  go_wp2
  refine wp_loop_rounds 1 ?_
  rw [rounds_succ]
  go_wp2_with (at_make; refine wpList_make_own _ rfl _ _ 98 rfl w.heap.size 43 i0 (.slice none 0 0) 1 Try.underlying98 hi hz0 hz1 _ _ _ 0 rfl rfl (by omega) (by rw [hz2]; omega) (by unfold maxLen; omega) (Nat.le_refl _) ?_; intro w1 hown1 hgrow1)
  refine wp_loop_rounds 1 ?_
  rw [rounds_succ]
  go_wp2
  refine wp_loop_rounds 1 ?_
  rw [rounds_succ]
  go_wp2
  refine wp_loop_rounds 1 ?_
  rw [rounds_succ]
  go_wp2
  refine wp_loop_rounds 1 ?_
  rw [rounds_succ]
  go_wp2
  go_ret
  exact ⟨rfl, (Below.refl _ _).grown hgrow1 (Nat.le_refl _) (by simp)⟩

theorem infoFlatLongs : (Try.prog.info? 207).map (fun i => (i.zero, i.size, i.bytes)) = some (some (.slice none 0 0), 1, 24) := by kernel_rfl
set_option maxHeartbeats 1000000 in
set_option maxRecDepth 100000 in
theorem flatLongs_nil (w : World) : Calls Try.prog 85 #[.slice none 0 0] w fun e w' => e = .returned (.bool true) ∧ Below w.heap.size w w' := by
  obtain ⟨i0, hi, hz0, hz1, hz2⟩ := info_parts infoFlatLongs
  go_enter Try.func85, Try.ntmps85
  go_wp2
  refine wp_loop_rounds 1 ?_
  rw [rounds_succ]
  go_wp2_with (at_make; refine wpList_make_own _ rfl _ _ 99 rfl w.heap.size 207 i0 (.slice none 0 0) 1 Try.underlying99 hi hz0 hz1 _ _ _ 0 rfl rfl (by omega) (by rw [hz2]; omega) (by unfold maxLen; omega) (Nat.le_refl _) ?_; intro w1 hown1 hgrow1)
  refine wp_loop_rounds 1 ?_
  rw [rounds_succ]
  go_wp2
  refine wp_loop_rounds 1 ?_
  rw [rounds_succ]
  go_wp2
  refine wp_loop_rounds 1 ?_
  rw [rounds_succ]
  go_wp2
  refine wp_loop_rounds 1 ?_
  rw [rounds_succ]
  go_wp2
  go_ret
  exact ⟨rfl, (Below.refl _ _).grown hgrow1 (Nat.le_refl _) (by simp)⟩

theorem infoFlatTexts : (Try.prog.info? 185).map (fun i => (i.zero, i.size, i.bytes)) = some (some (.slice none 0 0), 1, 24) := by kernel_rfl
set_option maxHeartbeats 1000000 in
set_option maxRecDepth 100000 in
theorem flatTexts_nil (w : World) : Calls Try.prog 86 #[.slice none 0 0] w fun e w' => e = .returned (.bool true) ∧ Below w.heap.size w w' := by
  obtain ⟨i0, hi, hz0, hz1, hz2⟩ := info_parts infoFlatTexts
  go_enter Try.func86, Try.ntmps86
  go_wp2
  refine wp_loop_rounds 1 ?_
  rw [rounds_succ]
  go_wp2_with (at_make; refine wpList_make_own _ rfl _ _ 100 rfl w.heap.size 185 i0 (.slice none 0 0) 1 Try.underlying100 hi hz0 hz1 _ _ _ 0 rfl rfl (by omega) (by rw [hz2]; omega) (by unfold maxLen; omega) (Nat.le_refl _) ?_; intro w1 hown1 hgrow1)
  refine wp_loop_rounds 1 ?_
  rw [rounds_succ]
  go_wp2
  refine wp_loop_rounds 1 ?_
  rw [rounds_succ]
  go_wp2
  refine wp_loop_rounds 1 ?_
  rw [rounds_succ]
  go_wp2
  refine wp_loop_rounds 1 ?_
  rw [rounds_succ]
  go_wp2
  go_ret
  exact ⟨rfl, (Below.refl _ _).grown hgrow1 (Nat.le_refl _) (by simp)⟩

theorem infoFlatBytes : (Try.prog.info? 27).map (fun i => (i.zero, i.size, i.bytes)) = some (some (.slice none 0 0), 1, 24) := by kernel_rfl
set_option maxHeartbeats 1000000 in
set_option maxRecDepth 100000 in
theorem flatBytes_nil (w : World) : Calls Try.prog 87 #[.slice none 0 0] w fun e w' => e = .returned (.bool true) ∧ Below w.heap.size w w' := by
  obtain ⟨i0, hi, hz0, hz1, hz2⟩ := info_parts infoFlatBytes
  go_enter Try.func87, Try.ntmps87
  go_wp2
  refine wp_loop_rounds 1 ?_
  rw [rounds_succ]
  go_wp2_with (at_make; refine wpList_make_own _ rfl _ _ 39 rfl w.heap.size 27 i0 (.slice none 0 0) 1 Try.underlying39 hi hz0 hz1 _ _ _ 0 rfl rfl (by omega) (by rw [hz2]; omega) (by unfold maxLen; omega) (Nat.le_refl _) ?_; intro w1 hown1 hgrow1)
  refine wp_loop_rounds 1 ?_
  rw [rounds_succ]
  go_wp2
  refine wp_loop_rounds 1 ?_
  rw [rounds_succ]
  go_wp2
  refine wp_loop_rounds 1 ?_
  rw [rounds_succ]
  go_wp2
  refine wp_loop_rounds 1 ?_
  rw [rounds_succ]
  go_wp2
  go_ret
  exact ⟨rfl, (Below.refl _ _).grown hgrow1 (Nat.le_refl _) (by simp)⟩

theorem infoFlatTruths : (Try.prog.info? 209).map (fun i => (i.zero, i.size, i.bytes)) = some (some (.slice none 0 0), 1, 24) := by kernel_rfl
set_option maxHeartbeats 1000000 in
set_option maxRecDepth 100000 in
theorem flatTruths_nil (w : World) : Calls Try.prog 88 #[.slice none 0 0] w fun e w' => e = .returned (.bool true) ∧ Below w.heap.size w w' := by
  obtain ⟨i0, hi, hz0, hz1, hz2⟩ := info_parts infoFlatTruths
  go_enter Try.func88, Try.ntmps88
  go_wp2
  refine wp_loop_rounds 1 ?_
  rw [rounds_succ]
  go_wp2_with (at_make; refine wpList_make_own _ rfl _ _ 101 rfl w.heap.size 209 i0 (.slice none 0 0) 1 Try.underlying101 hi hz0 hz1 _ _ _ 0 rfl rfl (by omega) (by rw [hz2]; omega) (by unfold maxLen; omega) (Nat.le_refl _) ?_; intro w1 hown1 hgrow1)
  refine wp_loop_rounds 1 ?_
  rw [rounds_succ]
  go_wp2
  refine wp_loop_rounds 1 ?_
  rw [rounds_succ]
  go_wp2
  refine wp_loop_rounds 1 ?_
  rw [rounds_succ]
  go_wp2
  refine wp_loop_rounds 1 ?_
  rw [rounds_succ]
  go_wp2
  go_ret
  exact ⟨rfl, (Below.refl _ _).grown hgrow1 (Nat.le_refl _) (by simp)⟩

theorem infoFlatIns : (Try.prog.info? 210).map (fun i => (i.zero, i.size, i.bytes)) = some (some (.slice none 0 0), 1, 24) := by kernel_rfl
set_option maxHeartbeats 1000000 in
set_option maxRecDepth 100000 in
theorem flatIns_nil (w : World) : Calls Try.prog 89 #[.slice none 0 0] w fun e w' => e = .returned (.bool true) ∧ Below w.heap.size w w' := by
  obtain ⟨i0, hi, hz0, hz1, hz2⟩ := info_parts infoFlatIns
  go_enter Try.func89, Try.ntmps89
  go_wp2
  refine wp_loop_rounds 1 ?_
  rw [rounds_succ]
  go_wp2_with (at_make; refine wpList_make_own _ rfl _ _ 102 rfl w.heap.size 210 i0 (.slice none 0 0) 1 Try.underlying102 hi hz0 hz1 _ _ _ 0 rfl rfl (by omega) (by rw [hz2]; omega) (by unfold maxLen; omega) (Nat.le_refl _) ?_; intro w1 hown1 hgrow1)
  refine wp_loop_rounds 1 ?_
  rw [rounds_succ]
  go_wp2
  refine wp_loop_rounds 1 ?_
  rw [rounds_succ]
  go_wp2
  refine wp_loop_rounds 1 ?_
  rw [rounds_succ]
  go_wp2
  refine wp_loop_rounds 1 ?_
  rw [rounds_succ]
  go_wp2
  go_ret
  exact ⟨rfl, (Below.refl _ _).grown hgrow1 (Nat.le_refl _) (by simp)⟩

theorem infoFlatSpans : (Try.prog.info? 215).map (fun i => (i.zero, i.size, i.bytes)) = some (some (.slice none 0 0), 1, 24) := by kernel_rfl
set_option maxHeartbeats 1000000 in
set_option maxRecDepth 100000 in
theorem flatSpans_nil (w : World) : Calls Try.prog 90 #[.slice none 0 0] w fun e w' => e = .returned (.bool true) ∧ Below w.heap.size w w' := by
  obtain ⟨i0, hi, hz0, hz1, hz2⟩ := info_parts infoFlatSpans
  go_enter Try.func90, Try.ntmps90
  go_wp2
  refine wp_loop_rounds 1 ?_
  rw [rounds_succ]
  go_wp2_with (at_make; refine wpList_make_own _ rfl _ _ 103 rfl w.heap.size 215 i0 (.slice none 0 0) 1 Try.underlying103 hi hz0 hz1 _ _ _ 0 rfl rfl (by omega) (by rw [hz2]; omega) (by unfold maxLen; omega) (Nat.le_refl _) ?_; intro w1 hown1 hgrow1)
  refine wp_loop_rounds 1 ?_
  rw [rounds_succ]
  go_wp2
  refine wp_loop_rounds 1 ?_
  rw [rounds_succ]
  go_wp2
  refine wp_loop_rounds 1 ?_
  rw [rounds_succ]
  go_wp2
  refine wp_loop_rounds 1 ?_
  rw [rounds_succ]
  go_wp2
  go_ret
  exact ⟨rfl, (Below.refl _ _).grown hgrow1 (Nat.le_refl _) (by simp)⟩

theorem infoFlatKnowns : (Try.prog.info? 219).map (fun i => (i.zero, i.size, i.bytes)) = some (some (.slice none 0 0), 1, 24) := by kernel_rfl
set_option maxHeartbeats 1000000 in
set_option maxRecDepth 100000 in
theorem flatKnowns_nil (w : World) : Calls Try.prog 91 #[.slice none 0 0] w fun e w' => e = .returned (.bool true) ∧ Below w.heap.size w w' := by
  obtain ⟨i0, hi, hz0, hz1, hz2⟩ := info_parts infoFlatKnowns
  go_enter Try.func91, Try.ntmps91
  go_wp2
  refine wp_loop_rounds 1 ?_
  rw [rounds_succ]
  go_wp2_with (at_make; refine wpList_make_own _ rfl _ _ 104 rfl w.heap.size 219 i0 (.slice none 0 0) 1 Try.underlying104 hi hz0 hz1 _ _ _ 0 rfl rfl (by omega) (by rw [hz2]; omega) (by unfold maxLen; omega) (Nat.le_refl _) ?_; intro w1 hown1 hgrow1)
  refine wp_loop_rounds 1 ?_
  rw [rounds_succ]
  go_wp2
  refine wp_loop_rounds 1 ?_
  rw [rounds_succ]
  go_wp2
  refine wp_loop_rounds 1 ?_
  rw [rounds_succ]
  go_wp2
  refine wp_loop_rounds 1 ?_
  rw [rounds_succ]
  go_wp2
  go_ret
  exact ⟨rfl, (Below.refl _ _).grown hgrow1 (Nat.le_refl _) (by simp)⟩

theorem infoFlatPlaces : (Try.prog.info? 224).map (fun i => (i.zero, i.size, i.bytes)) = some (some (.slice none 0 0), 1, 24) := by kernel_rfl
set_option maxHeartbeats 1000000 in
set_option maxRecDepth 100000 in
theorem flatPlaces_nil (w : World) : Calls Try.prog 92 #[.slice none 0 0] w fun e w' => e = .returned (.bool true) ∧ Below w.heap.size w w' := by
  obtain ⟨i0, hi, hz0, hz1, hz2⟩ := info_parts infoFlatPlaces
  go_enter Try.func92, Try.ntmps92
  go_wp2
  refine wp_loop_rounds 1 ?_
  rw [rounds_succ]
  go_wp2_with (at_make; refine wpList_make_own _ rfl _ _ 105 rfl w.heap.size 224 i0 (.slice none 0 0) 1 Try.underlying105 hi hz0 hz1 _ _ _ 0 rfl rfl (by omega) (by rw [hz2]; omega) (by unfold maxLen; omega) (Nat.le_refl _) ?_; intro w1 hown1 hgrow1)
  refine wp_loop_rounds 1 ?_
  rw [rounds_succ]
  go_wp2
  refine wp_loop_rounds 1 ?_
  rw [rounds_succ]
  go_wp2
  refine wp_loop_rounds 1 ?_
  rw [rounds_succ]
  go_wp2
  refine wp_loop_rounds 1 ?_
  rw [rounds_succ]
  go_wp2
  go_ret
  exact ⟨rfl, (Below.refl _ _).grown hgrow1 (Nat.le_refl _) (by simp)⟩

theorem infoFlatFaults : (Try.prog.info? 229).map (fun i => (i.zero, i.size, i.bytes)) = some (some (.slice none 0 0), 1, 24) := by kernel_rfl
set_option maxHeartbeats 1000000 in
set_option maxRecDepth 100000 in
theorem flatFaults_nil (w : World) : Calls Try.prog 93 #[.slice none 0 0] w fun e w' => e = .returned (.bool true) ∧ Below w.heap.size w w' := by
  obtain ⟨i0, hi, hz0, hz1, hz2⟩ := info_parts infoFlatFaults
  go_enter Try.func93, Try.ntmps93
  go_wp2
  refine wp_loop_rounds 1 ?_
  rw [rounds_succ]
  go_wp2_with (at_make; refine wpList_make_own _ rfl _ _ 106 rfl w.heap.size 229 i0 (.slice none 0 0) 1 Try.underlying106 hi hz0 hz1 _ _ _ 0 rfl rfl (by omega) (by rw [hz2]; omega) (by unfold maxLen; omega) (Nat.le_refl _) ?_; intro w1 hown1 hgrow1)
  refine wp_loop_rounds 1 ?_
  rw [rounds_succ]
  go_wp2
  refine wp_loop_rounds 1 ?_
  rw [rounds_succ]
  go_wp2
  refine wp_loop_rounds 1 ?_
  rw [rounds_succ]
  go_wp2
  refine wp_loop_rounds 1 ?_
  rw [rounds_succ]
  go_wp2
  go_ret
  exact ⟨rfl, (Below.refl _ _).grown hgrow1 (Nat.le_refl _) (by simp)⟩

theorem infoFlatOutcomes : (Try.prog.info? 233).map (fun i => (i.zero, i.size, i.bytes)) = some (some (.slice none 0 0), 1, 24) := by kernel_rfl
set_option maxHeartbeats 1000000 in
set_option maxRecDepth 100000 in
theorem flatOutcomes_nil (w : World) : Calls Try.prog 94 #[.slice none 0 0] w fun e w' => e = .returned (.bool true) ∧ Below w.heap.size w w' := by
  obtain ⟨i0, hi, hz0, hz1, hz2⟩ := info_parts infoFlatOutcomes
  go_enter Try.func94, Try.ntmps94
  go_wp2
  refine wp_loop_rounds 1 ?_
  rw [rounds_succ]
  go_wp2_with (at_make; refine wpList_make_own _ rfl _ _ 107 rfl w.heap.size 233 i0 (.slice none 0 0) 1 Try.underlying107 hi hz0 hz1 _ _ _ 0 rfl rfl (by omega) (by rw [hz2]; omega) (by unfold maxLen; omega) (Nat.le_refl _) ?_; intro w1 hown1 hgrow1)
  refine wp_loop_rounds 1 ?_
  rw [rounds_succ]
  go_wp2
  refine wp_loop_rounds 1 ?_
  rw [rounds_succ]
  go_wp2
  refine wp_loop_rounds 1 ?_
  rw [rounds_succ]
  go_wp2
  refine wp_loop_rounds 1 ?_
  rw [rounds_succ]
  go_wp2
  go_ret
  exact ⟨rfl, (Below.refl _ _).grown hgrow1 (Nat.le_refl _) (by simp)⟩

theorem infoFlatFlats : (Try.prog.info? 237).map (fun i => (i.zero, i.size, i.bytes)) = some (some (.slice none 0 0), 1, 24) := by kernel_rfl
set_option maxHeartbeats 1000000 in
set_option maxRecDepth 100000 in
theorem flatFlats_nil (w : World) : Calls Try.prog 95 #[.slice none 0 0] w fun e w' => e = .returned (.bool true) ∧ Below w.heap.size w w' := by
  obtain ⟨i0, hi, hz0, hz1, hz2⟩ := info_parts infoFlatFlats
  go_enter Try.func95, Try.ntmps95
  go_wp2
  refine wp_loop_rounds 1 ?_
  rw [rounds_succ]
  go_wp2_with (at_make; refine wpList_make_own _ rfl _ _ 108 rfl w.heap.size 237 i0 (.slice none 0 0) 1 Try.underlying108 hi hz0 hz1 _ _ _ 0 rfl rfl (by omega) (by rw [hz2]; omega) (by unfold maxLen; omega) (Nat.le_refl _) ?_; intro w1 hown1 hgrow1)
  refine wp_loop_rounds 1 ?_
  rw [rounds_succ]
  go_wp2
  refine wp_loop_rounds 1 ?_
  rw [rounds_succ]
  go_wp2
  refine wp_loop_rounds 1 ?_
  rw [rounds_succ]
  go_wp2
  refine wp_loop_rounds 1 ?_
  rw [rounds_succ]
  go_wp2
  go_ret
  exact ⟨rfl, (Below.refl _ _).grown hgrow1 (Nat.le_refl _) (by simp)⟩

theorem infoFlatBundles : (Try.prog.info? 242).map (fun i => (i.zero, i.size, i.bytes)) = some (some (.slice none 0 0), 1, 24) := by kernel_rfl
set_option maxHeartbeats 1000000 in
set_option maxRecDepth 100000 in
theorem flatBundles_nil (w : World) : Calls Try.prog 96 #[.slice none 0 0] w fun e w' => e = .returned (.bool true) ∧ Below w.heap.size w w' := by
  obtain ⟨i0, hi, hz0, hz1, hz2⟩ := info_parts infoFlatBundles
  go_enter Try.func96, Try.ntmps96
  go_wp2
  refine wp_loop_rounds 1 ?_
  rw [rounds_succ]
  go_wp2_with (at_make; refine wpList_make_own _ rfl _ _ 109 rfl w.heap.size 242 i0 (.slice none 0 0) 1 Try.underlying109 hi hz0 hz1 _ _ _ 0 rfl rfl (by omega) (by rw [hz2]; omega) (by unfold maxLen; omega) (Nat.le_refl _) ?_; intro w1 hown1 hgrow1)
  refine wp_loop_rounds 1 ?_
  rw [rounds_succ]
  go_wp2
  refine wp_loop_rounds 1 ?_
  rw [rounds_succ]
  go_wp2
  refine wp_loop_rounds 1 ?_
  rw [rounds_succ]
  go_wp2
  refine wp_loop_rounds 1 ?_
  rw [rounds_succ]
  go_wp2
  go_ret
  exact ⟨rfl, (Below.refl _ _).grown hgrow1 (Nat.le_refl _) (by simp)⟩

theorem infoFlatEntries : (Try.prog.info? 66).map (fun i => (i.zero, i.size, i.bytes)) = some (some (.slice none 0 0), 1, 24) := by kernel_rfl
set_option maxHeartbeats 1000000 in
set_option maxRecDepth 100000 in
theorem flatEntries_nil (w : World) : Calls Try.prog 97 #[.slice none 0 0] w fun e w' => e = .returned (.bool true) ∧ Below w.heap.size w w' := by
  obtain ⟨i0, hi, hz0, hz1, hz2⟩ := info_parts infoFlatEntries
  go_enter Try.func97, Try.ntmps97
  go_wp2
  refine wp_loop_rounds 1 ?_
  rw [rounds_succ]
  go_wp2_with (at_make; refine wpList_make_own _ rfl _ _ 110 rfl w.heap.size 66 i0 (.slice none 0 0) 1 Try.underlying110 hi hz0 hz1 _ _ _ 0 rfl rfl (by omega) (by rw [hz2]; omega) (by unfold maxLen; omega) (Nat.le_refl _) ?_; intro w1 hown1 hgrow1)
  refine wp_loop_rounds 1 ?_
  rw [rounds_succ]
  go_wp2
  refine wp_loop_rounds 1 ?_
  rw [rounds_succ]
  go_wp2
  refine wp_loop_rounds 1 ?_
  rw [rounds_succ]
  go_wp2
  refine wp_loop_rounds 1 ?_
  rw [rounds_succ]
  go_wp2
  go_ret
  exact ⟨rfl, (Below.refl _ _).grown hgrow1 (Nat.le_refl _) (by simp)⟩

theorem infoFlatHeldRow : (Try.prog.info? 248).map (fun i => (i.zero, i.size, i.bytes)) = some (some (.slice none 0 0), 1, 24) := by kernel_rfl
set_option maxHeartbeats 1000000 in
set_option maxRecDepth 100000 in
theorem flatHeldRow_nil (w : World) : Calls Try.prog 98 #[.slice none 0 0] w fun e w' => e = .returned (.bool true) ∧ Below w.heap.size w w' := by
  obtain ⟨i0, hi, hz0, hz1, hz2⟩ := info_parts infoFlatHeldRow
  go_enter Try.func98, Try.ntmps98
  go_wp2
  refine wp_loop_rounds 1 ?_
  rw [rounds_succ]
  go_wp2_with (at_make; refine wpList_make_own _ rfl _ _ 111 rfl w.heap.size 248 i0 (.slice none 0 0) 1 Try.underlying111 hi hz0 hz1 _ _ _ 0 rfl rfl (by omega) (by rw [hz2]; omega) (by unfold maxLen; omega) (Nat.le_refl _) ?_; intro w1 hown1 hgrow1)
  refine wp_loop_rounds 1 ?_
  rw [rounds_succ]
  go_wp2
  refine wp_loop_rounds 1 ?_
  rw [rounds_succ]
  go_wp2
  refine wp_loop_rounds 1 ?_
  rw [rounds_succ]
  go_wp2
  refine wp_loop_rounds 1 ?_
  rw [rounds_succ]
  go_wp2
  go_ret
  exact ⟨rfl, (Below.refl _ _).grown hgrow1 (Nat.le_refl _) (by simp)⟩

theorem infoFlatRegistries : (Try.prog.info? 253).map (fun i => (i.zero, i.size, i.bytes)) = some (some (.slice none 0 0), 1, 24) := by kernel_rfl
set_option maxHeartbeats 1000000 in
set_option maxRecDepth 100000 in
theorem flatRegistries_nil (w : World) : Calls Try.prog 99 #[.slice none 0 0] w fun e w' => e = .returned (.bool true) ∧ Below w.heap.size w w' := by
  obtain ⟨i0, hi, hz0, hz1, hz2⟩ := info_parts infoFlatRegistries
  go_enter Try.func99, Try.ntmps99
  go_wp2
  refine wp_loop_rounds 1 ?_
  rw [rounds_succ]
  go_wp2_with (at_make; refine wpList_make_own _ rfl _ _ 112 rfl w.heap.size 253 i0 (.slice none 0 0) 1 Try.underlying112 hi hz0 hz1 _ _ _ 0 rfl rfl (by omega) (by rw [hz2]; omega) (by unfold maxLen; omega) (Nat.le_refl _) ?_; intro w1 hown1 hgrow1)
  refine wp_loop_rounds 1 ?_
  rw [rounds_succ]
  go_wp2
  refine wp_loop_rounds 1 ?_
  rw [rounds_succ]
  go_wp2
  refine wp_loop_rounds 1 ?_
  rw [rounds_succ]
  go_wp2
  refine wp_loop_rounds 1 ?_
  rw [rounds_succ]
  go_wp2
  go_ret
  exact ⟨rfl, (Below.refl _ _).grown hgrow1 (Nat.le_refl _) (by simp)⟩

theorem infoFlatLetters : (Try.prog.info? 258).map (fun i => (i.zero, i.size, i.bytes)) = some (some (.slice none 0 0), 1, 24) := by kernel_rfl
set_option maxHeartbeats 1000000 in
set_option maxRecDepth 100000 in
theorem flatLetters_nil (w : World) : Calls Try.prog 100 #[.slice none 0 0] w fun e w' => e = .returned (.bool true) ∧ Below w.heap.size w w' := by
  obtain ⟨i0, hi, hz0, hz1, hz2⟩ := info_parts infoFlatLetters
  go_enter Try.func100, Try.ntmps100
  go_wp2
  refine wp_loop_rounds 1 ?_
  rw [rounds_succ]
  go_wp2_with (at_make; refine wpList_make_own _ rfl _ _ 113 rfl w.heap.size 258 i0 (.slice none 0 0) 1 Try.underlying113 hi hz0 hz1 _ _ _ 0 rfl rfl (by omega) (by rw [hz2]; omega) (by unfold maxLen; omega) (Nat.le_refl _) ?_; intro w1 hown1 hgrow1)
  refine wp_loop_rounds 1 ?_
  rw [rounds_succ]
  go_wp2
  refine wp_loop_rounds 1 ?_
  rw [rounds_succ]
  go_wp2
  refine wp_loop_rounds 1 ?_
  rw [rounds_succ]
  go_wp2
  refine wp_loop_rounds 1 ?_
  rw [rounds_succ]
  go_wp2
  go_ret
  exact ⟨rfl, (Below.refl _ _).grown hgrow1 (Nat.le_refl _) (by simp)⟩

theorem infoFlatSteps : (Try.prog.info? 264).map (fun i => (i.zero, i.size, i.bytes)) = some (some (.slice none 0 0), 1, 24) := by kernel_rfl
set_option maxHeartbeats 1000000 in
set_option maxRecDepth 100000 in
theorem flatSteps_nil (w : World) : Calls Try.prog 101 #[.slice none 0 0] w fun e w' => e = .returned (.bool true) ∧ Below w.heap.size w w' := by
  obtain ⟨i0, hi, hz0, hz1, hz2⟩ := info_parts infoFlatSteps
  go_enter Try.func101, Try.ntmps101
  go_wp2
  refine wp_loop_rounds 1 ?_
  rw [rounds_succ]
  go_wp2_with (at_make; refine wpList_make_own _ rfl _ _ 114 rfl w.heap.size 264 i0 (.slice none 0 0) 1 Try.underlying114 hi hz0 hz1 _ _ _ 0 rfl rfl (by omega) (by rw [hz2]; omega) (by unfold maxLen; omega) (Nat.le_refl _) ?_; intro w1 hown1 hgrow1)
  refine wp_loop_rounds 1 ?_
  rw [rounds_succ]
  go_wp2
  refine wp_loop_rounds 1 ?_
  rw [rounds_succ]
  go_wp2
  refine wp_loop_rounds 1 ?_
  rw [rounds_succ]
  go_wp2
  refine wp_loop_rounds 1 ?_
  rw [rounds_succ]
  go_wp2
  go_ret
  exact ⟨rfl, (Below.refl _ _).grown hgrow1 (Nat.le_refl _) (by simp)⟩

theorem infoFlatTales : (Try.prog.info? 270).map (fun i => (i.zero, i.size, i.bytes)) = some (some (.slice none 0 0), 1, 24) := by kernel_rfl
set_option maxHeartbeats 1000000 in
set_option maxRecDepth 100000 in
theorem flatTales_nil (w : World) : Calls Try.prog 102 #[.slice none 0 0] w fun e w' => e = .returned (.bool true) ∧ Below w.heap.size w w' := by
  obtain ⟨i0, hi, hz0, hz1, hz2⟩ := info_parts infoFlatTales
  go_enter Try.func102, Try.ntmps102
  go_wp2
  refine wp_loop_rounds 1 ?_
  rw [rounds_succ]
  go_wp2_with (at_make; refine wpList_make_own _ rfl _ _ 115 rfl w.heap.size 270 i0 (.slice none 0 0) 1 Try.underlying115 hi hz0 hz1 _ _ _ 0 rfl rfl (by omega) (by rw [hz2]; omega) (by unfold maxLen; omega) (Nat.le_refl _) ?_; intro w1 hown1 hgrow1)
  refine wp_loop_rounds 1 ?_
  rw [rounds_succ]
  go_wp2
  refine wp_loop_rounds 1 ?_
  rw [rounds_succ]
  go_wp2
  refine wp_loop_rounds 1 ?_
  rw [rounds_succ]
  go_wp2
  refine wp_loop_rounds 1 ?_
  rw [rounds_succ]
  go_wp2
  go_ret
  exact ⟨rfl, (Below.refl _ _).grown hgrow1 (Nat.le_refl _) (by simp)⟩
end Go.Proofs.Ytfpjmeknjhhakaa.K

/- The contract of barbicankit.flatBytes: rows that lie apart are told to. -/
namespace Go.Proofs.Ytfpjmeknjhhakaa.K
open Go Go.RowKit

theorem infoBytes : (Try.prog.info? 27).map (fun i => (i.zero, i.size, i.bytes)) = some (some (.slice none 0 0), 1, 24) := by kernel_rfl
def r0 : Nat → Rw := fun _ => ⟨none, 0, 0⟩
def F0 : Nat → List (BitVec 8) := fun _ => []
theorem st_same {P : Program} {f : FuncId} {args : Array Value} {w : World} {v : Value} (h : Calls P f args w fun e w' => e = .returned v ∧ w = w') : Calls P f args w fun e w'' => e = .returned v ∧ w'' = w :=
  h.mono fun _ _ ⟨he, hm⟩ => ⟨he, hm.symm⟩
theorem marks_take (k n i : Nat) (h : i ≤ n) : (marks k 0 n).take i = marks k 0 i := by
  apply List.ext_getElem?
  intro j
  simp only [marks, List.getElem?_take, List.getElem?_map]
  by_cases hj : j < i
  · simp [hj, show j < n by omega]
  · simp [hj]
theorem marks_at (k n i : Nat) (h : i < n) : (marks k 0 n).getD i 0 = markB k (i : Nat) := by
  simp [marks, h]

theorem getD_left (a b : List (BitVec 8)) {i : Nat} (h : i < a.length) : (a ++ b).getD i 0 = a.getD i 0 := by
  simp [List.getElem?_append_left h]
theorem made64 {w : World} {base : Nat} {e : TypeId} {v : Value} (h : w.ownsRow base e 1 v 64 (madeCells (Value.int .u8 0).cells (64 * 1)).toList) : w.ownsRow base e 1 v 64 (bv (List.replicate 64 0#8)) := by
  have e1 : (madeCells (Value.int .u8 0).cells (64 * 1)).toList = bv (List.replicate 64 0#8) := by
    rw [show (Value.int IntKind.u8 0).cells = #[Value.int .u8 0] from rfl, toList_madeCells_one]
    simp [bv, B8]
  rw [e1] at h; exact h
def Ph1 (K : Nat → Prop) (base e m L : Nat) (r : Nat → Rw) (w0 wr : World) (k : Nat) : Prop := ∃ f, Sit wr base e m K r f 0 r0 F0 ∧ (∀ j, j < k → f j = marks j 0 (r j).n) ∧ (∀ j, j < m → wr.cell? ⟨L, j, none⟩ = some (r j).v) ∧ Below base w0 wr ∧ base ≤ w0.heap.size ∧ K L ∧ ∀ b, K b → wr.heap[b]? = w0.heap[b]?
def Ph1i (K : Nat → Prop) (base e m L : Nat) (r : Nat → Rw) (w0 wr : World) (k i : Nat) : Prop := ∃ f, Sit wr base e m K r f 0 r0 F0 ∧ (∀ j, j < k → f j = marks j 0 (r j).n) ∧ (f k).take i = marks k 0 i ∧ (∀ j, j < m → wr.cell? ⟨L, j, none⟩ = some (r j).v) ∧ Below base w0 wr ∧ base ≤ w0.heap.size ∧ K L ∧ ∀ b, K b → wr.heap[b]? = w0.heap[b]?
section
variable {K : Nat → Prop} {base e m L : Nat} {r : Nat → Rw} {w0 wr : World} {k i : Nat}
theorem Ph1.start (h : Ph1 K base e m L r w0 wr k) : Ph1i K base e m L r w0 wr k 0 := by
  obtain ⟨f, h1, h2, h3, h4, h6, h7, h8⟩ := h
  exact ⟨f, h1, h2, by simp [marks], h3, h4, h6, h7, h8⟩
theorem Ph1i.done (h : Ph1i K base e m L r w0 wr k (r k).n) (hk : k < m) : Ph1 K base e m L r w0 wr (k + 1) := by
  obtain ⟨f, h1, h2, h3, h4, h5, h6, h7, h8⟩ := h
  refine ⟨f, h1, fun j hj => ?_, h4, h5, h6, h7, h8⟩
  by_cases e : j = k
  · subst e
    rw [← h3, List.take_of_length_le (by rw [(h1.own j hk).len]; exact Nat.le_refl _)]
  · exact h2 j (by omega)
theorem Ph1i.step (h : Ph1i K base e m L r w0 wr k i) (hk : k < m) (hi : i < (r k).n) : ∃ g x, (r k).A = some ⟨g, 0, none⟩ ∧ wr.cell? ⟨g, i, none⟩ = some (B8 x) ∧ wr.frozen? ⟨g, i, none⟩ = false ∧ Ph1i K base e m L r w0 (wr.setCell ⟨g, i, none⟩ (B8 (markB k i))) k (i + 1) := by
  obtain ⟨f, h1, h2, h3, h4, h5, h6, h7, h8⟩ := h
  obtain ⟨g, hA, hb, hc, hf, hz, hS⟩ := h1.store hk hi (markB k i)
  have hl := (h1.own k hk).len
  refine ⟨g, _, hA, hc, hf, _, hS, fun j hj => ?_, ?_, fun j hj => ?_, h5.setCell hb _, h6, h7, fun b hK => (heap_setCell_other wr ⟨g, i, none⟩ b _ (hz b hK)).trans (h8 b hK)⟩
  · rw [upd_other _ _ _ (by omega)]; exact h2 j hj
  · rw [upd_same, marks_succ, ← h3, Nat.zero_add, List.take_succ_eq_append_getElem (by rw [List.length_set]; omega), List.getElem_set_self, List.take_set_of_le (by omega)]
  · rw [cell_setCell_ne _ (hz L h7)]
    exact h4 j hj
theorem Ph1i.drew (h : Ph1i K base e m L r w0 wr k i) : Ph1i K base e m L r w0 wr.drew k i := by
  obtain ⟨f, h1, h2, h3, h4, h5, h6, h7, h8⟩ := h
  exact ⟨f, h1.drew, h2, h3, h4, h5.drew, h6, h7, h8⟩
end

/-- the marks of the rows -/
def mk (r : Nat → Rw) (j : Nat) : List (BitVec 8) := marks j 0 (r j).n
/-- k rows have been grown by 64 and lie in the list G -/
structure Gs (K : Nat → Prop) (base e es m L G : Nat) (r : Nat → Rw) (F : Nat → List (BitVec 8)) (w0 wr : World) (k : Nat) (r' : Nat → Rw) (gl : List Value) : Prop where
  sit : Sit wr base e m (fun b => K b ∨ b = G) r (mk r) k r' F
  n : ∀ j, j < k → (r' j).n = (r j).n + 64
  own : wr.ownsRow G es 1 (.slice (some ⟨G, 0, none⟩) m m) m gl
  pos : ∀ j, j < k → gl[j]? = some (r' j).v
  l : ∀ j, j < m → wr.cell? ⟨L, j, none⟩ = some (r j).v
  bel : Below base w0 wr
  kl : K L
  ne : ∀ b, K b → b ≠ G
  kp : ∀ b, K b → wr.heap[b]? = w0.heap[b]?
  gb : base ≤ G
  bas0 : base ≤ w0.heap.size
def PhG (K : Nat → Prop) (base e es m L G : Nat) (r : Nat → Rw) (F : Nat → List (BitVec 8)) (w0 wr : World) (k : Nat) : Prop := ∃ r' gl, Gs K base e es m L G r F w0 wr k r' gl
/-- and the next one is being grown: x reads bs -/
def PhGi (K : Nat → Prop) (base e es m L G : Nat) (r : Nat → Rw) (F : Nat → List (BitVec 8)) (w0 wr : World) (k : Nat) (x : Rw) (bs : List (BitVec 8)) : Prop :=
  ∃ r' gl, Gs K base e es m L G r F w0 wr k r' gl ∧ Cur wr base e m (fun b => K b ∨ b = G) r (mk r) k r' x bs
/-- and a block M of marks lies by -/
def PhM (K : Nat → Prop) (base e es m L G M : Nat) (r : Nat → Rw) (F : Nat → List (BitVec 8)) (w0 wr : World) (k q : Nat) : Prop :=
  ∃ r' gl bs, Gs K base e es m L G r F w0 wr k r' gl ∧ Sit wr base e m (fun b => (K b ∨ b = G) ∨ b = M) r (mk r) k r' F ∧ (∀ b, K b → b ≠ M) ∧ M ≠ G ∧ base ≤ M ∧ wr.ownsRow M e 1 (.slice (some ⟨M, 0, none⟩) 64 64) 64 (bv bs) ∧ bs.take q = marks (k + m) 0 q
section
variable {K : Nat → Prop} {base e es m L G M q : Nat} {r : Nat → Rw} {F : Nat → List (BitVec 8)} {w0 wr w' : World} {k : Nat} {x x' : Rw} {bs news : List (BitVec 8)}
theorem Ph1.made (h : Ph1 K base e m L r w0 wr m) {gl : List Value} (hg : wr.grownBy w' none) (ho : w'.ownsRow wr.heap.size es 1 (.slice (some ⟨wr.heap.size, 0, none⟩) m m) m gl) : PhG K base e es m L wr.heap.size r F w0 w' 0 := by
  obtain ⟨f, h1, h2, h3, h4, h6, h7, h8⟩ := h
  have hbs : base ≤ wr.heap.size := Nat.le_trans h6 h4.size
  have hlt : wr.heap.size < w'.heap.size := (ho.lt _ rfl).2
  refine ⟨r0, gl, ?_, fun _ h => absurd h (Nat.not_lt_zero _), ho, fun _ h => absurd h (Nat.not_lt_zero _), fun j hj => ?_, h4.grown hg hbs (fun _ h => by cases h), h7, fun b hK => by have := (h1.z b hK).1; omega, fun b hK => (hg.block b (h1.z b hK).1 (by simp)).trans (h8 b hK), hbs, h6⟩
  · have S := (h1.congr h2).grown hg
    exact (S.addZ wr.heap.size hlt (fun j hj h => by have := h1.lt hj h; omega) (fun _ h => absurd h (Nat.not_lt_zero _))).congr' fun _ h => absurd h (Nat.not_lt_zero _)
  · exact hg.cell (h3 j hj) (by simp)
theorem Gs.bas {r' : Nat → Rw} {gl : List Value} (h : Gs K base e es m L G r F w0 wr k r' gl) : base ≤ wr.heap.size := Nat.le_trans h.bas0 h.bel.size
theorem Gs.grown {r' : Nat → Rw} {gl : List Value} (h : Gs K base e es m L G r F w0 wr k r' gl) (hg : wr.grownBy w' none) : Gs K base e es m L G r F w0 w' k r' gl :=
  ⟨h.sit.grown hg, h.n, h.own.kept hg (.inr (by simp [Value.ownBlock])), h.pos, fun j hj => hg.cell (h.l j hj) (by simp), h.bel.grown hg h.bas (fun _ h => by cases h), h.kl, h.ne, fun b hK => (hg.block b (h.sit.z b (.inl hK)).1 (by simp)).trans (h.kp b hK), h.gb, h.bas0⟩
theorem PhG.grown (h : PhG K base e es m L G r F w0 wr k) (hg : wr.grownBy w' none) : PhG K base e es m L G r F w0 w' k := by
  obtain ⟨r', gl, h⟩ := h
  exact ⟨r', gl, h.grown hg⟩
theorem PhG.zero (h : PhG K base e es m L G r F w0 wr k) (F' : Nat → List (BitVec 8)) : PhG K base e es m L G r F' w0 wr 0 := by
  obtain ⟨r', gl, h⟩ := h
  exact ⟨r', gl, h.sit.zero.congr' fun _ h => absurd h (Nat.not_lt_zero _), fun _ h => absurd h (Nat.not_lt_zero _), h.own, fun _ h => absurd h (Nat.not_lt_zero _), h.l, h.bel, h.kl, h.ne, h.kp, h.gb, h.bas0⟩
theorem PhG.drewN (h : PhG K base e es m L G r F w0 wr k) (n : Nat) : PhG K base e es m L G r F w0 (wr.drewN n) k := by
  obtain ⟨r', gl, h⟩ := h
  exact ⟨r', gl, h.sit.drewN n, h.n, h.own, h.pos, h.l, below_drewN h.bel n, h.kl, h.ne, h.kp, h.gb, h.bas0⟩
theorem PhG.start (h : PhG K base e es m L G r F w0 wr k) (hk : k < m) : PhGi K base e es m L G r F w0 wr k (r k) (mk r k) := by
  obtain ⟨r', gl, h⟩ := h
  exact ⟨r', gl, h, Cur.start h.sit hk⟩
theorem PhGi.own (h : PhGi K base e es m L G r F w0 wr k x bs) : x.own wr base e bs := by
  obtain ⟨_, _, _, C⟩ := h
  exact C.own
theorem PhGi.grown (h : PhGi K base e es m L G r F w0 wr k x bs) (hg : wr.grownBy w' none) : PhGi K base e es m L G r F w0 w' k x bs := by
  obtain ⟨r', gl, h, C⟩ := h
  exact ⟨r', gl, h.grown hg, C.grown hg⟩
theorem PhGi.alloc (h : PhGi K base e es m L G r F w0 wr k x bs) (o : Obj) : PhGi K base e es m L G r F w0 (wr.alloc o) k x bs := h.grown (World.grownBy_alloc wr o none)
theorem PhGi.size (h : PhGi K base e es m L G r F w0 wr k x bs) : base ≤ wr.heap.size := by
  obtain ⟨_, _, h, _⟩ := h
  exact h.bas
theorem PhGi.l (h : PhGi K base e es m L G r F w0 wr k x bs) {j : Nat} (hj : j < m) : wr.cell? ⟨L, j, none⟩ = some (r j).v := by
  obtain ⟨_, _, h, _⟩ := h
  exact h.l j hj
theorem PhGi.grew (h : PhGi K base e es m L G r F w0 wr k x bs) (hk : k < m) {mm : Nat} (hG : Grew wr w' base e x x' mm bs news) : PhGi K base e es m L G r F w0 w' k x' (bs ++ news) := by
  obtain ⟨r', gl, h, C⟩ := h
  obtain ⟨S', C'⟩ := C.grew h.sit hk hG
  have hGz := C.z G (.inr rfl)
  have hLz := C.z L (.inl h.kl)
  refine ⟨r', gl, ⟨S', h.n, ?_, h.pos, fun j hj => ?_, hG.below C.own (Nat.le_refl _) h.bas h.bel, h.kl, h.ne, fun b hK => (hG.block (h.sit.z b (.inl hK)).1 (C.z b (.inl hK))).trans (h.kp b hK), h.gb, h.bas0⟩, C'⟩
  · rcases hG.2.2 with ⟨_, _, g, hg, hgr⟩ | ⟨_, _, _, hgr⟩
    · exact h.own.kept hgr (.inr fun e => hGz (by simp [Value.ownBlock] at e; simp [Rw.blk, Rw.v, hg, Value.ownBlock, e]))
    · exact h.own.kept hgr (.inr (by simp [Value.ownBlock]))
  · exact (World.cell?_of_block (hG.block (b := L) (h.sit.z L (.inl h.kl)).1 hLz)).trans (h.l j hj)
theorem PhGi.place (h : PhGi K base e es m L G r F w0 wr k x bs) (hk : k < m) : (∃ v, wr.cell? ⟨G, k, none⟩ = some v) ∧ wr.frozen? ⟨G, k, none⟩ = false := by
  obtain ⟨r', gl, h, C⟩ := h
  have hgl : gl.length = m := by have := h.own.1; omega
  exact ⟨⟨gl[k], by rw [h.own.cellAt k (by omega)]; simp [hgl, hk]⟩, h.own.frozenAt k⟩
theorem PhGi.push (h : PhGi K base e es m L G r F w0 wr k x bs) (hk : k < m) (hn : x.n = (r k).n + 64) (hb : bs = F k) : PhG K base e es m L G r F w0 (wr.setCell ⟨G, k, none⟩ x.v) (k + 1) := by
  obtain ⟨r', gl, h, C⟩ := h
  have hgl : gl.length = m := by have := h.own.1; omega
  refine ⟨upd r' k x, gl.set k x.v, ⟨?_, fun j hj => ?_, (h.own.stored k x.v).1, fun j hj => ?_, fun j hj => ?_, h.bel.setCell h.gb _, h.kl, h.ne, fun b hK => (heap_setCell_other wr ⟨G, k, none⟩ b _ (h.ne b hK)).trans (h.kp b hK), h.gb, h.bas0⟩⟩
  · have S := (h.sit.push C).storeZ (g := G) (.inr rfl) k x.v
    refine S.congr' fun j hj => ?_
    by_cases e : j = k
    · subst e; rw [upd_same]; exact hb
    · rw [upd_other _ _ _ e]
  · by_cases e : j = k
    · subst e; rw [upd_same]; exact hn
    · rw [upd_other _ _ _ e]; exact h.n j (by omega)
  · by_cases e : j = k
    · subst e
      rw [upd_same, List.getElem?_set_self (by omega)]
    · rw [upd_other _ _ _ e, List.getElem?_set_ne (Ne.symm e)]; exact h.pos j (by omega)
  · rw [cell_setCell_ne _ (h.ne L h.kl)]; exact h.l j hj
theorem PhG.gcell (h : PhG K base e es m L G r F w0 wr k) {j : Nat} (hj : j < k) (hk : k ≤ m) : ∃ A c, wr.cell? ⟨G, j, none⟩ = some (.slice A ((r j).n + 64) c) ∧ ∀ i, i < (r j).n + 64 → ∃ g, A = some ⟨g, 0, none⟩ ∧ wr.cell? ⟨g, i, none⟩ = some (B8 ((F j).getD i 0)) := by
  obtain ⟨r', gl, h⟩ := h
  refine ⟨(r' j).A, (r' j).c, ?_, fun i hi => h.sit.at' hj (by rw [h.n j hj]; exact hi)⟩
  rw [h.own.cellAt j (by omega), h.pos j hj, Rw.v, h.n j hj]
theorem PhG.lcell (h : PhG K base e es m L G r F w0 wr k) {j : Nat} (hj : j < m) : wr.cell? ⟨L, j, none⟩ = some (r j).v ∧ ∀ i, i < (r j).n → ∃ g, (r j).A = some ⟨g, 0, none⟩ ∧ wr.cell? ⟨g, i, none⟩ = some (B8 (markB j i)) := by
  obtain ⟨r', gl, h⟩ := h
  refine ⟨h.l j hj, fun i hi => ?_⟩
  obtain ⟨g, h1, h2⟩ := h.sit.at hj hi
  exact ⟨g, h1, by rw [h2, mk, marks_at _ _ _ hi]⟩
theorem PhG.below (h : PhG K base e es m L G r F w0 wr k) : Below base w0 wr := by
  obtain ⟨_, _, h⟩ := h
  exact h.bel
theorem PhG.kept (h : PhG K base e es m L G r F w0 wr k) : ∀ b, K b → wr.heap[b]? = w0.heap[b]? := by
  obtain ⟨_, _, h⟩ := h
  exact h.kp
theorem PhG.mark (h : PhG K base e es m L G r F w0 wr k) {b0 : List (BitVec 8)} (hg : wr.grownBy w' none) (ho : w'.ownsRow wr.heap.size e 1 (.slice (some ⟨wr.heap.size, 0, none⟩) 64 64) 64 (bv b0)) : PhM K base e es m L G wr.heap.size r F w0 w' k 0 := by
  obtain ⟨r', gl, h⟩ := h
  have hlt : wr.heap.size < w'.heap.size := (ho.lt _ rfl).2
  have h1 := (h.sit.z L (.inl h.kl)).1
  have h2 := (h.sit.z G (.inr rfl)).1
  refine ⟨r', gl, b0, h.grown hg, (h.sit.grown hg).addZ wr.heap.size hlt (fun j hj h' => by have := h.sit.lt hj h'; omega) (fun j hj h' => by have := h.sit.lt' hj h'; omega), fun b hK => by have := (h.sit.z b (.inl hK)).1; omega, by omega, h.bas, ho, by simp [marks]⟩
theorem PhM.step (h : PhM K base e es m L G M r F w0 wr k q) (hq : q < 64) : (∃ y, wr.cell? ⟨M, q, none⟩ = some (B8 y)) ∧ wr.frozen? ⟨M, q, none⟩ = false ∧ PhM K base e es m L G M r F w0 (wr.setCell ⟨M, q, none⟩ (B8 (markB ((k + m : Nat)) q))) k (q + 1) := by
  obtain ⟨r', gl, bs, h, S, h1, h2, h3, h4, h5⟩ := h
  have hl : bs.length = 64 := by have := h4.1; rw [bv_length] at this; omega
  refine ⟨⟨bs[q], by rw [h4.cellAt q (by omega)]; simp [bv, hl, hq]⟩, h4.frozenAt q, r', gl, bs.set q (markB ((k + m : Nat)) q), ⟨(S.storeZ (.inr rfl) q _).less fun b hb => .inl hb, h.n, ?_, h.pos, fun j hj => ?_, h.bel.setCell h3 _, h.kl, h.ne, fun b hK => (heap_setCell_other wr ⟨M, q, none⟩ b _ (h1 b hK)).trans (h.kp b hK), h.gb, h.bas0⟩, S.storeZ (.inr rfl) q _, h1, h2, h3, ?_, ?_⟩
  · exact h.own.kept (grownBy_setCell wr M q _) (.inr (by simp [Value.ownBlock]; exact Ne.symm h2))
  · rw [cell_setCell_ne _ (h1 L h.kl)]; exact h.l j hj
  · have e2 : bv (bs.set q (markB ((k + m : Nat)) q)) = (bv bs).set q (B8 (markB ((k + m : Nat)) q)) := by simp [bv]
    rw [e2]; exact (h4.stored q _).1
  · rw [marks_succ, ← h5, Nat.zero_add, List.take_succ_eq_append_getElem (by rw [List.length_set]; omega), List.getElem_set_self, List.take_set_of_le (by omega)]
theorem PhM.g (h : PhM K base e es m L G M r F w0 wr k q) : PhG K base e es m L G r F w0 wr k := by
  obtain ⟨r', gl, bs, h, _⟩ := h
  exact ⟨r', gl, h⟩
theorem PhM.cells (h : PhM K base e es m L G M r F w0 wr k 64) : ∀ j u, (bv (marks (k + m) 0 64))[j]? = some u → wr.cell? ((⟨M, 0, none⟩ : Addr).add j) = some u := by
  obtain ⟨r', gl, bs, h, S, h1, h2, h3, h4, h5⟩ := h
  have hl : bs.length = 64 := by have := h4.1; rw [bv_length] at this; omega
  rw [← h5, List.take_of_length_le (by omega)]
  intro j u hu
  have hj : j < 64 := by have := (List.getElem?_eq_some_iff.1 hu).1; rw [bv_length] at this; omega
  rw [Addr.add_lit, Nat.zero_add, h4.cellAt j (by omega), hu]
end

set_option maxHeartbeats 4000000 in
set_option maxRecDepth 100000 in
theorem flatBytes_any (K : Nat → Prop) (L m cL : Nat) (r : Nat → Rw) (f : Nat → List (BitVec 8)) (base : Nat) (w : World) (S : Sit w base 5 m K r f 0 r0 F0) (hL : ∀ j, j < m → w.cell? ⟨L, j, none⟩ = some (r j).v)
    (hm : m ≤ 1000000) (hn : ∀ j, j < m → (r j).n ≤ 1000000000000) (hbase : base ≤ w.heap.size) (hK : K L) :
    Calls Try.prog 87 #[.slice (some ⟨L, 0, none⟩) m cL] w fun e w' => e = .returned (.bool true) ∧ Below base w w' ∧ ∀ b, K b → w'.heap[b]? = w.heap[b]? := by
  obtain ⟨i0, hi, hz0, hz1, hz2⟩ := info_parts infoByte
  obtain ⟨j0, hj0, hy0, hy1, hy2⟩ := info_parts infoBytes
  have hp1 : Ph1 K base 5 m L r w w 0 := ⟨f, S, fun j hj => absurd hj (Nat.not_lt_zero _), hL, (Below.refl _ _).mono hbase, hbase, hK, fun _ _ => rfl⟩
  have HP1 := Lib.hid hp1; have HN := Lib.hid hn
  clear S hL hn hp1 hK
  go_enter Try.func87, Try.ntmps87
  go_wp2
  go_loopw [3, 4] (fun i _ wr => ∃ k : Nat, k ≤ m ∧ i = .int .i64 (k : Int) ∧ Ph1 K base 5 m L r w wr k) (fun i _ _ => m - (intOf i).toNat)
  case atStart => exact ⟨0, Nat.zero_le _, rfl, HP1.out⟩
  case round =>
    clear HP1
    obtain ⟨k, hk, rfl, hp⟩ := hrel
    rcases Nat.lt_or_ge k m with h1 | h1
    · have i1 : (k : Int) < (m : Int) := by omega
      have k0 : (0 : Int) ≤ (k : Int) := by omega
      obtain ⟨A, n, c, hr⟩ : ∃ A n c, r k = ⟨A, n, c⟩ := ⟨_, _, _, rfl⟩
      have hnk : n ≤ 1000000000000 := by have := HN.out k h1; rw [hr] at this; exact this
      have HR := Lib.hid hr; have HP := Lib.hid hp.start
      clear hr hp
      go_wp2
      go_loopw [4] (fun i wx => ∃ q : Nat, q ≤ n ∧ i = .int .i64 (q : Int) ∧ Ph1i K base 5 m L r w wx k q) (fun i _ => n - (intOf i).toNat)
      case atStart => exact ⟨0, Nat.zero_le _, rfl, HP.out⟩
      case round =>
        clear HP
        obtain ⟨q, hq, rfl, hp⟩ := hrel
        have q0 : (0 : Int) ≤ (q : Int) := by omega
        have cl : wr.cell? ⟨L, k, none⟩ = some (.slice A n c) := by
          obtain ⟨_, _, _, _, h4, _⟩ := hp
          rw [h4 k h1, HR.out]; rfl
        rcases Nat.lt_or_ge q n with h2 | h2
        · have q1 : (q : Int) < (n : Int) := by omega
          obtain ⟨g, x, hA, hc, hf, hstep⟩ := hp.step h1 (i := q) (by rw [HR.out]; exact h2)
          rw [HR.out] at hA
          obtain rfl : A = some ⟨g, 0, none⟩ := hA
          have HS := Lib.hid hstep
          clear hstep hp
          go_wp2_with fail
          refine wp_region_still_tail 9 (by kernel_rfl) (by kernel_rfl) ?_
          simp only [List.take_succ_cons, List.take_zero, List.drop_succ_cons, List.drop_zero]
          repeat (first | still_step | still_call (st_same (markByte_any _ _ _)))
          refine wpStill_nil ?_
          change wpList _ _ _ _ _ wr.drew
          refine wpList_store_one rfl _ _ _ rfl _ _ _ rfl rfl rfl (by kernel_rfl) hc hf ?_
          go_wp2
          go_roundw
          case rel => exact ⟨q + 1, by omega, by go_num, HS.out.drew⟩
          case measure => simp [intOf]; omega
        · have hqn : q = n := by omega
          have q1 : ¬ (q : Int) < (n : Int) := by omega
          have hd : Ph1 K base 5 m L r w wr (k + 1) := by
            rw [hqn] at hp
            exact Ph1i.done (by rw [HR.out]; exact hp) h1
          have HD := Lib.hid hd
          clear hp hqn hd
          go_wp2
          go_roundw
          case rel => exact ⟨k + 1, by omega, by go_num, HD.out⟩
          case measure => simp [intOf]; omega
    · have hkm : k = m := by omega
      have i1 : ¬ (k : Int) < (m : Int) := by omega
      rw [hkm] at hp
      have HP := Lib.hid hp
      clear hp hkm
      go_wp2_with (at_make; refine wpList_make_full _ rfl _ _ 39 rfl wr.heap.size 27 j0 (.slice none 0 0) 1 Try.underlying39 hj0 hy0 hy1 _ _ _ _ m rfl rfl rfl rfl (by rw [hy2]; omega) (by unfold maxLen; omega) (Nat.le_refl _) ?_; intro w1 hown1 hgrow1)
      have hp2 : PhG K base 5 27 m L wr.heap.size r (fun j => marks j 0 ((r j).n + 64)) w w1 0 := HP.out.made hgrow1 hown1
      have HP2 := Lib.hid hp2
      clear hp2 HP hgrow1 hown1
      generalize wr.heap.size = G at *
      go_loopw [6, 7, 8] (fun i _ _ wy => ∃ k : Nat, k ≤ m ∧ i = .int .i64 (k : Int) ∧ PhG K base 5 27 m L G r (fun j => marks j 0 ((r j).n + 64)) w wy k) (fun i _ _ _ => m - (intOf i).toNat)
      case atStart => exact ⟨0, Nat.zero_le _, rfl, HP2.out⟩
      case round =>
        clear HP2
        obtain ⟨k, hk, rfl, hp⟩ := hrel
        rcases Nat.lt_or_ge k m with h2 | h2
        · have i1 : (k : Int) < (m : Int) := by omega
          have k0 : (0 : Int) ≤ (k : Int) := by omega
          obtain ⟨A, n, c, hr⟩ : ∃ A n c, r k = ⟨A, n, c⟩ := ⟨_, _, _, rfl⟩
          have hnk : n ≤ 1000000000000 := by have := HN.out k h2; rw [hr] at this; exact this
          have cl : wr.cell? ⟨L, k, none⟩ = some (.slice A n c) := by rw [(hp.lcell h2).1, hr]; rfl
          have hp1 : PhGi K base 5 27 m L G r (fun j => marks j 0 ((r j).n + 64)) w wr k ⟨A, n, c⟩ (marks k 0 n) := by
            have := hp.start h2
            rw [mk, hr] at this; exact this
          have HR := Lib.hid hr; have HP1 := Lib.hid hp1
          clear hr hp hp1
          go_wp2
          clear cl
          go_loopw [7, 8] (fun v i wz => ∃ (q N c' : Nat) (A' : Option Addr), q ≤ 64 ∧ i = .int .i64 (q : Int) ∧ v = .slice A' N c' ∧ N = n + q ∧ PhGi K base 5 27 m L G r (fun j => marks j 0 ((r j).n + 64)) w wz k ⟨A', N, c'⟩ (marks k 0 N)) (fun _ i _ => 64 - (intOf i).toNat)
          case atStart => exact ⟨0, n, c, A, by omega, rfl, rfl, rfl, HP1.out⟩
          case round =>
            clear HP1
            obtain ⟨q, N, c', A', hq, rfl, rfl, hNq, hp⟩ := hrel
            have hN2 : N ≤ n + 64 := by omega
            have HNQ := Lib.hid hNq
            clear hNq
            rcases Nat.lt_or_ge q 64 with h3 | h3
            · have q1 : (q : Int) < 64 := by omega
              have q0 : (0 : Int) ≤ (q : Int) := by omega
              have cl : wr.cell? ⟨L, k, none⟩ = some (.slice A n c) := by rw [hp.l h2, HR.out]; rfl
              have HP := Lib.hid hp
              have hsz := hp.size
              clear hp
              go_wp2_with (first
                | (go_at_call 47; refine (markByte_any _ _ _).mono ?_; rintro e w' ⟨rfl, rfl⟩)
                | (at_builtin; refine wpList_append_either _ rfl _ _ 27 rfl base 5 i0 (.int .u8 0) 1 Try.underlying27 hi hz0 hz1 hz2 rfl ⟨A', N, c'⟩ (marks k 0 N) rfl (HP.out.alloc _).own ⟨wr.heap.size, 0, none⟩ 1 1 [markB (k : Int) ((n : Int) + (q : Int))] rfl rfl (cell_last _ _ _) (by omega) (by show N + 1 ≤ _; unfold maxLen; omega) (by show (N + 1) * 1 ≤ _; omega) (by simp; omega) ?_; intro A2 c2 w3 hG))
              have hp3 := (HP.out.alloc _).grew h2 hG
              have HP3 := Lib.hid hp3
              clear hp3 hG cl
              go_roundw
              case rel =>
                refine ⟨q + 1, N + 1, c2, A2, by omega, by go_num, rfl, by have := HNQ.out; omega, ?_⟩
                rw [marks_succ, show ((0 + N : Nat) : Int) = (n : Int) + (q : Int) by have := HNQ.out; omega]
                exact HP3.out
              case measure => simp [intOf]; omega
            · have hq64 : q = 64 := by omega
              have q1 : ¬ (q : Int) < 64 := by omega
              obtain ⟨⟨v0, hv0⟩, hf0⟩ := hp.place h2
              have hp4 := hp.push h2 (by rw [HR.out]; show N = n + 64; have := HNQ.out; omega) (by show marks k 0 N = marks k 0 ((r k).n + 64); rw [HR.out]; show marks k 0 N = marks k 0 (n + 64); rw [HNQ.out, hq64])
              have HP4 := Lib.hid hp4
              clear hp hp4 hq64
              go_wp2
              go_roundw
              case rel => exact ⟨k + 1, by omega, by go_num, HP4.out⟩
              case measure => simp [intOf]; omega
        · have hkm : k = m := by omega
          have i1 : ¬ (k : Int) < (m : Int) := by omega
          rw [hkm] at hp
          have HP := Lib.hid hp
          clear hp hkm
          obtain ⟨wq, rfl⟩ : ∃ wq : World, wq = wr := ⟨_, rfl⟩
          go_wp2
          go_loopw [9, 10] (fun i _ wz => ∃ k : Nat, k ≤ m ∧ i = .int .i64 (k : Int) ∧ ∃ q, wz = wq.drewN q) (fun i _ _ => m - (intOf i).toNat)
          case atStart => exact ⟨0, Nat.zero_le _, rfl, 0, rfl⟩
          case round =>
            obtain ⟨k, hk, rfl, qd, rfl⟩ := hrel
            rcases Nat.lt_or_ge k m with h3 | h3
            · have i1 : (k : Int) < (m : Int) := by omega
              have k0 : (0 : Int) ≤ (k : Int) := by omega
              obtain ⟨A, n, c, hr⟩ : ∃ A n c, r k = ⟨A, n, c⟩ := ⟨_, _, _, rfl⟩
              have hnk : n ≤ 1000000000000 := by have := HN.out k h3; rw [hr] at this; exact this
              obtain ⟨cl, hlx⟩ := HP.out.lcell h3
              obtain ⟨A2, c2, cg, hgx⟩ := HP.out.gcell h3 (Nat.le_refl _)
              rw [hr] at cl hlx cg hgx
              have cl' : wq.cell? ⟨L, k, none⟩ = some (.slice A n c) := cl
              obtain ⟨N, hN⟩ : ∃ N, N = n + 64 := ⟨_, rfl⟩
              have cg' : wq.cell? ⟨G, k, none⟩ = some (.slice A2 N c2) := by rw [hN]; exact cg
              have hN2 : N ≤ n + 64 := by omega
              have hN3 : n + 64 ≤ N := by omega
              have HLX := Lib.hid hlx; have HGX := Lib.hid hgx
              clear hr cl cg hN hlx hgx
              go_wp2
              go_loopw [10] (fun i wz => ∃ p : Nat, p ≤ N ∧ i = .int .i64 (p : Int) ∧ ∃ q, wz = wq.drewN q) (fun i _ => N - (intOf i).toNat)
              case atStart => exact ⟨0, Nat.zero_le _, rfl, _, rfl⟩
              case round =>
                obtain ⟨p, hp, rfl, qe, rfl⟩ := hrel
                have p0 : (0 : Int) ≤ (p : Int) := by omega
                rcases Nat.lt_or_ge p N with h4 | h4
                · have p1 : (p : Int) < (N : Int) := by omega
                  obtain ⟨gg, rfl, cgg⟩ := HGX.out p (by show p < n + 64; omega)
                  have cgg' : wq.cell? ⟨gg, p, none⟩ = some (B8 (markB (k : Int) (p : Int))) := by
                    rw [cgg]; show some (B8 ((marks k 0 (n + 64)).getD p 0)) = _
                    rw [marks_at _ _ _ (by omega)]
                  rcases Nat.lt_or_ge p n with h5 | h5
                  · have p2 : (p : Int) < (n : Int) := by omega
                    have d1 : decide ((p : Int) < (n : Int)) = true := by simpa using p2
                    have d2 : decide (p < n) = true := by simpa using h5
                    obtain ⟨gl, hgl, cll⟩ := HLX.out p h5
                    obtain rfl : A = some ⟨gl, 0, none⟩ := hgl
                    clear cgg
                    go_wp2_with fail
                    go_quiet ((go_at_call 47; first | (with_reducible exact q_add (markByte_any _ _ _)) | (with_reducible exact q_same (markByte_any _ _ _))))
                    go_wp2
                    go_roundw
                    case rel => exact ⟨p + 1, by omega, by go_num, _, rfl⟩
                    case measure => simp [intOf]; omega
                  · have p2 : ¬ (p : Int) < (n : Int) := by omega
                    have d1 : decide ((p : Int) < (n : Int)) = false := by simpa using p2
                    have d2 : decide (p < n) = false := by simp; omega
                    clear cgg
                    go_wp2_with fail
                    go_quiet ((go_at_call 47; first | (with_reducible exact q_add (markByte_any _ _ _)) | (with_reducible exact q_same (markByte_any _ _ _))))
                    go_wp2
                    go_roundw
                    case rel => exact ⟨p + 1, by omega, by go_num, _, rfl⟩
                    case measure => simp [intOf]; omega
                · have p1 : ¬ (p : Int) < (N : Int) := by omega
                  go_wp2
                  go_roundw
                  case rel => exact ⟨k + 1, by omega, by go_num, _, rfl⟩
                  case measure => simp [intOf]; omega
            · have i1 : ¬ (k : Int) < (m : Int) := by omega
              have hp4 := (HP.out.drewN qd).zero (fun j => mk r j ++ marks (j + m) 0 64)
              have HP4 := Lib.hid hp4
              clear hp4 HP
              go_wp2
              generalize wq.drewN qd = wq at *
              go_loopw [11, 12, 13] (fun i _ _ wz => ∃ k : Nat, k ≤ m ∧ i = .int .i64 (k : Int) ∧ PhG K base 5 27 m L G r (fun j => mk r j ++ marks (j + m) 0 64) w wz k) (fun i _ _ _ => m - (intOf i).toNat)
              case atStart => exact ⟨0, Nat.zero_le _, rfl, HP4.out⟩
              case round =>
                clear HP4
                obtain ⟨k, hk, rfl, hp⟩ := hrel
                rcases Nat.lt_or_ge k m with h4 | h4
                · have i1 : (k : Int) < (m : Int) := by omega
                  have k0 : (0 : Int) ≤ (k : Int) := by omega
                  obtain ⟨A, n, c, hr⟩ : ∃ A n c, r k = ⟨A, n, c⟩ := ⟨_, _, _, rfl⟩
                  have hnk : n ≤ 1000000000000 := by have := HN.out k h4; rw [hr] at this; exact this
                  have HR := Lib.hid hr; have HP := Lib.hid hp
                  have hwr := hp.below.size
                  clear hr hp
                  go_wp2_with (at_make; refine wpList_make_full _ rfl _ _ 27 rfl wr.heap.size 5 i0 (.int .u8 0) 1 Try.underlying27 hi hz0 hz1 _ _ _ _ 64 rfl rfl rfl rfl (by rw [hz2]; omega) (by unfold maxLen; omega) (Nat.le_refl _) ?_; intro w1 hown1 hgrow1)
                  have hpm : PhM K base 5 27 m L G wr.heap.size r (fun j => mk r j ++ marks (j + m) 0 64) w w1 k 0 := HP.out.mark (b0 := List.replicate 64 0#8) hgrow1 (made64 hown1)
                  have HPM := Lib.hid hpm
                  clear hpm hgrow1 hown1 HP
                  generalize wr.heap.size = M at *
                  go_loopw [13] (fun i wx => ∃ q : Nat, q ≤ 64 ∧ i = .int .i64 (q : Int) ∧ PhM K base 5 27 m L G M r (fun j => mk r j ++ marks (j + m) 0 64) w wx k q) (fun i _ => 64 - (intOf i).toNat)
                  case atStart => exact ⟨0, Nat.zero_le _, rfl, HPM.out⟩
                  case round =>
                    clear HPM
                    obtain ⟨q, hq, rfl, hp⟩ := hrel
                    rcases Nat.lt_or_ge q 64 with h5 | h5
                    · have q1 : (q : Int) < 64 := by omega
                      have q0 : (0 : Int) ≤ (q : Int) := by omega
                      obtain ⟨⟨y, hy⟩, hf, hs⟩ := hp.step h5
                      rw [show ((k + m : Nat) : Int) = (k : Int) + (m : Int) by omega] at hs
                      have HS := Lib.hid hs
                      clear hp hs
                      go_wp2_with (first | (with_reducible refine wpList_store_one rfl 5 (.tmp 142) (.tmp 141) rfl ⟨M, q, none⟩ _ _ rfl rfl rfl (by kernel_rfl) hy hf ?_) | (go_at_call 47; refine (markByte_any _ _ _).mono ?_; rintro e w' ⟨rfl, rfl⟩))
                      go_roundw
                      case rel => exact ⟨q + 1, by omega, by go_num, HS.out⟩
                      case measure => simp [intOf]; omega
                    · have hq64 : q = 64 := by omega
                      have q1 : ¬ (q : Int) < 64 := by omega
                      rw [hq64] at hp
                      have hst := hp.g.start h4
                      rw [mk, HR.out] at hst
                      have hst' : PhGi K base 5 27 m L G r (fun j => mk r j ++ marks (j + m) 0 64) w wr k ⟨A, n, c⟩ (marks k 0 n) := hst
                      have hcs := hp.cells
                      have cl : wr.cell? ⟨L, k, none⟩ = some (.slice A n c) := by rw [hst'.l h4, HR.out]; rfl
                      have hsz := hst'.size
                      have HST := Lib.hid hst'; have HCS := Lib.hid hcs
                      clear hp hq64 hst hst' hcs
                      go_wp2_with (at_builtin; refine wpList_append_either _ rfl _ _ 27 rfl base 5 i0 (.int .u8 0) 1 Try.underlying27 hi hz0 hz1 hz2 rfl ⟨A, n, c⟩ (marks k 0 n) rfl HST.out.own ⟨M, 0, none⟩ 64 64 (marks (k + m) 0 64) rfl (marks_length _ _ _) HCS.out (by omega) (by show n + 64 ≤ _; unfold maxLen; omega) (by show (n + 64) * 1 ≤ _; omega) hsz ?_; intro A2 c2 w3 hG; have hp3 := HST.out.grew h4 hG; obtain ⟨⟨v0, hv0⟩, hf0⟩ := hp3.place h4; have HP3 := Lib.hid hp3; clear hp3 hG)
                      have hp4 := HP3.out.push h4 (by rw [HR.out]) (by show _ = mk r k ++ _; rw [mk, HR.out])
                      have HP4 := Lib.hid hp4
                      clear hp4
                      go_roundw
                      case rel => exact ⟨k + 1, by omega, by go_num, HP4.out⟩
                      case measure => simp [intOf]; omega
                · have hkm : k = m := by omega
                  have i1 : ¬ (k : Int) < (m : Int) := by omega
                  rw [hkm] at hp
                  have HP := Lib.hid hp
                  clear hp hkm
                  obtain ⟨wq, rfl⟩ : ∃ wq : World, wq = wr := ⟨_, rfl⟩
                  go_wp2
                  go_loopw [14, 15] (fun i _ wz => ∃ k : Nat, k ≤ m ∧ i = .int .i64 (k : Int) ∧ ∃ q, wz = wq.drewN q) (fun i _ _ => m - (intOf i).toNat)
                  case atStart => exact ⟨0, Nat.zero_le _, rfl, 0, rfl⟩
                  case round =>
                    obtain ⟨k, hk, rfl, qd, rfl⟩ := hrel
                    rcases Nat.lt_or_ge k m with h5 | h5
                    · have i1 : (k : Int) < (m : Int) := by omega
                      have k0 : (0 : Int) ≤ (k : Int) := by omega
                      obtain ⟨A, n, c, hr⟩ : ∃ A n c, r k = ⟨A, n, c⟩ := ⟨_, _, _, rfl⟩
                      have hnk : n ≤ 1000000000000 := by have := HN.out k h5; rw [hr] at this; exact this
                      obtain ⟨cl, hlx⟩ := HP.out.lcell h5
                      obtain ⟨A2, c2, cg, hgx⟩ := HP.out.gcell h5 (Nat.le_refl _)
                      rw [mk, hr] at hgx
                      rw [hr] at cl hlx cg
                      have cl' : wq.cell? ⟨L, k, none⟩ = some (.slice A n c) := cl
                      obtain ⟨N, hN⟩ : ∃ N, N = n + 64 := ⟨_, rfl⟩
                      have cg' : wq.cell? ⟨G, k, none⟩ = some (.slice A2 N c2) := by rw [hN]; exact cg
                      have hN2 : N ≤ n + 64 := by omega
                      have hN3 : n + 64 ≤ N := by omega
                      have HLX := Lib.hid hlx; have HGX := Lib.hid hgx
                      clear hr cl cg hN hlx hgx
                      go_wp2
                      go_loopw [15] (fun i wz => ∃ p : Nat, p ≤ n ∧ i = .int .i64 (p : Int) ∧ ∃ q, wz = wq.drewN q) (fun i _ => n - (intOf i).toNat)
                      case atStart => exact ⟨0, Nat.zero_le _, rfl, _, rfl⟩
                      case round =>
                        obtain ⟨p, hp, rfl, qe, rfl⟩ := hrel
                        have p0 : (0 : Int) ≤ (p : Int) := by omega
                        rcases Nat.lt_or_ge p n with h6 | h6
                        · have p1 : (p : Int) < (n : Int) := by omega
                          have p2 : (p : Int) < (N : Int) := by omega
                          obtain ⟨gg, rfl, cgg⟩ := HGX.out p (by show p < n + 64; omega)
                          have cgg' : wq.cell? ⟨gg, p, none⟩ = some (B8 (markB (k : Int) (p : Int))) := by
                            rw [cgg]; show some (B8 ((marks k 0 n ++ marks (k + m) 0 64).getD p 0)) = _
                            rw [getD_left _ _ (by rw [marks_length]; exact h6), marks_at _ _ _ (by omega)]
                          obtain ⟨gl, hgl, cll⟩ := HLX.out p h6
                          obtain rfl : A = some ⟨gl, 0, none⟩ := hgl
                          clear cgg
                          go_wp2_with fail
                          go_quiet ((go_at_call 47; first | (with_reducible exact q_add (markByte_any _ _ _)) | (with_reducible exact q_same (markByte_any _ _ _))))
                          go_wp2
                          go_roundw
                          case rel => exact ⟨p + 1, by omega, by go_num, _, rfl⟩
                          case measure => simp [intOf]; omega
                        · have p1 : ¬ (p : Int) < (n : Int) := by omega
                          go_wp2
                          go_roundw
                          case rel => exact ⟨k + 1, by omega, by go_num, _, rfl⟩
                          case measure => simp [intOf]; omega
                    · have i1 : ¬ (k : Int) < (m : Int) := by omega
                      go_wp2
                      go_ret
                      exact ⟨rfl, below_drewN HP.out.below _, HP.out.kept⟩
end Go.Proofs.Ytfpjmeknjhhakaa.K

/- The contract of barbicankit's apart at a bag that holds rows of bytes alone. -/
namespace Go.Proofs.Ytfpjmeknjhhakaa.K
open Go Go.RowKit

def nilS : Value := .slice none 0 0
def bagCells (v : Value) : List Value := [.slice none 0 0, .slice none 0 0, .slice none 0 0, .slice none 0 0, .slice none 0 0, v, .slice none 0 0, .slice none 0 0, .slice none 0 0, .slice none 0 0, .slice none 0 0, .slice none 0 0, .slice none 0 0, .slice none 0 0, .slice none 0 0, .slice none 0 0, .slice none 0 0, .slice none 0 0, .slice none 0 0, .slice none 0 0, .slice none 0 0]
theorem bag_at (v : Value) (j : Nat) (hj : j < 21) (h5 : j ≠ 5) : (bagCells v)[j]? = some (.slice none 0 0) := by
  rcases j with _ | _ | _ | _ | _ | _ | _ | _ | _ | _ | _ | _ | _ | _ | _ | _ | _ | _ | _ | _ | _ | j
  all_goals first | rfl | (exact absurd rfl h5) | omega
theorem bag_five (v : Value) : (bagCells v)[5]? = some v := rfl
/-- the block g holds a bag whose lists of bytes are v -/
def IsBag (w : World) (g : Nat) (v : Value) : Prop := ∃ t, w.heap[g]? = some (.cells (bagCells v).toArray t (0, 0))
theorem IsBag.nil {w : World} {g : Nat} {v : Value} (h : IsBag w g v) (j : Nat) (hj : j < 21) (h5 : j ≠ 5) : w.cell? ⟨g, j, none⟩ = some (.slice none 0 0) := by
  obtain ⟨t, h⟩ := h
  exact block_cell h (bag_at v j hj h5)
theorem IsBag.five {w : World} {g : Nat} {v : Value} (h : IsBag w g v) : w.cell? ⟨g, 5, none⟩ = some v := by
  obtain ⟨t, h⟩ := h
  exact block_cell h (bag_five v)
theorem IsBag.lt {w : World} {g : Nat} {v : Value} (h : IsBag w g v) : g < w.heap.size := by
  obtain ⟨t, h⟩ := h
  exact (Array.getElem?_eq_some_iff.1 h).1
theorem IsBag.below {w w' : World} {g : Nat} {v : Value} (h : IsBag w g v) (hb : Below w.heap.size w w') : IsBag w' g v := by
  have hl := h.lt
  obtain ⟨t, h⟩ := h
  exact ⟨t, (hb.block g hl).trans h⟩

set_option maxHeartbeats 4000000 in
set_option maxRecDepth 100000 in
theorem apart_any (g : Nat) (v : Value) (base : Nat) (w : World) (hg : IsBag w g v) (hbase : base ≤ w.heap.size) (hf : ∀ w1, Below w.heap.size w w1 → Calls Try.prog 87 #[v] w1 fun e w' => e = .returned (.bool true) ∧ Below base w1 w' ∧ w'.heap[g]? = w1.heap[g]?) :
    Calls Try.prog 49 #[.pointer (some ⟨g, 0, none⟩)] w fun e w' => e = .returned (.bool true) ∧ Below base w w' := by
  have hb0 : Below w.heap.size w w := Below.refl _ _
  have HF := Lib.hid hf; have HG0 := Lib.hid hg; have HB0 := Lib.hid hb0
  clear hf hg hb0
  go_enter Try.func49, Try.ntmps49
  have c0 : w.cell? ⟨g, 0, none⟩ = some (.slice none 0 0) := HG0.out.nil 0 (by omega) (by omega)
  go_wp2_with fail
  refine (flatLimbs_nil _).mono ?_
  rintro e w1 ⟨rfl, hb⟩
  have HG1 := Lib.hid (HG0.out.below hb)
  have HB1 := Lib.hid (HB0.out.trans (hb.mono HB0.out.size))
  clear c0 hb HG0 HB0
  have c1 : w1.cell? ⟨g, 1, none⟩ = some (.slice none 0 0) := HG1.out.nil 1 (by omega) (by omega)
  go_wp2_with fail
  refine (flatWords_nil _).mono ?_
  rintro e w2 ⟨rfl, hb⟩
  have HG2 := Lib.hid (HG1.out.below hb)
  have HB2 := Lib.hid (HB1.out.trans (hb.mono HB1.out.size))
  clear c1 hb HG1 HB1
  have c2 : w2.cell? ⟨g, 2, none⟩ = some (.slice none 0 0) := HG2.out.nil 2 (by omega) (by omega)
  go_wp2_with fail
  refine (flatInts_nil _).mono ?_
  rintro e w3 ⟨rfl, hb⟩
  have HG3 := Lib.hid (HG2.out.below hb)
  have HB3 := Lib.hid (HB2.out.trans (hb.mono HB2.out.size))
  clear c2 hb HG2 HB2
  have c3 : w3.cell? ⟨g, 3, none⟩ = some (.slice none 0 0) := HG3.out.nil 3 (by omega) (by omega)
  go_wp2_with fail
  refine (flatLongs_nil _).mono ?_
  rintro e w4 ⟨rfl, hb⟩
  have HG4 := Lib.hid (HG3.out.below hb)
  have HB4 := Lib.hid (HB3.out.trans (hb.mono HB3.out.size))
  clear c3 hb HG3 HB3
  have c4 : w4.cell? ⟨g, 4, none⟩ = some (.slice none 0 0) := HG4.out.nil 4 (by omega) (by omega)
  go_wp2_with fail
  refine (flatTexts_nil _).mono ?_
  rintro e w5 ⟨rfl, hb⟩
  have HG5 := Lib.hid (HG4.out.below hb)
  have HB5 := Lib.hid (HB4.out.trans (hb.mono HB4.out.size))
  clear c4 hb HG4 HB4
  have c5 : w5.cell? ⟨g, 5, none⟩ = some v := HG5.out.five
  go_wp2_with fail
  refine (HF.out _ HB5.out).mono ?_
  rintro e w6 ⟨rfl, hb, hbg⟩
  have hg6 : IsBag w6 g v := by
    obtain ⟨t, h⟩ := HG5.out
    exact ⟨t, hbg.trans h⟩
  have HG6 := Lib.hid hg6
  have HB6 := Lib.hid ((HB5.out.mono hbase).trans hb)
  clear c5 hb hbg hg6 HG5 HB5
  have c6 : w6.cell? ⟨g, 6, none⟩ = some (.slice none 0 0) := HG6.out.nil 6 (by omega) (by omega)
  go_wp2_with fail
  refine (flatTruths_nil _).mono ?_
  rintro e w7 ⟨rfl, hb⟩
  have HG7 := Lib.hid (HG6.out.below hb)
  have HB7 := Lib.hid (HB6.out.trans (hb.mono (Nat.le_trans hbase HB6.out.size)))
  clear c6 hb HG6 HB6
  have c7 : w7.cell? ⟨g, 7, none⟩ = some (.slice none 0 0) := HG7.out.nil 7 (by omega) (by omega)
  go_wp2_with fail
  refine (flatIns_nil _).mono ?_
  rintro e w8 ⟨rfl, hb⟩
  have HG8 := Lib.hid (HG7.out.below hb)
  have HB8 := Lib.hid (HB7.out.trans (hb.mono (Nat.le_trans hbase HB7.out.size)))
  clear c7 hb HG7 HB7
  have c8 : w8.cell? ⟨g, 8, none⟩ = some (.slice none 0 0) := HG8.out.nil 8 (by omega) (by omega)
  go_wp2_with fail
  refine (flatSpans_nil _).mono ?_
  rintro e w9 ⟨rfl, hb⟩
  have HG9 := Lib.hid (HG8.out.below hb)
  have HB9 := Lib.hid (HB8.out.trans (hb.mono (Nat.le_trans hbase HB8.out.size)))
  clear c8 hb HG8 HB8
  have c9 : w9.cell? ⟨g, 9, none⟩ = some (.slice none 0 0) := HG9.out.nil 9 (by omega) (by omega)
  go_wp2_with fail
  refine (flatKnowns_nil _).mono ?_
  rintro e w10 ⟨rfl, hb⟩
  have HG10 := Lib.hid (HG9.out.below hb)
  have HB10 := Lib.hid (HB9.out.trans (hb.mono (Nat.le_trans hbase HB9.out.size)))
  clear c9 hb HG9 HB9
  have c10 : w10.cell? ⟨g, 10, none⟩ = some (.slice none 0 0) := HG10.out.nil 10 (by omega) (by omega)
  go_wp2_with fail
  refine (flatPlaces_nil _).mono ?_
  rintro e w11 ⟨rfl, hb⟩
  have HG11 := Lib.hid (HG10.out.below hb)
  have HB11 := Lib.hid (HB10.out.trans (hb.mono (Nat.le_trans hbase HB10.out.size)))
  clear c10 hb HG10 HB10
  have c11 : w11.cell? ⟨g, 11, none⟩ = some (.slice none 0 0) := HG11.out.nil 11 (by omega) (by omega)
  go_wp2_with fail
  refine (flatFaults_nil _).mono ?_
  rintro e w12 ⟨rfl, hb⟩
  have HG12 := Lib.hid (HG11.out.below hb)
  have HB12 := Lib.hid (HB11.out.trans (hb.mono (Nat.le_trans hbase HB11.out.size)))
  clear c11 hb HG11 HB11
  have c12 : w12.cell? ⟨g, 12, none⟩ = some (.slice none 0 0) := HG12.out.nil 12 (by omega) (by omega)
  go_wp2_with fail
  refine (flatOutcomes_nil _).mono ?_
  rintro e w13 ⟨rfl, hb⟩
  have HG13 := Lib.hid (HG12.out.below hb)
  have HB13 := Lib.hid (HB12.out.trans (hb.mono (Nat.le_trans hbase HB12.out.size)))
  clear c12 hb HG12 HB12
  have c13 : w13.cell? ⟨g, 13, none⟩ = some (.slice none 0 0) := HG13.out.nil 13 (by omega) (by omega)
  go_wp2_with fail
  refine (flatFlats_nil _).mono ?_
  rintro e w14 ⟨rfl, hb⟩
  have HG14 := Lib.hid (HG13.out.below hb)
  have HB14 := Lib.hid (HB13.out.trans (hb.mono (Nat.le_trans hbase HB13.out.size)))
  clear c13 hb HG13 HB13
  have c14 : w14.cell? ⟨g, 14, none⟩ = some (.slice none 0 0) := HG14.out.nil 14 (by omega) (by omega)
  go_wp2_with fail
  refine (flatBundles_nil _).mono ?_
  rintro e w15 ⟨rfl, hb⟩
  have HG15 := Lib.hid (HG14.out.below hb)
  have HB15 := Lib.hid (HB14.out.trans (hb.mono (Nat.le_trans hbase HB14.out.size)))
  clear c14 hb HG14 HB14
  have c15 : w15.cell? ⟨g, 15, none⟩ = some (.slice none 0 0) := HG15.out.nil 15 (by omega) (by omega)
  go_wp2_with fail
  refine (flatEntries_nil _).mono ?_
  rintro e w16 ⟨rfl, hb⟩
  have HG16 := Lib.hid (HG15.out.below hb)
  have HB16 := Lib.hid (HB15.out.trans (hb.mono (Nat.le_trans hbase HB15.out.size)))
  clear c15 hb HG15 HB15
  have c16 : w16.cell? ⟨g, 16, none⟩ = some (.slice none 0 0) := HG16.out.nil 16 (by omega) (by omega)
  go_wp2_with fail
  refine (flatHeldRow_nil _).mono ?_
  rintro e w17 ⟨rfl, hb⟩
  have HG17 := Lib.hid (HG16.out.below hb)
  have HB17 := Lib.hid (HB16.out.trans (hb.mono (Nat.le_trans hbase HB16.out.size)))
  clear c16 hb HG16 HB16
  have c17 : w17.cell? ⟨g, 17, none⟩ = some (.slice none 0 0) := HG17.out.nil 17 (by omega) (by omega)
  go_wp2_with fail
  refine (flatRegistries_nil _).mono ?_
  rintro e w18 ⟨rfl, hb⟩
  have HG18 := Lib.hid (HG17.out.below hb)
  have HB18 := Lib.hid (HB17.out.trans (hb.mono (Nat.le_trans hbase HB17.out.size)))
  clear c17 hb HG17 HB17
  have c18 : w18.cell? ⟨g, 18, none⟩ = some (.slice none 0 0) := HG18.out.nil 18 (by omega) (by omega)
  go_wp2_with fail
  refine (flatLetters_nil _).mono ?_
  rintro e w19 ⟨rfl, hb⟩
  have HG19 := Lib.hid (HG18.out.below hb)
  have HB19 := Lib.hid (HB18.out.trans (hb.mono (Nat.le_trans hbase HB18.out.size)))
  clear c18 hb HG18 HB18
  have c19 : w19.cell? ⟨g, 19, none⟩ = some (.slice none 0 0) := HG19.out.nil 19 (by omega) (by omega)
  go_wp2_with fail
  refine (flatSteps_nil _).mono ?_
  rintro e w20 ⟨rfl, hb⟩
  have HG20 := Lib.hid (HG19.out.below hb)
  have HB20 := Lib.hid (HB19.out.trans (hb.mono (Nat.le_trans hbase HB19.out.size)))
  clear c19 hb HG19 HB19
  have c20 : w20.cell? ⟨g, 20, none⟩ = some (.slice none 0 0) := HG20.out.nil 20 (by omega) (by omega)
  go_wp2_with fail
  refine (flatTales_nil _).mono ?_
  rintro e w21 ⟨rfl, hb⟩
  have HG21 := Lib.hid (HG20.out.below hb)
  have HB21 := Lib.hid (HB20.out.trans (hb.mono (Nat.le_trans hbase HB20.out.size)))
  clear c20 hb HG20 HB20
  go_wp2
  go_ret
  exact ⟨rfl, HB21.out⟩
end Go.Proofs.Ytfpjmeknjhhakaa.K
