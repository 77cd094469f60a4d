/- What was written is read back; a beginning of it is bad: plain Lean. -/
import Derived.Test.YtfpjmeknjhhakaaWireRdMath
namespace Go.Proofs.Ytfpjmeknjhhakaa.M
/-- st reads the bytes enc: whole, it goes on behind them; cut, it is bad -/
structure Eats (st : Rdr → Rdr) (enc : List B) : Prop where
  full : ∀ t, st (some (enc ++ t)) = some t
  cut : ∀ k, k < enc.length → st (some (enc.take k)) = none
  bad : st none = none
theorem Eats.comp {f g : Rdr → Rdr} {a b : List B} (h : Eats f a) (h' : Eats g b) : Eats (fun s => g (f s)) (a ++ b) where
  full t := by rw [List.append_assoc, h.full, h'.full]
  cut k hk := by
    rw [List.length_append] at hk
    by_cases hl : k < a.length
    · rw [List.take_append_of_le_length (by omega), h.cut k hl, h'.bad]
    · rw [List.take_append, List.take_of_length_le (by omega), h.full, h'.cut _ (by omega)]
  bad := by rw [h.bad, h'.bad]
theorem Eats.id : Eats (fun s => s) [] := ⟨fun _ => rfl, fun k hk => absurd hk (Nat.not_lt_zero _), rfl⟩
def inI64 (n : Int) : Prop := -9223372036854775808 ≤ n ∧ n ≤ 9223372036854775807
theorem rdNumber_num (n : Int) (t : List B) (h : inI64 n) : rdNumber (some (num n ++ t)) = (n, some t) := by
  have hl := num_length n
  simp only [rdNumber]
  rw [if_neg (by rw [List.length_append]; omega), List.take_left' hl, List.drop_left' hl, val_num n h.1 h.2]
theorem rdNumber_short (l : List B) (h : l.length < 8) : rdNumber (some l) = (0, none) := by simp only [rdNumber]; rw [if_pos h]
theorem eats_num (n : Int) (h : inI64 n) : Eats (fun s => (rdNumber s).2) (num n) where
  full t := by rw [rdNumber_num n t h]
  cut k hk := by
    rw [num_length] at hk
    rw [rdNumber_short _ (by rw [List.length_take]; omega)]
  bad := rfl
theorem rdBytes_blob (b t : List B) (h : b.length ≤ 1000000000000) : rdBytes (some (blob b ++ t)) = (b, some t) := by
  unfold rdBytes blob
  rw [List.append_assoc, rdNumber_num _ _ ⟨by omega, by omega⟩]
  simp only
  rw [if_neg (by rw [List.length_append]; omega)]
  simp
theorem eats_blob (b : List B) (h : b.length ≤ 1000000000000) : Eats (fun s => (rdBytes s).2) (blob b) where
  full t := by rw [rdBytes_blob b t h]
  cut k hk := by
    have hl : (num (b.length : Int)).length = 8 := num_length _
    unfold blob at hk ⊢
    rw [List.length_append, hl] at hk
    unfold rdBytes
    by_cases h8 : k < 8
    · rw [rdNumber_short _ (by rw [List.length_take]; omega)]
    · rw [List.take_append, List.take_of_length_le (by omega), rdNumber_num _ _ ⟨by omega, by omega⟩]
      simp only
      rw [if_pos (by rw [List.length_take, hl]; omega)]
  bad := rfl
theorem rdEntry_bad : rdEntry none = (zeroEnt, none) := by
  simp only [rdEntry, show rdNumber none = (0, none) from rfl, show rdBytes none = ([], none) from rfl, true_or, if_true]
structure Ent.Ok (e : Ent) : Prop where
  term : inI64 e.term
  version : inI64 e.version
  server : inI64 e.server
  data : e.data.length ≤ 1000000000000
theorem rdEntry_ent (e : Ent) (t : List B) (h : e.Ok) : rdEntry (some (ent e ++ t)) = (e, some t) := by
  have hk : inI64 (e.kind.toNat : Int) := ⟨by omega, by have := e.kind.isLt; omega⟩
  have hf : inI64 (flag e.good) := by unfold flag; split <;> exact ⟨by omega, by omega⟩
  have hf01 : ¬ flag e.good < 0 ∧ ¬ 1 < flag e.good := by unfold flag; split <;> exact ⟨by omega, by omega⟩
  have hg : (flag e.good == 1) = e.good := by unfold flag; cases e.good <;> rfl
  have hk8 : BitVec.ofInt 8 (e.kind.toNat : Int) = e.kind := by
    apply BitVec.eq_of_toNat_eq
    have := e.kind.isLt
    rw [BitVec.toNat_ofInt]; omega
  unfold ent
  simp only [List.append_assoc, rdEntry]
  rw [rdNumber_num _ _ h.term]
  simp only
  rw [rdNumber_num _ _ hk]
  simp only
  rw [rdNumber_num _ _ h.version]
  simp only
  rw [rdNumber_num _ _ h.server]
  simp only
  rw [rdNumber_num _ _ hf]
  simp only
  rw [rdBytes_blob _ _ h.data]
  have hlt := e.kind.isLt
  rw [if_neg (by simp only [reduceCtorEq, false_or]; omega), hg, hk8]
theorem rdEntry_last (s : Rdr) (h : (rdBytes (rdNumber (rdNumber (rdNumber (rdNumber (rdNumber s).2).2).2).2).2).2 = none) : rdEntry s = (zeroEnt, none) := by
  simp only [rdEntry]
  rw [if_pos (.inl h)]
theorem eats_ent (e : Ent) (h : e.Ok) : Eats (fun s => (rdEntry s).2) (ent e) where
  full t := by rw [rdEntry_ent e t h]
  cut k hk := by
    have hkk : inI64 (e.kind.toNat : Int) := ⟨by omega, by have := e.kind.isLt; omega⟩
    have hf : inI64 (flag e.good) := by unfold flag; split <;> exact ⟨by omega, by omega⟩
    have hc := (((((eats_num _ h.term).comp (eats_num _ hkk)).comp (eats_num _ h.version)).comp (eats_num _ h.server)).comp (eats_num _ hf)).comp (eats_blob _ h.data)
    exact congrArg Prod.snd (rdEntry_last (some ((ent e).take k)) (hc.cut k hk))
  bad := by rw [rdEntry_bad]
/-- entries, one behind the other -/
def ents (l : List Ent) : List B := l.flatMap ent
def rdAll : List Ent → Rdr → Rdr
  | [], s => s
  | _ :: l, s => rdAll l (rdEntry s).2
theorem eats_all (l : List Ent) (h : ∀ e ∈ l, e.Ok) : Eats (rdAll l) (ents l) := by
  induction l with
  | nil => exact Eats.id
  | cons e l ih =>
    have h1 := (eats_ent e (h e (List.mem_cons_self ..))).comp (ih fun x hx => h x (List.mem_cons_of_mem _ hx))
    exact h1
theorem rdAll_snoc (l : List Ent) (e : Ent) (s : Rdr) : rdAll (l ++ [e]) s = (rdEntry (rdAll l s)).2 := by
  induction l generalizing s with
  | nil => rfl
  | cons x l ih => exact ih _
theorem ents_snoc (l : List Ent) (e : Ent) : ents (l ++ [e]) = ents l ++ ent e := by simp [ents]
theorem ent_length (e : Ent) : (ent e).length = 48 + e.data.length := by simp [ent, num_length, blob_length]; omega
end Go.Proofs.Ytfpjmeknjhhakaa.M
