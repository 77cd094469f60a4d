/- Files that crashes cut: what their frames bound, and the states that their beginnings make. -/
import Derived.Test.YtfpjmeknjhhakaaGreatSz12
namespace Go.Proofs.YtfpjmeknjhhakaaGreat.K
open Go

/-- how many bytes a reader has left -/
def crl : M.Rdr → Nat
  | none => 0
  | some l => l.length
theorem crl_number (s : M.Rdr) : crl (M.rdNumber s).2 ≤ crl s := by
  cases s with
  | none => exact Nat.le_refl _
  | some l => simp only [M.rdNumber]; split <;> simp [crl]
theorem crl_bytes (s : M.Rdr) : (M.rdBytes s).1.length ≤ crl s ∧ crl (M.rdBytes s).2 ≤ crl s := by
  have h := crl_number s
  unfold M.rdBytes
  split
  · exact ⟨Nat.zero_le _, Nat.zero_le _⟩
  · rename_i m l e
    rw [e] at h
    split
    · exact ⟨Nat.zero_le _, Nat.zero_le _⟩
    · simp only [crl] at h ⊢
      exact ⟨by rw [List.length_take]; omega, by rw [List.length_drop]; omega⟩
theorem crl_entry (s : M.Rdr) : (M.rdEntry s).1.data.length ≤ crl s ∧ crl (M.rdEntry s).2 ≤ crl s := by
  have h1 := crl_number s
  have h2 := crl_number (M.rdNumber s).2
  have h3 := crl_number (M.rdNumber (M.rdNumber s).2).2
  have h4 := crl_number (M.rdNumber (M.rdNumber (M.rdNumber s).2).2).2
  have h5 := crl_number (M.rdNumber (M.rdNumber (M.rdNumber (M.rdNumber s).2).2).2).2
  have h6 := crl_bytes (M.rdNumber (M.rdNumber (M.rdNumber (M.rdNumber (M.rdNumber s).2).2).2).2).2
  simp only [M.rdEntry]
  split
  · exact ⟨Nat.zero_le _, Nat.zero_le _⟩
  · exact ⟨by simp only; omega, by simp only; omega⟩
theorem sdo_bound {s t : S.St} {f : F.Fr} (h : S.sdo s f = some t) : t.l.length ≤ s.l.length + 1 ∧ ∀ e ∈ t.l, e ∈ s.l ∨ e.data.length ≤ f.data.length := by
  unfold S.sdo at h
  split at h
  · unfold S.sset at h
    split at h
    · cases h
      exact ⟨Nat.le_succ _, fun e he => .inl he⟩
    · cases h
  · split at h
    · unfold S.sstand at h
      split at h
      · cases h
        refine ⟨by simp only [List.length_append, List.length_take, List.length_cons, List.length_nil]; omega, fun e he => ?_⟩
        rcases List.mem_append.1 he with he | he
        · exact .inl (List.mem_of_mem_take he)
        · obtain rfl := List.mem_singleton.1 he
          refine .inr ?_
          have h1 := (crl_entry (M.rdNumber (some f.data)).2).1
          have h2 := crl_number (some f.data)
          exact Nat.le_trans h1 h2
      · cases h
    · cases h
theorem sdos_bound : ∀ (fs : List F.Fr) (s t : S.St), S.sdos s fs = some t → t.l.length ≤ s.l.length + fs.length ∧ ∀ e ∈ t.l, e ∈ s.l ∨ e.data.length ≤ (F.pbytes fs).length
  | [], s, t, h => by
    cases h
    exact ⟨Nat.le_refl _, fun e he => .inl he⟩
  | f :: fs, s, t, h => by
    simp only [S.sdos] at h
    cases hx : S.sdo s f with
    | none => rw [hx] at h; cases h
    | some u =>
      rw [hx] at h
      obtain ⟨h1, h2⟩ := sdo_bound hx
      obtain ⟨h3, h4⟩ := sdos_bound fs u t h
      rw [F.pbytes_cons, List.length_append, F.one_length, List.length_cons]
      refine ⟨by omega, fun e he => ?_⟩
      rcases h4 e he with h5 | h5
      · rcases h2 e h5 with h6 | h6
        · exact .inl h6
        · exact .inr (by omega)
      · exact .inr (by omega)
theorem fr_le {fs : List F.Fr} {f : F.Fr} (h : f ∈ fs) : f.data.length ≤ (F.pbytes fs).length := by
  induction fs with
  | nil => cases h
  | cons x fs ih =>
    rw [F.pbytes_cons, List.length_append, F.one_length]
    rcases List.mem_cons.1 h with rfl | h
    · omega
    · have := ih h; omega
/-- frames that a store's file may hold, in number -/
structure GF (fs : List F.Fr) (c k : Nat) : Prop where
  err : F.perr fs = 0
  bytes : (F.pbytes fs).length ≤ 41 * k + 7 * c
theorem GF.start : GF [] 0 0 := ⟨rfl, by simp [F.pbytes]⟩
theorem GF.cut {a b : List F.Fr} {c k : Nat} (h : GF (a ++ b) c k) : GF a c k := by
  refine ⟨(F.perr_zero _).2 fun f hf => (F.perr_zero _).1 h.err f (List.mem_append_left _ hf), ?_⟩
  have := h.bytes
  rw [F.pbytes_append, List.length_append] at this
  omega
theorem fr_bytes (fs : List F.Fr) : fs.length * 9 ≤ (F.pbytes fs).length := by
  induction fs with
  | nil => exact Nat.zero_le _
  | cons f fs ih => rw [F.pbytes_cons, List.length_append, F.one_length, List.length_cons]; omega
theorem GF.len {fs : List F.Fr} {c k : Nat} (h : GF fs c k) (hc : c < 6000) (hk : k ≤ 61) : (F.pbytes fs).length ≤ 50000 ∧ fs.length ≤ 10000 := by
  have h1 := h.bytes
  have h2 := fr_bytes fs
  omega
theorem GF.st {fs : List F.Fr} {c k : Nat} (h : GF fs c k) (hc : c < 6000) (hk : k ≤ 61) {t : S.St} (ht : S.sdos S.zero fs = some t) : t.l.length ≤ 10000 ∧ ∀ e ∈ t.l, e.data.length ≤ 50000 := by
  obtain ⟨h1, h2⟩ := h.len hc hk
  obtain ⟨h3, h4⟩ := sdos_bound fs _ _ ht
  refine ⟨by have : S.zero.l.length = 0 := rfl; omega, fun e he => ?_⟩
  rcases h4 e he with h5 | h5
  · cases h5
  · omega
theorem dFr_ok (st : S.St) (d : Deed) (he : ecost d.es ≤ 6000) : F.perr (dFr st d) = 0 ∧ (F.pbytes (dFr st d)).length ≤ 41 + 7 * ecost d.es := by
  unfold dFr
  split
  · split
    · refine ⟨(F.perr_zero _).2 fun f hf => ?_, by rw [kept_bytes]; omega⟩
      rw [List.mem_singleton.1 hf]
      exact S.kept_err _
    · exact ⟨rfl, Nat.zero_le _⟩
  · split
    · exact ⟨rfl, Nat.zero_le _⟩
    · split
      · refine ⟨S.puts_err _ _ fun e hm => by have := ecost_mem hm; omega, ?_⟩
        have := puts_bytes d.es (dAt st d)
        omega
      · exact ⟨rfl, Nat.zero_le _⟩
theorem GF.deed {fs : List F.Fr} {st : S.St} {c k : Nat} (h : GF fs c k) (d : Deed) (he : ecost d.es ≤ 6000) : GF (fs ++ dFr st d) (c + ecost d.es) (k + 1) := by
  obtain ⟨h1, h2⟩ := dFr_ok st d he
  refine ⟨by rw [F.perr_append _ _ h.err, h1], ?_⟩
  rw [F.pbytes_append, List.length_append]
  have := h.bytes
  omega
theorem GF.more {fs : List F.Fr} {c k c' k' : Nat} (h : GF fs c k) (hc : c ≤ c') (hk : k ≤ k') : GF fs c' k' := ⟨h.err, by have := h.bytes; omega⟩
/-- behind a crash -/
theorem crash_reads (a b : List F.Fr) (s : S.St) (h : F.perr (a ++ b) = 0) (hs : S.sdos S.zero (a ++ b) = some s) (keep : Nat) :
    ∃ j t, j ≤ b.length ∧ S.sdos S.zero (a ++ b.take j) = some t ∧ S.sread ((F.pbytes (a ++ b)).take (crashAt (F.pbytes a).length keep (F.pbytes (a ++ b)).length)) = some (t, (F.pbytes (a ++ b.take j)).length) ∧
      F.pbytes (a ++ b.take j) = ((F.pbytes (a ++ b)).take (crashAt (F.pbytes a).length keep (F.pbytes (a ++ b)).length)).take (F.pbytes (a ++ b.take j)).length ∧
      (F.pbytes (a ++ b.take j)).length ≤ ((F.pbytes (a ++ b)).take (crashAt (F.pbytes a).length keep (F.pbytes (a ++ b)).length)).length := by
  obtain ⟨cut, hcut⟩ : ∃ cut, cut = crashAt (F.pbytes a).length keep (F.pbytes (a ++ b)).length := ⟨_, rfl⟩
  rw [← hcut]
  have hl : (F.pbytes (a ++ b)).length = (F.pbytes a).length + (F.pbytes b).length := by rw [F.pbytes_append, List.length_append]
  unfold crashAt at hcut
  obtain ⟨j, t, h1, h2, h3, h4⟩ := S.sread_crash a b s h hs cut (by omega)
  have hsp : F.pbytes (a ++ b) = F.pbytes (a ++ b.take j) ++ F.pbytes (b.drop j) := by
    rw [← F.pbytes_append, List.append_assoc, List.take_append_drop]
  refine ⟨j, t, h1, h2, h3, ?_, ?_⟩
  · rw [List.take_take, Nat.min_eq_left h4, hsp, List.take_left]
  · rw [List.length_take]
    have := congrArg List.length hsp
    rw [List.length_append] at this
    omega
end Go.Proofs.YtfpjmeknjhhakaaGreat.K
