/- What deeds cost, and how long their frames are. -/
import Derived.Test.YtfpjmeknjhhakaaSqLaw22T
namespace Go.Proofs.Ytfpjmeknjhhakaa.K
open Go

def ecost (es : List M.Ent) : Nat := (es.map fun e => 10 + e.data.length).sum
def dcost (ds : List Deed) : Nat := (ds.map fun d => ecost d.es).sum
theorem ecost_cons (e : M.Ent) (es : List M.Ent) : ecost (e :: es) = 10 + e.data.length + ecost es := by simp [ecost]
theorem ecost_mem {es : List M.Ent} {e : M.Ent} (h : e ∈ es) : 10 + e.data.length ≤ ecost es := by
  induction es with
  | nil => cases h
  | cons x es ih =>
    rw [ecost_cons]
    rcases List.mem_cons.1 h with rfl | h
    · omega
    · have := ih h; omega
theorem ecost_len (es : List M.Ent) : es.length * 10 ≤ ecost es := by
  induction es with
  | nil => exact Nat.zero_le _
  | cons x es ih => rw [ecost_cons, List.length_cons]; omega
theorem dcost_cons (d : Deed) (ds : List Deed) : dcost (d :: ds) = ecost d.es + dcost ds := by simp [dcost]
theorem dcost_append (a b : List Deed) : dcost (a ++ b) = dcost a + dcost b := by simp [dcost]
theorem lin_ge (es : List M.Ent) : ∀ n, n ≤ lin n es := by
  induction es with
  | nil => intro n; exact Nat.le_refl _
  | cons e es ih =>
    intro n
    unfold lin
    split
    · exact Nat.le_trans (by omega) (ih _)
    · exact Nat.le_refl _
theorem lin_sum (es : List M.Ent) : ∀ n, lin n es < 6000 → lin n es = n + ecost es := by
  induction es with
  | nil => intro n _; simp [lin, ecost]
  | cons e es ih =>
    intro n h
    have hn : n < 6000 := by
      by_cases h1 : n < 6000
      · exact h1
      · rw [lin_big n (e :: es) h1] at h; exact h
    have e1 : lin n (e :: es) = lin (n + 10 + min e.data.length 6000) es := by rw [lin, if_pos hn]
    rw [e1] at h ⊢
    have h2 := lin_ge es (n + 10 + min e.data.length 6000)
    rw [ih _ h, ecost_cons]
    omega
theorem lout_ge (ds : List Deed) : ∀ n, n ≤ lout n ds := by
  induction ds with
  | nil => intro n; exact Nat.le_refl _
  | cons d ds ih =>
    intro n
    unfold lout
    split
    · exact Nat.le_trans (lin_ge d.es n) (ih _)
    · exact Nat.le_refl _
theorem lout_sum (ds : List Deed) : ∀ n, lout n ds < 6000 → lout n ds = n + dcost ds := by
  induction ds with
  | nil => intro n _; simp [lout, dcost]
  | cons d ds ih =>
    intro n h
    have hn : n < 6000 := by
      by_cases h1 : n < 6000
      · exact h1
      · rw [lout_big n (d :: ds) h1] at h; exact h
    have e1 : lout n (d :: ds) = lout (lin n d.es) ds := by rw [lout, if_pos hn]
    rw [e1] at h ⊢
    have h2 := lout_ge ds (lin n d.es)
    rw [ih _ h, lin_sum d.es n (by omega), dcost_cons]
    omega
theorem light_cost {ds : List Deed} (h : light ds = true) : ds.length ≤ 60 ∧ dcost ds < 6000 := by
  unfold light at h
  rw [Bool.and_eq_true, decide_eq_true_eq, decide_eq_true_eq] at h
  have h2 := lout_sum ds 0 h.2
  exact ⟨h.1, by omega⟩
theorem dcost_take (ds : List Deed) (k : Nat) (hk : k < ds.length) : dcost (ds.take (k + 1)) = dcost (ds.take k) + ecost ds[k].es := by
  rw [List.take_succ_eq_append_getElem hk, dcost_append]; simp [dcost]
theorem dcost_le (ds : List Deed) (k : Nat) : dcost (ds.take k) ≤ dcost ds := by
  conv => rhs; rw [← List.take_append_drop k ds, dcost_append]
  omega
theorem dcost_mem {ds : List Deed} {k : Nat} (hk : k < ds.length) : ecost ds[k].es ≤ dcost ds := by
  have h1 := dcost_take ds k hk
  have h2 := dcost_le ds (k + 1)
  omega
theorem puts_bytes (es : List M.Ent) : ∀ i : Int, (F.pbytes (S.puts i es)).length ≤ 7 * ecost es := by
  induction es with
  | nil => intro i; exact Nat.zero_le _
  | cons e es ih =>
    intro i
    have h := ih (i + 1)
    rw [S.puts, F.pbytes_cons, List.length_append, F.one_length, ecost_cons]
    have h2 : (S.put i e).data.length = 56 + e.data.length := S.edata_length i e
    omega
theorem kept_bytes (c : S.Cl) : (F.pbytes [S.kept c]).length = 41 := by simp [F.pbytes, F.one_length, S.kept, S.cdata_length]
theorem puts_long (es : List M.Ent) : ∀ i : Int, ∀ f ∈ S.puts i es, 4 ≤ f.data.length := by
  induction es with
  | nil => intro i f hf; cases hf
  | cons e es ih =>
    intro i f hf
    rcases List.mem_cons.1 hf with rfl | hf
    · have h2 : (S.put i e).data.length = 56 + e.data.length := S.edata_length i e
      omega
    · exact ih (i + 1) f hf
/-- frames that a store's file may hold -/
structure Good (fs : List F.Fr) (st : S.St) (c k : Nat) : Prop where
  err : F.perr fs = 0
  long : ∀ f ∈ fs, 4 ≤ f.data.length
  bytes : (F.pbytes fs).length ≤ 41 * k + 7 * c
  len : st.l.length ≤ c
  small : ∀ e ∈ st.l, e.data.length ≤ 6000
  does : S.sdos S.zero fs = some st
theorem Good.start : Good [] S.zero 0 0 := ⟨rfl, by simp, by simp [F.pbytes], by simp [S.zero], by simp [S.zero], rfl⟩
theorem Good.more {fs : List F.Fr} {st : S.St} {c k c' k' : Nat} (h : Good fs st c k) (hc : c ≤ c') (hk : k ≤ k') : Good fs st c' k' := ⟨h.err, h.long, by have := h.bytes; omega, by have := h.len; omega, h.small, h.does⟩
theorem Good.keep {fs : List F.Fr} {st : S.St} {c k : Nat} (h : Good fs st c k) (d : S.Cl) (hm : S.may d = true) : Good (fs ++ [S.kept d]) ⟨d, st.l⟩ c (k + 1) := by
  refine ⟨?_, ?_, ?_, h.len, h.small, ?_⟩
  · rw [F.perr_append _ _ h.err, F.perr_zero]
    intro f hf
    simp only [List.mem_singleton] at hf
    subst hf
    exact S.kept_err d
  · intro f hf
    rcases List.mem_append.1 hf with hf | hf
    · exact h.long f hf
    · simp only [List.mem_singleton] at hf
      subst hf
      show 4 ≤ (S.cdata d).length
      rw [S.cdata_length]; omega
  · rw [F.pbytes_append, List.length_append, kept_bytes]
    have := h.bytes
    omega
  · rw [S.sdos_append, h.does]
    show (S.sdo st (S.kept d)).bind _ = _
    rw [S.sdo_kept st d hm]
    rfl
theorem Good.app {fs : List F.Fr} {st : S.St} {c k : Nat} (h : Good fs st c k) (i : Int) (es : List M.Ent) (hi : 1 ≤ i ∧ i ≤ (st.l.length : Int) + 1) (hok : ∀ e ∈ es, e.Ok) (he : ecost es ≤ 6000) (hc : c ≤ 100000) : Good (fs ++ S.puts i es) (grewS st i es) (c + ecost es) k := by
  have hsm : ∀ e ∈ es, e.data.length ≤ 5990 := fun e hm => by have := ecost_mem hm; omega
  have hl := ecost_len es
  refine ⟨?_, ?_, ?_, ?_, ?_, ?_⟩
  · rw [F.perr_append _ _ h.err]
    exact S.puts_err i es fun e hm => by have := hsm e hm; omega
  · intro f hf
    rcases List.mem_append.1 hf with hf | hf
    · exact h.long f hf
    · exact puts_long es i f hf
  · rw [F.pbytes_append, List.length_append]
    have h1 := h.bytes
    have h2 := puts_bytes es i
    omega
  · unfold grewS
    have h1 := h.len
    split
    · omega
    · simp only [List.length_append, List.length_take]
      omega
  · unfold grewS
    split
    · exact h.small
    · intro e hm
      rcases List.mem_append.1 hm with hm | hm
      · exact h.small e (List.mem_of_mem_take hm)
      · have := hsm e hm; omega
  · have hidx : i = (i.toNat : Int) := by omega
    have h2 := h.len
    have h1 := S.sdos_puts es hok st i.toNat (by omega) (by omega) (by omega)
    rw [← hidx] at h1
    rw [S.sdos_append, h.does]
    show S.sdos st (S.puts i es) = _
    rw [h1, grewS]
    split
    · rfl
    · rw [show (i - 1).toNat = i.toNat - 1 by omega]
end Go.Proofs.Ytfpjmeknjhhakaa.K
