/- Lists of deeds that came in, out of the statement's own reading of the arguments. -/
import Derived.Test.YtfpjmeknjhhakaaSqStoDeed
import Derived.Test.YtfpjmeknjhhakaaSqLaw22S
namespace Go.Proofs.Ytfpjmeknjhhakaa.K
open Go Go.RowKit Go.ChangeShapes Go.WideShapes Go.Deep

set_option maxRecDepth 100000
theorem bytesOfDeed : Try.prog.bytesOf 68 = 72 := by kernel_rfl
theorem Ents.isIn {W : World} {A : Option Addr} {es : List M.Ent} (h : Ents W A es) : EntsIn es := fun e he => by
  obtain ⟨i, hi, rfl⟩ := List.mem_iff_getElem.1 he
  obtain ⟨b, o, e, A', n, c, hc, h1, h2, h3, hr, _⟩ := h i hi
  exact ⟨h1, h2, h3⟩
section
variable {H : Type} {enc : TypeId × Value → H} {W : World} {base b0 : Nat} {sp : Nat → Bool} {held : Bool} {r : Reach}
theorem open_byte {v : Value} {d : DataW H} {p : List MemPlace} (hv : Value.okWide Try.prog W r b0 5 v) (h : DataW.Trod enc Try.prog W base sp held 5 v d p) : ∃ x : BitVec 8, v = B8 x := by
  obtain ⟨n, rfl, _, _, hw⟩ := open_int Try.underlying5 hv h
  have h' : 0 ≤ n ∧ n < 256 := by
    simp [Lit.wf, IntKind.min, IntKind.max, IntKind.bits, IntKind.signed] at hw
    omega
  refine ⟨BitVec.ofInt 8 n, ?_⟩
  simp only [B8, BitVec.toNat_ofInt, Value.int.injEq, true_and]
  omega
theorem open_deeds {v : Value} {d : DataW H} {p : List MemPlace} (hv : Value.okWide Try.prog W r b0 70 v) (h : DataW.Trod enc Try.prog W base sp held 70 v d p) :
    ∃ A n c ds, v = .slice A n c ∧ ds.length = n ∧ (∀ e ∈ ds, EntsIn e.es) ∧ ((∀ z ∈ d.weights Try.prog 70, z ≤ reachBytes) → DeedsRd W A ds ∧ n ≤ 9000000000000) := by
  obtain ⟨A, l, c, rfl⟩ := okWide_slice Try.underlying70 hv
  obtain ⟨fuel, hf⟩ := h
  rcases open_slice Try.underlying70 hf with ⟨hcs, _⟩ | ⟨a, len, cap, m, n, D, Pl, hcs, hb, hl, hm, hmm, hx, hi⟩
  · simp [Value.cells] at hcs
    obtain ⟨rfl, rfl, rfl⟩ := hcs
    exact ⟨none, 0, 0, [], rfl, rfl, (fun _ hf => by cases hf), fun _ => ⟨fun i hi => absurd hi (Nat.not_lt_zero _), by omega⟩⟩
  · simp [Value.cells] at hcs
    obtain ⟨rfl, rfl, rfl⟩ := hcs
    unfold maxLen at hm
    have hlm : l ≤ m := by split at hmm <;> omega
    rw [cellsDeed] at hi
    have hu := Try.underlying70
    have hdx : d = .slice ((List.range l).map D) ((List.range (m - l)).map fun j => D (l + j)) := congrArg Prod.fst hx
    have hev : ∀ i : Nat, ∃ f : Deed, i < l → ∃ b o, a = ⟨b, o, none⟩ ∧ EntsIn f.es ∧ ((∀ z ∈ d.weights Try.prog 70, z ≤ reachBytes) → DeedAt W b (o + i * 7) f) := by
      intro i
      by_cases hil : i < l
      · obtain ⟨cs', hc, ht⟩ := hi i (by omega)
        obtain ⟨f, A, n2, c2, rfl, hE, hEl, hIn, hw⟩ := cs_deed ht
        obtain ⟨_, _, hat⟩ := World.cells?_some hc
        obtain ⟨b, o, s⟩ := a
        obtain ⟨cs0, hc0, ht0⟩ := hi 0 (by omega)
        obtain ⟨_, _, _, _, rfl, _⟩ := cs_deed ht0
        obtain ⟨_, _, hat0⟩ := World.cells?_some hc0
        have hs : s = none := by simpa [Addr.add] using World.cell?_spot ((hat0 0 (by simp)).trans rfl)
        subst hs
        have hk : ∀ j u, (deedL f A n2 c2)[j]? = some u → W.cell? ⟨b, o + i * 7 + j, none⟩ = some u := fun j u hu2 => by
          have h1 := hat j (List.getElem?_eq_some_iff.1 hu2).1
          rw [hu2, Addr.add_lit, Addr.add_lit] at h1
          exact h1
        refine ⟨f, fun _ => ⟨b, o, rfl, hE.isIn, fun hwd => ⟨A, n2, c2, hk 0 _ rfl, hk 1 _ rfl, hk 2 _ rfl, hk 3 _ rfl, hk 4 _ rfl, hk 5 _ rfl, hk 6 _ rfl, hE.rd, hEl, ?_⟩⟩⟩
        refine Nat.le_trans (hw fun z hz => hwd z ?_) (by omega)
        rw [hdx]
        simp only [DataW.weights, hu, List.mem_cons, List.mem_append]
        exact .inr (.inl (weights_mem_all (j := i) (by simp [hil]) z hz))
      · exact ⟨⟨0, ⟨0, 0, 0, 0⟩, 0, []⟩, fun h => absurd h hil⟩
    obtain ⟨f, hf2⟩ := Classical.axiomOfChoice hev
    refine ⟨_, _, _, (List.range l).map f, rfl, by simp, fun e he => ?_, fun hw => ⟨fun i hi2 => ?_, ?_⟩⟩
    · obtain ⟨i, hi2, rfl⟩ := List.mem_map.1 he
      obtain ⟨_, _, _, hI, _⟩ := hf2 i (List.mem_range.1 hi2)
      exact hI
    · have hil : i < l := by simpa using hi2
      obtain ⟨b, o, rfl, _, he⟩ := hf2 i hil
      exact ⟨b, o, rfl, by simpa using he hw⟩
    · have := hw (m * Try.prog.bytesOf 68) (by rw [hdx]; simp only [DataW.weights, hu, List.mem_cons, List.length_map, List.length_range]; left; congr 1; omega)
      rw [bytesOfDeed] at this
      unfold reachBytes at this
      omega
end
end Go.Proofs.Ytfpjmeknjhhakaa.K
