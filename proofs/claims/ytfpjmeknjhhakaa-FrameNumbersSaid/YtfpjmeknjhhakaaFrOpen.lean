/- Frames in memory, and frames that came in. -/
import Derived.Test.YtfpjmeknjhhakaaOpen
import Derived.Test.YtfpjmeknjhhakaaFrMath
import Derived.SizedLaws
namespace Go.Proofs.Ytfpjmeknjhhakaa.K
open Go Go.RowKit Go.ChangeShapes Go.WideShapes Go.Deep

set_option maxRecDepth 100000

/-- a frame in memory, its first cell at o of block b -/
def OneAt (W : World) (b o : Nat) (f : F.Fr) : Prop := ∃ A n c, (∀ j u, [Value.int .i64 f.kind, .slice A n c][j]? = some u → W.cell? ⟨b, o + j, none⟩ = some u) ∧ M.inI64 f.kind ∧ RowRd W ⟨A, n, c⟩ f.data ∧ n ≤ c ∧ c ≤ 9223372036854775807
/-- frames in memory -/
def Ones (W : World) (A : Option Addr) (fs : List F.Fr) : Prop := ∀ i, (h : i < fs.length) → ∃ b o, A = some ⟨b, o, none⟩ ∧ OneAt W b (o + i * 2) fs[i]
theorem OneAt.below {w w' : World} {b o : Nat} {f : F.Fr} (h : OneAt w b o f) (hb : Below w.heap.size w w') : OneAt w' b o f := by
  obtain ⟨A, n, c, hc, h1, h2, h3⟩ := h
  exact ⟨A, n, c, fun j u hu => (hb.cell (p := ⟨b, o + j, none⟩) (block_lt_of_cell (hc j u hu))).trans (hc j u hu), h1, h2.below hb, h3⟩
theorem Ones.below {w w' : World} {A : Option Addr} {fs : List F.Fr} (h : Ones w A fs) (hb : Below w.heap.size w w') : Ones w' A fs := fun i hi => by
  obtain ⟨b, o, e, hc⟩ := h i hi
  exact ⟨b, o, e, hc.below hb⟩
theorem cellsOne : Try.prog.cellsOf 37 = 2 := by kernel_rfl
section
variable {H : Type} {enc : TypeId × Value → H} {W : World} {base b0 : Nat} {sp : Nat → Bool} {held : Bool} {r : Reach}
theorem weights_mem_all {P : Program} {e : TypeId} : ∀ {ds : List (DataW H)} {j : Nat} {d : DataW H}, ds[j]? = some d → ∀ n ∈ d.weights P e, n ∈ DataW.weightsAll P e ds
  | [], _, _, hd, _, _ => by simp at hd
  | x :: r, 0, d, hd, n, hn => by
    simp at hd; subst hd
    rw [DataW.weightsAll]; exact List.mem_append_left _ hn
  | x :: r, j + 1, d, hd, n, hn => by
    simp at hd
    rw [DataW.weightsAll]; exact List.mem_append_right _ (weights_mem_all hd n hn)
theorem bytesOfByte : Try.prog.bytesOf 5 = 1 := by kernel_rfl
/-- bytes that came in, their length under the reach -/
theorem cs_bytesW {fuel : Nat} {v : Value} {x : DataW H × List MemPlace} (h : DataW.trod enc Try.prog W base sp held fuel 27 [v] = some x) :
    ∃ A n c bs, v = .slice A n c ∧ RowRd W ⟨A, n, c⟩ bs ∧ n ≤ c ∧ c ≤ 9223372036854775807 ∧ ((∀ z ∈ x.1.weights Try.prog 27, z ≤ reachBytes) → n ≤ 140737488351232) := by
  rcases open_ints Try.underlying27 Try.underlying5 cellsByte h with ⟨hcs, _⟩ | ⟨a, l, c, zs, hcs, _, hl, hm, hz, hx, hcell, hwz⟩
  · obtain rfl : v = .slice none 0 0 := by simpa using hcs
    exact ⟨none, 0, 0, [], rfl, ⟨Rd.of_nil _ _, rfl, fun _ => rfl⟩, by omega, by omega, fun _ => by omega⟩
  · obtain rfl : v = .slice (some a) l c := by simpa using hcs
    unfold maxLen at hm
    have hlz : l ≤ zs.length := by split at hz <;> omega
    refine ⟨some a, l, c, _, rfl, ⟨Rd.of_ints hcell hwz l, ?_, fun h => by cases h⟩, hl, hm, fun hw => ?_⟩
    · simp only [List.length_map, List.length_take]
      omega
    · have hu : Try.prog.underlying 27 = some (.slice 5) := Try.underlying27
      have := hw (((lits .u8 (zs.take l)).length + (lits .u8 (zs.drop l)).length) * Try.prog.bytesOf 5) (by rw [hx]; simp only [DataW.weights, hu, List.mem_cons]; exact .inl rfl)
      rw [bytesOfByte] at this
      unfold reachBytes at this
      simp [lits] at this
      omega
theorem cs_one {fuel : Nat} {cs : List Value} {x : DataW H × List MemPlace} (h : DataW.trod enc Try.prog W base sp held fuel 37 cs = some x) :
    ∃ (f : F.Fr) (A : Option Addr) (n c : Nat), cs = [.int .i64 f.kind, .slice A n c] ∧ M.inI64 f.kind ∧ RowRd W ⟨A, n, c⟩ f.data ∧ n ≤ c ∧ c ≤ 9223372036854775807 ∧ ((∀ z ∈ x.1.weights Try.prog 37, z ≤ reachBytes) → n ≤ 140737488351232) := by
  obtain ⟨xs, n, _, hx, hlen, hxl, hf⟩ := DataW.trod_struct Try.underlying37 h
  rw [cellsOne] at hlen
  match cs, hlen with
  | [c0, c1], _ =>
    match xs, hxl with
    | [y0, y1], _ =>
      have f0 : DataW.trod enc Try.prog W base sp held n 3 [c0] = some y0 := by simpa [cellsInt] using hf 0 _ rfl
      have f1 : DataW.trod enc Try.prog W base sp held n 27 [c1] = some y1 := by simpa [cellsBytes] using hf 1 _ rfl
      obtain ⟨t, rfl, ht⟩ := cs_int f0
      obtain ⟨A, m, c, bs, rfl, hr, h1, h2, h3⟩ := cs_bytesW f1
      have hu := Try.underlying37
      refine ⟨⟨t, bs⟩, A, m, c, rfl, ht, hr, h1, h2, fun hw => h3 fun z hz => hw z ?_⟩
      rw [hx]
      simp [DataW.weights, hu, DataW.weightsEach]
      exact .inr hz
theorem open_ones {v : Value} {d : DataW H} {p : List MemPlace} (hv : Value.okWide Try.prog W r b0 22 v) (h : DataW.Trod enc Try.prog W base sp held 22 v d p) :
    ∃ A n c fs, v = .slice A n c ∧ Ones W A fs ∧ fs.length = n ∧ (A = none → c = 0) ∧ n ≤ c ∧ c ≤ 9223372036854775807 ∧ ((∀ z ∈ d.weights Try.prog 22, z ≤ reachBytes) → ∀ f ∈ fs, f.data.length ≤ 140737488351232) := by
  obtain ⟨A, l, c, rfl⟩ := okWide_slice Try.underlying22 hv
  obtain ⟨fuel, hf⟩ := h
  rcases open_slice Try.underlying22 hf with ⟨hcs, _⟩ | ⟨a, len, cap, m, n, D, Pl, hcs, hb, hl, hm, hmm, hx, hi⟩
  · simp [Value.cells] at hcs
    obtain ⟨rfl, rfl, rfl⟩ := hcs
    exact ⟨none, 0, 0, [], rfl, fun i hi => absurd hi (Nat.not_lt_zero _), rfl, fun _ => rfl, by omega, by omega, fun _ f hf => by cases hf⟩
  · simp [Value.cells] at hcs
    obtain ⟨rfl, rfl, rfl⟩ := hcs
    unfold maxLen at hm
    have hlm : l ≤ m := by split at hmm <;> omega
    rw [cellsOne] at hi
    have hev : ∀ i : Nat, ∃ f : F.Fr, i < l → ∃ b o, a = ⟨b, o, none⟩ ∧ OneAt W b (o + i * 2) f ∧ ((∀ z ∈ d.weights Try.prog 22, z ≤ reachBytes) → f.data.length ≤ 140737488351232) := by
      intro i
      by_cases hil : i < l
      · obtain ⟨cs', hc, ht⟩ := hi i (by omega)
        obtain ⟨f, A, n2, c2, rfl, hr1, hr2, hr3, hr4, hrw⟩ := cs_one ht
        obtain ⟨_, _, hat⟩ := World.cells?_some hc
        obtain ⟨b, o, s⟩ := a
        obtain ⟨cs0, hc0, ht0⟩ := hi 0 (by omega)
        obtain ⟨_, _, _, _, rfl, _⟩ := cs_one ht0
        obtain ⟨_, _, hat0⟩ := World.cells?_some hc0
        have hs : s = none := by simpa [Addr.add] using World.cell?_spot ((hat0 0 (by omega)).trans rfl)
        subst hs
        refine ⟨f, fun _ => ⟨b, o, rfl, ⟨A, n2, c2, fun j u hu => ?_, hr1, hr2, hr3, hr4⟩, fun hw => by
          rw [show f.data.length = n2 from hr2.len]
          refine hrw fun z hz => hw z ?_
          have hdx : d = .slice ((List.range l).map D) ((List.range (m - l)).map fun j => D (l + j)) := congrArg Prod.fst hx
          have hu := Try.underlying22
          rw [hdx]
          simp only [DataW.weights, hu, List.mem_cons, List.mem_append]
          exact .inr (.inl (weights_mem_all (j := i) (by simp [hil]) z hz))⟩⟩
        have hj : j < 2 := (List.getElem?_eq_some_iff.1 hu).1
        have h1 := hat j hj
        rw [hu, Addr.add_lit, Addr.add_lit] at h1
        exact h1
      · exact ⟨⟨0, []⟩, fun h => absurd h hil⟩
    obtain ⟨f, hf⟩ := Classical.axiomOfChoice hev
    refine ⟨_, _, _, (List.range l).map f, rfl, fun i hi2 => ?_, by simp, (fun h => by cases h), hl, hm, fun hw x hx => ?_⟩
    · have hil : i < l := by simpa using hi2
      obtain ⟨b, o, rfl, he, _⟩ := hf i hil
      exact ⟨b, o, rfl, by simpa using he⟩
    · obtain ⟨i, hi2, rfl⟩ := List.mem_map.1 hx
      obtain ⟨_, _, _, _, he⟩ := hf i (by simpa using hi2)
      exact he hw
end
end Go.Proofs.Ytfpjmeknjhhakaa.K
