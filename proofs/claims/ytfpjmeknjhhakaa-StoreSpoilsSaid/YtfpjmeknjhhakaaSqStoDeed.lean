/- Deeds that came in, out of the statement's own reading of the arguments. -/
import Derived.Test.YtfpjmeknjhhakaaSq8
import Derived.Test.YtfpjmeknjhhakaaSqLaw22T
import Derived.SizedLaws
namespace Go.Proofs.Ytfpjmeknjhhakaa.K
open Go Go.RowKit Go.ChangeShapes Go.WideShapes Go.Deep

set_option maxRecDepth 100000
theorem cellsDeed : Try.prog.cellsOf 68 = 7 := by kernel_rfl
theorem cellsSCell : Try.prog.cellsOf 65 = 4 := by kernel_rfl
theorem cellsEnts : Try.prog.cellsOf 66 = 1 := by kernel_rfl
theorem bytesOfEnt : Try.prog.bytesOf 81 = 64 := by kernel_rfl
theorem Ents.rd {W : World} {A : Option Addr} {es : List M.Ent} (h : Ents W A es) : EntsRd W A es := fun i hi => by
  obtain ⟨b, o, e, A', n, c, hc, _, _, _, hr, _⟩ := h i hi
  exact ⟨b, o, e, A', n, c, ⟨hc 0 _ rfl, hc 1 _ rfl, hc 2 _ rfl, hc 3 _ rfl, hc 4 _ rfl, hc 5 _ rfl⟩, hr⟩
theorem Ents.data {W : World} {A : Option Addr} {es : List M.Ent} (h : Ents W A es) : ∀ e ∈ es, e.data.length ≤ 9223372036854775807 := fun e he => by
  obtain ⟨i, hi, rfl⟩ := List.mem_iff_getElem.1 he
  obtain ⟨b, o, e, A', n, c, hc, _, _, _, hr, h1, h2⟩ := h i hi
  have : es[i].data.length = n := hr.len
  omega
theorem Ents.ok {W : World} {A : Option Addr} {es : List M.Ent} (h : Ents W A es) (hd : ∀ e ∈ es, e.data.length ≤ 1000000000000) : ∀ e ∈ es, e.Ok := fun e he => by
  have hd' := hd e he
  obtain ⟨i, hi, rfl⟩ := List.mem_iff_getElem.1 he
  obtain ⟨b, o, e, A', n, c, hc, h1, h2, h3, hr, _⟩ := h i hi
  exact ⟨h1, h2, h3, hd'⟩
section
variable {H : Type} {enc : TypeId × Value → H} {W : World} {base b0 : Nat} {sp : Nat → Bool} {held : Bool} {r : Reach}
theorem cs_entriesW {fuel : Nat} {v : Value} {x : DataW H × List MemPlace} (h : DataW.trod enc Try.prog W base sp held fuel 66 [v] = some x) :
    ∃ A n c es, v = .slice A n c ∧ Ents W A es ∧ es.length = n ∧ (A = none → c = 0) ∧ n ≤ c ∧ c ≤ 9223372036854775807 ∧ ((∀ z ∈ x.1.weights Try.prog 66, z ≤ reachBytes) → n ≤ 2199023255488) := by
  rcases open_slice Try.underlying66 h with ⟨hcs, _⟩ | ⟨a, l, cap, m, n, D, Pl, hcs, hb, hl, hm, hmm, hx, hi⟩
  · obtain rfl : v = .slice none 0 0 := by simpa using hcs
    exact ⟨none, 0, 0, [], rfl, fun i hi => absurd hi (Nat.not_lt_zero _), rfl, fun _ => rfl, by omega, by omega, fun _ => by omega⟩
  · obtain rfl : v = .slice (some a) l cap := by simpa using hcs
    unfold maxLen at hm
    have hlm : l ≤ m := by split at hmm <;> omega
    rw [cellsEnt] at hi
    have hev : ∀ i : Nat, ∃ e : M.Ent, i < l → ∃ b o, a = ⟨b, o, none⟩ ∧ EntAt W b (o + i * 6) e := by
      intro i
      by_cases hil : i < l
      · obtain ⟨cs', hc, ht⟩ := hi i (by omega)
        obtain ⟨e, A, n2, c2, rfl, hr⟩ := cs_entry ht
        obtain ⟨_, _, hat⟩ := World.cells?_some hc
        obtain ⟨b, o, s⟩ := a
        obtain ⟨cs0, hc0, ht0⟩ := hi 0 (by omega)
        obtain ⟨_, _, _, _, rfl, _⟩ := cs_entry ht0
        obtain ⟨_, _, hat0⟩ := World.cells?_some hc0
        have hs : s = none := by simpa [Addr.add] using World.cell?_spot ((hat0 0 (by omega)).trans rfl)
        subst hs
        refine ⟨e, fun _ => ⟨b, o, rfl, A, n2, c2, fun j u hu => ?_, hr⟩⟩
        have hj : j < 6 := (List.getElem?_eq_some_iff.1 hu).1
        have h1 := hat j hj
        rw [hu, Addr.add_lit, Addr.add_lit] at h1
        exact h1
      · exact ⟨M.zeroEnt, fun h => absurd h hil⟩
    obtain ⟨f, hf⟩ := Classical.axiomOfChoice hev
    refine ⟨_, _, _, (List.range l).map f, rfl, fun i hi2 => ?_, by simp, (fun h => by cases h), hl, hm, fun hw => ?_⟩
    · have hil : i < l := by simpa using hi2
      obtain ⟨b, o, rfl, he⟩ := hf i hil
      exact ⟨b, o, rfl, by simpa using he⟩
    · have hdx : x.1 = .slice ((List.range l).map D) ((List.range (m - l)).map fun j => D (l + j)) := congrArg Prod.fst hx
      have hu := Try.underlying66
      have := hw (m * Try.prog.bytesOf 81) (by rw [hdx]; simp only [DataW.weights, hu, List.mem_cons, List.length_map, List.length_range]; left; congr 1; omega)
      rw [bytesOfEnt] at this
      unfold reachBytes at this
      omega
/-- its numbers are int's -/
def Deed.In (d : Deed) : Prop := M.inI64 d.kind ∧ M.inI64 d.cell.term ∧ M.inI64 d.cell.vote ∧ M.inI64 d.cell.applied ∧ M.inI64 d.cell.active ∧ M.inI64 d.a
/-- cells of a deed -/
def deedL (d : Deed) (A : Option Addr) (n c : Nat) : List Value := [.int .i64 d.kind, .int .i64 d.cell.term, .int .i64 d.cell.vote, .int .i64 d.cell.applied, .int .i64 d.cell.active, .int .i64 d.a, .slice A n c]
theorem cs_cell {fuel : Nat} {cs : List Value} {x : DataW H × List MemPlace} (h : DataW.trod enc Try.prog W base sp held fuel 65 cs = some x) :
    ∃ c : S.Cl, cs = [.int .i64 c.term, .int .i64 c.vote, .int .i64 c.applied, .int .i64 c.active] ∧ M.inI64 c.term ∧ M.inI64 c.vote ∧ M.inI64 c.applied ∧ M.inI64 c.active := by
  obtain ⟨xs, f, _, hx, hlen, hxl, hf⟩ := DataW.trod_struct Try.underlying65 h
  rw [cellsSCell] at hlen
  match cs, hlen with
  | [c0, c1, c2, c3], _ =>
    match xs, hxl with
    | [y0, y1, y2, y3], _ =>
      have f0 : DataW.trod enc Try.prog W base sp held f 3 [c0] = some y0 := by simpa [cellsInt] using hf 0 _ rfl
      have f1 : DataW.trod enc Try.prog W base sp held f 3 [c1] = some y1 := by simpa [cellsInt] using hf 1 _ rfl
      have f2 : DataW.trod enc Try.prog W base sp held f 3 [c2] = some y2 := by simpa [cellsInt] using hf 2 _ rfl
      have f3 : DataW.trod enc Try.prog W base sp held f 3 [c3] = some y3 := by simpa [cellsInt] using hf 3 _ rfl
      obtain ⟨n0, rfl, h0⟩ := cs_int f0
      obtain ⟨n1, rfl, h1⟩ := cs_int f1
      obtain ⟨n2, rfl, h2⟩ := cs_int f2
      obtain ⟨n3, rfl, h3⟩ := cs_int f3
      exact ⟨⟨n0, n1, n2, n3⟩, rfl, h0, h1, h2, h3⟩
theorem cs_deed {fuel : Nat} {cs : List Value} {x : DataW H × List MemPlace} (h : DataW.trod enc Try.prog W base sp held fuel 68 cs = some x) :
    ∃ (d : Deed) (A : Option Addr) (n c : Nat), cs = deedL d A n c ∧ Ents W A d.es ∧ d.es.length = n ∧ d.In ∧ ((∀ z ∈ x.1.weights Try.prog 68, z ≤ reachBytes) → n ≤ 2199023255488) := by
  obtain ⟨xs, f, _, hx, hlen, hxl, hf⟩ := DataW.trod_struct Try.underlying68 h
  rw [cellsDeed] at hlen
  match cs, hlen with
  | [c0, c1, c2, c3, c4, c5, c6], _ =>
    match xs, hxl with
    | [y0, y1, y2, y3], _ =>
      have f0 : DataW.trod enc Try.prog W base sp held f 3 [c0] = some y0 := by simpa [cellsInt] using hf 0 _ rfl
      have f1 : DataW.trod enc Try.prog W base sp held f 65 [c1, c2, c3, c4] = some y1 := by simpa [cellsSCell] using hf 1 _ rfl
      have f2 : DataW.trod enc Try.prog W base sp held f 3 [c5] = some y2 := by simpa [cellsInt] using hf 2 _ rfl
      have f3 : DataW.trod enc Try.prog W base sp held f 66 [c6] = some y3 := by simpa [cellsEnts] using hf 3 _ rfl
      obtain ⟨k, rfl, hk⟩ := cs_int f0
      obtain ⟨cl, hcl, h1, h2, h3, h4⟩ := cs_cell f1
      obtain ⟨a, rfl, ha⟩ := cs_int f2
      obtain ⟨A, m, c, es, rfl, hE, hl, _, _, _, hw9⟩ := cs_entriesW f3
      simp only [List.cons.injEq, and_true] at hcl
      obtain ⟨rfl, rfl, rfl, rfl⟩ := hcl
      have hu := Try.underlying68
      refine ⟨⟨k, cl, a, es⟩, A, m, c, rfl, hE, hl, ⟨hk, h1, h2, h3, h4, ha⟩, fun hw => hw9 fun z hz => hw z ?_⟩
      rw [hx]
      simp [DataW.weights, hu, DataW.weightsEach, hz]
theorem open_deed {v : Value} {d : DataW H} {p : List MemPlace} (hv : Value.okWide Try.prog W r b0 68 v) (h : DataW.Trod enc Try.prog W base sp held 68 v d p) :
    ∃ (e : Deed) (A : Option Addr) (n c : Nat), v = .agg #[.int .i64 e.kind, .int .i64 e.cell.term, .int .i64 e.cell.vote, .int .i64 e.cell.applied, .int .i64 e.cell.active, .int .i64 e.a, .slice A n c] ∧ Ents W A e.es ∧ e.es.length = n ∧ e.In ∧ ((∀ z ∈ d.weights Try.prog 68, z ≤ reachBytes) → n ≤ 2199023255488) := by
  obtain ⟨cs, rfl, hsz⟩ := okWide_struct Try.underlying68 hv
  obtain ⟨fuel, hf⟩ := h
  obtain ⟨l, A, n, c, h0, h1⟩ := cs_deed hf
  refine ⟨l, A, n, c, ?_, h1⟩
  have : cs.toList = _ := h0
  unfold deedL at this
  rw [← this]
end
end Go.Proofs.Ytfpjmeknjhhakaa.K
