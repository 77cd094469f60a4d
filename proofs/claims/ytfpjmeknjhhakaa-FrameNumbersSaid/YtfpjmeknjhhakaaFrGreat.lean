/- The contract of the law's great, and frames in memory as a list of what stands there. -/
import Derived.Test.YtfpjmeknjhhakaaFrScans
import Derived.Test.YtfpjmeknjhhakaaFrPut
namespace Go.Proofs.Ytfpjmeknjhhakaa.K
open Go Go.RowKit

def dl (fs : List F.Fr) : Nat := (fs.map fun f => f.data.length).sum
theorem dl_cons (f : F.Fr) (fs : List F.Fr) : dl (f :: fs) = f.data.length + dl fs := by simp [dl]
theorem dl_append (a b : List F.Fr) : dl (a ++ b) = dl a + dl b := by simp [dl]
theorem dl_take (fs : List F.Fr) (k : Nat) (h : k < fs.length) : dl (fs.take (k + 1)) = dl (fs.take k) + fs[k].data.length := by
  rw [List.take_succ_eq_append_getElem h, dl_append]; simp [dl]
theorem dl_take_le (fs : List F.Fr) (k : Nat) : dl (fs.take k) ≤ dl fs := by
  conv => rhs; rw [← List.take_append_drop k fs, dl_append]
  omega
theorem dl_mem {fs : List F.Fr} {f : F.Fr} (h : f ∈ fs) : f.data.length ≤ dl fs := by
  induction fs with
  | nil => cases h
  | cons g fs ih =>
    rw [dl_cons]
    rcases List.mem_cons.1 h with rfl | h
    · omega
    · have := ih h; omega
theorem pbytes_len (fs : List F.Fr) : (F.pbytes fs).length = 9 * fs.length + dl fs := by
  induction fs with
  | nil => rfl
  | cons f fs ih => rw [F.pbytes_cons, List.length_append, F.one_length, ih, dl_cons, List.length_cons]; omega
/-- whether it is more than is gone through -/
def GreatPost (w : World) (fs : List F.Fr) (e : Ending) (w' : World) : Prop := ∃ b : Bool, e = .returned (.bool b) ∧ (b = false → fs.length + dl fs ≤ 20000) ∧ w = w'
set_option maxHeartbeats 4000000 in
set_option maxRecDepth 100000 in
theorem great_any (A : Option Addr) (n c : Nat) (fs : List F.Fr) (w : World) (hfs : Ones w A fs) (hn : fs.length = n) (hnc : n ≤ c) (hc : c ≤ 9223372036854775807) (hw : ∀ f ∈ fs, f.data.length ≤ 140737488351232) :
    Calls Try.prog 11 #[.slice A n c] w (GreatPost w fs) := by
  have HF := Lib.hid hfs; have HN := Lib.hid hn; have HW := Lib.hid hw
  clear hfs hn hw
  go_enter Try.func11, Try.ntmps11
  go_wp2_with fail
  go_loop [3, 4] (fun v i => ∃ k s : Nat, k ≤ n ∧ i = .int .i64 (k : Int) ∧ v = .int .i64 (s : Int) ∧ Hid (s = n + dl (fs.take k)) ∧ s ≤ 140737488371233 + n) (fun _ i => n - (intOf i).toNat)
  case atStart => exact ⟨0, n, Nat.zero_le _, rfl, rfl, Lib.hid (by simp [dl]), by omega⟩
  case round =>
    obtain ⟨k, s, hk, rfl, rfl, HS, hs⟩ := hrel
    have k0 : (0 : Int) ≤ (k : Int) := by omega
    by_cases hlt : k < n
    · have i1 : (k : Int) < (n : Int) := by omega
      by_cases hle : s ≤ 20000
      · have i2 : (s : Int) ≤ 20000 := by omega
        have hkl : k < fs.length := by rw [HN.out]; exact hlt
        obtain ⟨b, o, hA, D, m, d, hcc, _, hr, _, _⟩ := HF.out k hkl
        subst hA
        have c1 := hcc 1 _ rfl
        have HM := Lib.hid (show fs[k].data.length = m from hr.len)
        have hm : m ≤ 140737488351232 := by have := HW.out fs[k] (List.getElem_mem _); have := HM.out; omega
        have HD := Lib.hid (dl_take fs k hkl)
        clear hcc hr
        go_wp2_with fail
        go_round
        case rel => exact ⟨k + 1, s + m, by omega, by go_num, by go_num, Lib.hid (by rw [HD.out, HM.out, HS.out]; omega), by omega⟩
        case measure => simp [intOf]; omega
      · have i2 : ¬ (s : Int) ≤ 20000 := by omega
        have i3 : (20000 : Int) < (s : Int) := by omega
        go_wp2_with fail
        go_ret
        exact ⟨true, rfl, (fun h => by cases h), rfl⟩
    · have i1 : ¬ (k : Int) < (n : Int) := by omega
      have HK := Lib.hid (show k = fs.length by have := HN.out; omega)
      by_cases hle : s ≤ 20000
      · have i3 : ¬ (20000 : Int) < (s : Int) := by omega
        have HFIN := Lib.hid (show fs.length + dl fs ≤ 20000 by
          have h := HS.out
          rw [HK.out, List.take_length] at h
          have := HN.out
          omega)
        go_wp2_with fail
        go_ret
        exact ⟨false, rfl, (fun _ => HFIN.out), rfl⟩
      · have i3 : (20000 : Int) < (s : Int) := by omega
        go_wp2_with fail
        go_ret
        exact ⟨true, rfl, (fun h => by cases h), rfl⟩
/-- frames in memory: what stands there -/
def OnesP (w : World) (A : Option Addr) (ps : List FR) : Prop := ∀ i, (h : i < ps.length) → ∃ b o, A = some ⟨b, o, none⟩ ∧ w.cell? ⟨b, o + i * 2, none⟩ = some (.int .i64 ps[i].k) ∧ w.cell? ⟨b, o + i * 2 + 1, none⟩ = some ps[i].x.v ∧ M.inI64 ps[i].k ∧ RowRd w ps[i].x ps[i].bs ∧ ps[i].x.n ≤ ps[i].x.c ∧ ps[i].x.c ≤ 9223372036854775807
theorem OnesP.below {w w' : World} {A : Option Addr} {ps : List FR} (h : OnesP w A ps) (hb : Since w w') : OnesP w' A ps := fun i hi => by
  obtain ⟨b, o, e, h0, h1, h2, h3, h4⟩ := h i hi
  exact ⟨b, o, e, (hb.cell (p := ⟨b, o + i * 2, none⟩) (block_lt_of_cell h0)).trans h0, (hb.cell (p := ⟨b, o + i * 2 + 1, none⟩) (block_lt_of_cell h1)).trans h1, h2, hb.row h3, h4⟩
theorem onesP_of {w : World} {A : Option Addr} {fs : List F.Fr} (h : Ones w A fs) : ∃ ps : List FR, ps.map FR.fr = fs ∧ OnesP w A ps := by
  have hev : ∀ i : Nat, ∃ p : FR, (hi : i < fs.length) → p.fr = fs[i] ∧ ∃ b o, A = some ⟨b, o, none⟩ ∧ w.cell? ⟨b, o + i * 2, none⟩ = some (.int .i64 p.k) ∧ w.cell? ⟨b, o + i * 2 + 1, none⟩ = some p.x.v ∧ M.inI64 p.k ∧ RowRd w p.x p.bs ∧ p.x.n ≤ p.x.c ∧ p.x.c ≤ 9223372036854775807 := by
    intro i
    by_cases hi : i < fs.length
    · obtain ⟨b, o, e, D, m, d, hc, h1, h2, h3, h4⟩ := h i hi
      exact ⟨⟨fs[i].kind, ⟨D, m, d⟩, fs[i].data⟩, fun _ => ⟨rfl, b, o, e, hc 0 _ rfl, hc 1 _ rfl, h1, h2, h3, h4⟩⟩
    · exact ⟨⟨0, ⟨none, 0, 0⟩, []⟩, fun h => absurd h hi⟩
  obtain ⟨f, hf⟩ := Classical.axiomOfChoice hev
  have hl : ((List.range fs.length).map f).length = fs.length := by simp
  refine ⟨(List.range fs.length).map f, List.ext_getElem (by simp) fun i h1 h2 => ?_, fun i hi => ?_⟩
  · simp only [List.getElem_map, List.getElem_range]
    exact (hf i h2).1
  · rw [hl] at hi
    simp only [List.getElem_map, List.getElem_range]
    exact (hf i hi).2
theorem ones_of {w : World} {A : Option Addr} {ps : List FR} (h : OnesP w A ps) : Ones w A (ps.map FR.fr) := fun i hi => by
  rw [List.length_map] at hi
  obtain ⟨b, o, e, h0, h1, h2, h3, h4, h5⟩ := h i hi
  refine ⟨b, o, e, ps[i].x.A, ps[i].x.n, ps[i].x.c, fun j u hu => ?_, by rw [List.getElem_map]; exact h2, by rw [List.getElem_map]; exact h3, h4, h5⟩
  rw [List.getElem_map] at hu
  match j, hu with
  | 0, hu => cases hu; exact h0
  | 1, hu => cases hu; exact h1
  | j + 2, hu => simp at hu
end Go.Proofs.Ytfpjmeknjhhakaa.K
