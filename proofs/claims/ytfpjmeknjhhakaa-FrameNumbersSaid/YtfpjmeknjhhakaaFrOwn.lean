/- The contracts of the law's own and theirs. -/
import Derived.Test.YtfpjmeknjhhakaaFrGreat
namespace Go.Proofs.Ytfpjmeknjhhakaa.K
open Go Go.RowKit

section
variable {P : Program} {w0 w : World} {L : List Acc}
/-- an append of whatever, in a region that draws its order -/
theorem step_append_bank {ops : Array Oper} {o : Oper} {a : Act} {K : Act → World → Prop} {Q : Exit → Act → World → Prop} {E : Prop} (h : Bank w0 w L) (hgd : o.guard = Option.none) (s y : Operand) (t : TypeId)
    (ho : o.op = .call { callee := .builtin .append, args := #[s, y], argTypes := #[t, t] })
    (e : TypeId) (z : Value) (size bytes : Nat) (hz : (P.info? e).map (fun i => (i.zero, i.size, i.bytes)) = some (some z, size, bytes)) (ht : P.underlying t = some (.slice e)) (hzs : z.cells.size = size) (hsz : 0 < size)
    (k : Nat) (A : Option Addr) (n cap : Nat) (xs : List Value) (hs : a.eval s = .slice A n cap) (hk : L[k]? = some ⟨.slice A n cap, n, e, size, xs⟩)
    (ad : Addr) (m c : Nat) (news : List Value) (hx : a.eval y = .slice (some ad) m c) (hl : news.length = m * size) (hnews : ∀ j u, news[j]? = some u → w.cell? (ad.add j) = some u) (h1 : ∀ u ∈ news, u.oneCell' = true)
    (h63 : n + m ≤ maxLen) (hbytes : (n + m) * bytes ≤ 140737488355328)
    (hK : ∀ A' n' c' w', n' = n + m → Bank w0 w' (L.set k ⟨.slice A' n' c', n', e, size, xs ++ news⟩) → K (a.put o.dst (.slice A' n' c')) w') :
    if Region.wanted o (yielded ops a.tmps) = true then Oper.wp P o a w K Q else E := by
  have hw : Region.wanted o (yielded ops a.tmps) = true := by simp [Region.wanted, hgd]
  rw [if_pos hw]
  obtain ⟨i0, hi, hz0, hz1, hz2⟩ := info_parts hz
  exact wp_append_bank h s y t ho e i0 z size bytes ht hi hz0 hz1 hz2 hzs hsz k A n cap xs hs hk (some ad) m c news hx (fun h => by cases h) hl (fun ad' e => by cases e; exact hnews) h1 h63 hbytes fun A' c' w' h2 => hK A' _ c' w' rfl h2
end
theorem own_of_block {w : World} {base g : Nat} {t : TypeId} {vs : List Value} (hb : base ≤ g) (hg : w.heap[g]? = some (.cells vs.toArray t (0, 0))) (hl : vs.length ≤ 140737488355328) : w.ownsRow base t 1 (.slice (some ⟨g, 0, none⟩) vs.length vs.length) vs.length vs := by
  refine ⟨?_, .inr ⟨g, _, _, rfl, hb, hg, Nat.le_refl _, ?_, ?_, ?_⟩⟩
  · show vs.length = vs.length * 1; omega
  · show vs.length ≤ maxLen; unfold maxLen; omega
  · show _ = vs.length * 1; simp
  · show vs.toArray.toList.take (vs.length * 1) = vs; simp
/-- a frame that was lent -/
structure LF where
  k : Int
  g : Nat
  bs : List (BitVec 8)
def LF.fr (p : LF) : F.Fr := ⟨p.k, p.bs⟩
def LF.cells (p : LF) : List Value := [.int .i64 p.k, .slice (some ⟨p.g, 0, none⟩) p.bs.length (p.bs.length + 12)]
def LF.acc (p : LF) : Acc := boxAcc p.g 5 (bv (p.bs ++ marks 1 0 12))
def OwnPost (w : World) (n : Nat) (fs : List F.Fr) (e : Ending) (w' : World) : Prop := ∃ (qs : List LF) (Fa : Option Addr) (cF : Nat), e = .returned (.slice Fa n cF) ∧ qs.map LF.fr = fs ∧ Bank w w' (⟨.slice Fa n cF, n, 36, 2, qs.flatMap LF.cells⟩ :: qs.reverse.map LF.acc)
def OwnRel (w : World) (fs : List F.Fr) (n : Nat) (v i : Value) (wr : World) : Prop := ∃ (k : Nat) (qs : List LF) (Fa : Option Addr) (cF : Nat), k ≤ n ∧ i = .int .i64 (k : Int) ∧ v = .slice Fa k cF ∧ qs.map LF.fr = fs.take k ∧ Bank w wr (⟨.slice Fa k cF, k, 36, 2, qs.flatMap LF.cells⟩ :: qs.reverse.map LF.acc)
theorem Bank.lentBox {w0 w w' : World} {L : List Acc} (h : Bank w0 w L) {g : Nat} {bs : List (BitVec 8)} (hl : w.heap.size ≤ g) (hg : w'.heap[g]? = some (.cells (bv (bs ++ marks 1 0 12)).toArray 5 (0, 0))) (hb : Since w w') (hbs : bs.length ≤ 1000000) : Bank w0 w' (boxAcc g 5 (bv (bs ++ marks 1 0 12)) :: L) := by
  have h' := h.call hb
  exact h'.add (own_of_block hl hg (by rw [bv_length, List.length_append, marks_length]; omega)) h.since.size (fun p hp b hb => (h.lt hp hb).2)
set_option maxHeartbeats 4000000 in
set_option maxRecDepth 100000 in
theorem own_any (A : Option Addr) (n c : Nat) (fs : List F.Fr) (w : World) (hfs : Ones w A fs) (hn : fs.length = n) (hw : fs.length + dl fs ≤ 20000) :
    Calls Try.prog 13 #[.slice A n c] w (OwnPost w n fs) := by
  have HF := Lib.hid hfs; have HN := Lib.hid hn; have HW := Lib.hid hw
  have hn20 : n ≤ 20000 := by omega
  have HB0 := Lib.hid (show Bank w w [⟨.slice none 0 0, 0, 36, 2, []⟩] from (Bank.nil (Below.refl w.heap.size w)).none _ _)
  clear hfs hn hw
  go_enter Try.func13, Try.ntmps13
  go_wp2_with fail
  go_loopw [3, 4] (fun v i wr => OwnRel w fs n v i wr) (fun _ i _ => n - (intOf i).toNat)
  case atStart => exact ⟨0, [], none, 0, Nat.zero_le _, rfl, rfl, rfl, HB0.out⟩
  case round =>
    clear HB0
    obtain ⟨k, qs, Fa, cF, hk, rfl, rfl, hqs, hB⟩ := hrel
    have HB := Lib.hid hB; have HQ := Lib.hid hqs
    have k0 : (0 : Int) ≤ (k : Int) := by omega
    clear hB hqs
    by_cases hlt : k < n
    · have i1 : (k : Int) < (n : Int) := by omega
      have hkl : k < fs.length := by rw [HN.out]; exact hlt
      obtain ⟨b, o, hA, D, m, d, hc, _, hr, _, _⟩ := HF.out k hkl
      subst hA
      obtain ⟨kd, ds, hfk⟩ : ∃ kd ds, fs[k] = F.Fr.mk kd ds := ⟨_, _, rfl⟩
      simp only [hfk] at hc hr
      have c0 : wr.drew.cell? ⟨b, o + k * 2, none⟩ = some (.int .i64 kd) := (HB.out.since.cell (p := ⟨b, o + k * 2, none⟩) (block_lt_of_cell (hc 0 _ rfl))).trans (hc 0 _ rfl)
      have c1 : wr.drew.cell? ⟨b, o + k * 2 + 1, none⟩ = some (.slice D m d) := (HB.out.since.cell (p := ⟨b, o + k * 2 + 1, none⟩) (block_lt_of_cell (hc 1 _ rfl))).trans (hc 1 _ rfl)
      have hbk : b < wr.drew.heap.size := block_lt_of_cell c0
      have HRD := Lib.hid (show RowRd w ⟨D, m, d⟩ ds from hr); have HLD := Lib.hid (show ds.length = m from hr.len)
      have hm : m ≤ 20000 := by
        have h1 := dl_mem (List.getElem_mem hkl)
        rw [hfk] at h1
        have h2 : ds.length ≤ dl fs := h1
        have := HLD.out; have := HW.out; omega
      have HFK := Lib.hid (show fs.take (k + 1) = fs.take k ++ [F.Fr.mk kd ds] by rw [List.take_succ_eq_append_getElem hkl, hfk])
      clear hc hr hfk
      have hB := HB.out.drew
      go_wp2_with fail
      go_region_law (first
        | (go_simp; go_at_call 42; refine (lent_from w D m d ds HRD.out (by omega) hB.since).mono ?_; rintro e w3 ⟨g3, rfl, hg3, hgc, hb3⟩; have hB := hB.lentBox hg3 hgc hb3 (by have := HLD.out; omega); have c0 := (hb3.cell (p := ⟨b, o + k * 2, none⟩) hbk).trans c0; clear hgc hb3 hg3)
        | (refine step_append_bank (hB.alloc _) rfl (.tmp 11) (.tmp 24) 25 rfl 36 _ 2 32 infoFrame Try.underlying25 rfl (by decide) 1 _ _ _ (qs.flatMap LF.cells) rfl rfl ⟨w3.heap.size, 0, none⟩ 1 1 [.int .i64 kd, .slice (some ⟨g3, 0, none⟩) m (m + 12)] rfl rfl (cells_lit2 _ _ _ _) (by intro v hv; simp at hv; rcases hv with rfl | rfl <;> rfl) (by unfold maxLen; omega) (by omega) ?_; intro A6 n6 c6 w6 hn6 hB; dsimp only [List.set] at hB; have HN6 := Lib.hid hn6; clear hn6)
        | fail "arm")
      all_goals
        have HB6 := Lib.hid hB
        clear hB c0 c1 hbk
        go_wp2_with fail
        go_roundw
        case rel =>
          have hn6 := HN6.out
          subst hn6
          have hml := HLD.out
          subst hml
          refine ⟨k + 1, qs ++ [⟨kd, g3, ds⟩], A6, c6, by omega, by go_num, rfl, by rw [List.map_append, HQ.out, HFK.out]; rfl, ?_⟩
          have h := HB6.out.swap
          simpa [LF.cells, LF.acc] using h
        case measure => simp [intOf]; omega
    · have i1 : ¬ (k : Int) < (n : Int) := by omega
      obtain rfl : k = n := by omega
      have HFIN := Lib.hid (show OwnPost w k fs (.returned (.slice Fa k cF)) wr from ⟨qs, Fa, cF, rfl, by rw [HQ.out, ← HN.out, List.take_length], HB.out⟩)
      go_wp2_with fail
      go_ret
      exact HFIN.out
/-- frames as the reference has them -/
def TheirsPost (w : World) (n : Nat) (fs : List F.Fr) (e : Ending) (w' : World) : Prop := ∃ (Fa : Option Addr) (cF : Nat), e = .returned (.slice Fa n cF) ∧ Ones w' Fa fs ∧ Since w w'
def TheirsRel (w : World) (ps : List FR) (n : Nat) (v i : Value) (wr : World) : Prop := ∃ (k : Nat) (Fa : Option Addr) (cF : Nat), k ≤ n ∧ i = .int .i64 (k : Int) ∧ v = .slice Fa k cF ∧ Bank w wr [⟨.slice Fa k cF, k, 46, 2, (ps.take k).flatMap FR.cells⟩]
theorem onesP_row {w0 w : World} {ps : List FR} {A Fa : Option Addr} {cF : Nat} {e : TypeId} (hP : OnesP w0 A ps) (h : Bank w0 w [⟨.slice Fa ps.length cF, ps.length, e, 2, ps.flatMap FR.cells⟩]) : OnesP w Fa ps := fun i hi => by
  obtain ⟨g, rfl, hc⟩ := frame_cells (h.at 0 rfl) (by omega)
  obtain ⟨_, _, _, _, _, h2, h3, h4⟩ := hP i hi
  refine ⟨g, 0, rfl, ?_, ?_, h2, h.since.row h3, h4⟩
  · rw [Nat.zero_add]; exact (hc i hi).1
  · rw [Nat.zero_add]; exact (hc i hi).2
theorem infoRF : (Try.prog.info? 46).map (fun i => (i.zero, i.size, i.bytes)) = some (some (.agg #[.int .i64 0, .slice none 0 0]), 2, 32) := by kernel_rfl
set_option maxHeartbeats 4000000 in
set_option maxRecDepth 100000 in
theorem theirs_any (A : Option Addr) (n c : Nat) (fs : List F.Fr) (w : World) (hfs : Ones w A fs) (hn : fs.length = n) (hw : fs.length + dl fs ≤ 20000) :
    Calls Try.prog 16 #[.slice A n c] w (TheirsPost w n fs) := by
  obtain ⟨ps, rfl, hP⟩ := onesP_of hfs
  have HP := Lib.hid hP; have HN := Lib.hid (show ps.length = n by rw [← hn, List.length_map])
  have hn20 : n ≤ 20000 := by omega
  have HB0 := Lib.hid (show Bank w w [⟨.slice none 0 0, 0, 46, 2, []⟩] from (Bank.nil (Below.refl w.heap.size w)).none _ _)
  clear hfs hn hw hP
  go_enter Try.func16, Try.ntmps16
  go_wp2_with fail
  go_loopw [3, 4] (fun v i wr => TheirsRel w ps n v i wr) (fun _ i _ => n - (intOf i).toNat)
  case atStart => exact ⟨0, none, 0, Nat.zero_le _, rfl, rfl, HB0.out⟩
  case round =>
    clear HB0
    obtain ⟨k, Fa, cF, hk, rfl, rfl, hB⟩ := hrel
    have HB := Lib.hid hB
    have k0 : (0 : Int) ≤ (k : Int) := by omega
    clear hB
    by_cases hlt : k < n
    · have i1 : (k : Int) < (n : Int) := by omega
      have hkl : k < ps.length := by rw [HN.out]; exact hlt
      obtain ⟨b, o, hA, hc0, hc1, _, _, _, _⟩ := HP.out k hkl
      subst hA
      have HT := Lib.hid (show (ps.take (k + 1)).flatMap FR.cells = (ps.take k).flatMap FR.cells ++ [.int .i64 ps[k].k, ps[k].x.v] by rw [List.take_succ_eq_append_getElem hkl, List.flatMap_append]; simp [FR.cells])
      generalize ps[k] = pk at *
      obtain ⟨kd, ⟨D, m, d⟩, ds⟩ := pk
      dsimp only [Rw.v] at hc0 hc1 HT
      have c0 : wr.drew.cell? ⟨b, o + k * 2, none⟩ = some (.int .i64 kd) := (HB.out.since.cell (p := ⟨b, o + k * 2, none⟩) (block_lt_of_cell hc0)).trans hc0
      have c1 : wr.drew.cell? ⟨b, o + k * 2 + 1, none⟩ = some (.slice D m d) := (HB.out.since.cell (p := ⟨b, o + k * 2 + 1, none⟩) (block_lt_of_cell hc1)).trans hc1
      have hB := HB.out.drew
      clear hc0 hc1
      go_wp2_with fail
      go_region_law (first
        | (refine step_append_bank (hB.alloc _) rfl (.tmp 11) (.tmp 23) 32 rfl 46 _ 2 32 infoRF Try.underlying32 rfl (by decide) 0 _ _ _ ((ps.take k).flatMap FR.cells) rfl rfl ⟨wr.heap.size, 0, none⟩ 1 1 [.int .i64 kd, .slice D m d] rfl rfl (cells_lit2 _ _ _ _) (by intro v hv; simp at hv; rcases hv with rfl | rfl <;> rfl) (by unfold maxLen; omega) (by omega) ?_; intro A6 n6 c6 w6 hn6 hB; dsimp only [List.set] at hB; have HN6 := Lib.hid hn6; clear hn6)
        | fail "arm")
      all_goals
        have HB6 := Lib.hid hB
        clear hB c0 c1
        go_wp2_with fail
        go_roundw
        case rel =>
          have hn6 := HN6.out
          subst hn6
          exact ⟨k + 1, A6, c6, by omega, by go_num, rfl, by rw [HT.out]; exact HB6.out⟩
        case measure => simp [intOf]; omega
    · have i1 : ¬ (k : Int) < (n : Int) := by omega
      obtain rfl : k = n := by omega
      have HFIN := Lib.hid (show TheirsPost w k (ps.map FR.fr) (.returned (.slice Fa k cF)) wr from ⟨Fa, cF, rfl, ones_of (onesP_row HP.out (by
        have h := HB.out
        rw [← HN.out, List.take_length] at h
        rw [HN.out] at h ⊢
        exact h)), HB.out.since⟩)
      go_wp2_with fail
      go_ret
      exact HFIN.out
end Go.Proofs.Ytfpjmeknjhhakaa.K
