/- Merged: KitKept, KitLet2, LetAwake, LetOpen, Lay. -/
import Derived.Test.YtdmpphioflcofaaLq6
import Derived.Lib.QuietBelow
import Derived.Deep.RegionHeld3
import Derived.Deep.DeepCutAuto
import Derived.SizedLaws
/- The contracts of barbicankit's KeptEntries, LentLetter, KeptLetter, LetterOf. -/
namespace Go.Proofs.Ytdmpphioflcofaa.K
open Go Go.RowKit

theorem flat_len {f : Nat → List Value} {es : Nat} (hf : ∀ i, (f i).length = es) : ∀ n, ((List.range n).flatMap f).length = n * es
  | 0 => by simp
  | n + 1 => by rw [List.range_succ, List.flatMap_append, List.length_append, flat_len hf n, Nat.add_mul]; simp [hf]
theorem flat_at {f : Nat → List Value} {es : Nat} (hf : ∀ i, (f i).length = es) {n i j : Nat} (hi : i < n) (hj : j < es) : ((List.range n).flatMap f)[i * es + j]? = (f i)[j]? := by
  induction n with
  | zero => omega
  | succ n ih =>
    rw [List.range_succ, List.flatMap_append]
    by_cases h : i < n
    · have hm : (i + 1) * es ≤ n * es := Nat.mul_le_mul_right _ h
      have hm2 : (i + 1) * es = i * es + es := by rw [Nat.add_mul, Nat.one_mul]
      rw [List.getElem?_append_left (by rw [flat_len hf]; omega)]
      exact ih h
    · obtain rfl : i = n := by omega
      rw [List.getElem?_append_right (by rw [flat_len hf]; omega), flat_len hf, show i * es + j - i * es = j by omega]
      simp
theorem lent_at {es : List M.Ent} {d : Nat → Nat} {n k j : Nat} {m : List Value} (hk : k < n) (hj : j < 6) : (lentEs es d n ++ m)[k * 6 + j]? = (lentE (es.getD k M.zeroEnt) (d k))[j]? := by
  rw [List.getElem?_append_left (by rw [lentEs_length]; omega)]
  exact flat_at (f := fun i => lentE (es.getD i M.zeroEnt) (d i)) (fun i => lentE_length _ _) hk hj
theorem mark_at {es : List M.Ent} {d : Nat → Nat} {n k q j : Nat} (hq : k < q) (hj : j < 6) : (lentEs es d n ++ markEs q)[(n + k) * 6 + j]? = (mEnt 1 k)[j]? := by
  rw [List.getElem?_append_right (by rw [lentEs_length]; omega), lentEs_length, show (n + k) * 6 + j - n * 6 = k * 6 + j by omega]
  exact flat_at (f := fun i : Nat => mEnt 1 i) (fun i => mEnt_length _ _) hq hj
set_option maxHeartbeats 8000000 in
set_option maxRecDepth 100000 in
theorem KeptEntries_any (g : Nat) (d : Nat → Nat) (A : Option Addr) (n c : Nat) (es : List M.Ent) (w : World) (hg : w.heap[g]? = some (.cells (lentEs es d n ++ markEs 12).toArray 48 (0, 0))) (hd : ∀ j, j < n → w.heap[d j]? = some (.cells (bv ((es.getD j M.zeroEnt).data ++ marks 1 0 12)).toArray 5 (0, 0)))
    (hl : es.length = n) (hE : EntsRd w A es) (hn : n ≤ 1000000) (hD : ∀ e ∈ es, e.data.length ≤ 140737488000000) :
    Calls Try.prog 30 #[.slice (some ⟨g, 0, none⟩) n (n + 12), .slice A n c] w (SaidB w true) := by
  have HG := Lib.hid hg; have HDD := Lib.hid hd; have HL := Lib.hid hl; have HE := Lib.hid hE; have HD := Lib.hid hD
  clear hg hd hl hE hD
  go_enter Try.func30, Try.ntmps30
  go_wp2
  go_loopw [6] (fun i wr => ∃ k : Nat, k ≤ n + 12 ∧ i = .int .i64 (k : Int) ∧ Since w wr) (fun i _ => n + 12 - (intOf i).toNat)
  case atStart => exact ⟨0, by omega, rfl, Below.refl _ _⟩
  case round =>
    obtain ⟨k, hk, rfl, hs⟩ := hrel
    have S1 := Lib.hid hs
    clear hs
    have k0 : (0 : Int) ≤ (k : Int) := by omega
    have hgr := Since.at S1.out HG.out
    rcases Nat.lt_or_ge k (n + 12) with h1 | h1
    · have i1 : (k : Int) < ((n + 12 : Nat) : Int) := by omega
      have i1' : (k : Int) < (n : Int) + 12 := by omega
      rcases Nat.lt_or_ge k n with h2 | h2
      · have i2 : (k : Int) < (n : Int) := by omega
        have d2 : decide ((k : Int) < (n : Int)) = true := by simpa using i2
        have d4 : decide (n ≤ k) = false := by simp; omega
        have d5 : decide ((n : Int) ≤ (k : Int)) = false := by simp; omega
        have d6 : decide (k < n) = true := by simp; omega
        have hkl : k < es.length := by rw [HL.out]; exact h2
        obtain ⟨b, o, rfl, A', m', c2, ⟨y0, y1, y2, y3, y4, y5⟩, hrd⟩ := HE.out.since S1.out k hkl
        obtain ⟨x, hx⟩ : ∃ x, x = es[k] := ⟨_, rfl⟩
        rw [← hx] at y0 y1 y2 y3 y4 hrd
        have hxd : es.getD k M.zeroEnt = x := by rw [hx]; simp [hkl]
        have hml : x.data.length = m' := hrd.len
        have hmb : m' ≤ 140737488000000 := by rw [← hml, hx]; exact HD.out _ (List.getElem_mem _)
        have hla : ∀ j, j < 6 → (lentEs es d n ++ markEs 12)[k * 6 + j]? = (entL x.term x.version x.server x.kind x.good (some ⟨d k, 0, none⟩) m' (m' + 12))[j]? := fun j hj => by
          rw [lent_at h2 hj, hxd, lentE, hml]
        have z0 : wr.cell? ⟨g, k * 6, none⟩ = some (.int .i64 x.term) := block_cell hgr (hla 0 (by omega))
        have z1 : wr.cell? ⟨g, k * 6 + 1, none⟩ = some (B8 x.kind) := block_cell hgr (hla 1 (by omega))
        have z2 : wr.cell? ⟨g, k * 6 + 2, none⟩ = some (.int .i64 x.version) := block_cell hgr (hla 2 (by omega))
        have z3 : wr.cell? ⟨g, k * 6 + 3, none⟩ = some (.int .i64 x.server) := block_cell hgr (hla 3 (by omega))
        have z4 : wr.cell? ⟨g, k * 6 + 4, none⟩ = some (.bool x.good) := block_cell hgr (hla 4 (by omega))
        have z5 : wr.cell? ⟨g, k * 6 + 5, none⟩ = some (.slice (some ⟨d k, 0, none⟩) m' (m' + 12)) := block_cell hgr (hla 5 (by omega))
        have hdk := Since.at S1.out (HDD.out k h2)
        rw [hxd] at hdk
        have HKE := Lib.hid (fun (dq : Nat) (osq : Array Obj) => KeptEntry_any x.term x.version x.server x.kind x.good (d k) A' m' c2 x.data _ (Since.at (below_regrown wr dq osq) hdk) (Since.row (below_regrown wr dq osq) hrd) hmb)
        clear hx hxd hrd hml hmb hla hdk hgr
        go_upto_region 7 with fail
        have ry0 := cell_regrown y0
        have ry1 := cell_regrown y1
        have ry2 := cell_regrown y2
        have ry3 := cell_regrown y3
        have ry4 := cell_regrown y4
        have ry5 := cell_regrown y5
        have rz0 := cell_regrown z0
        have rz1 := cell_regrown z1
        have rz2 := cell_regrown z2
        have rz3 := cell_regrown z3
        have rz4 := cell_regrown z4
        have rz5 := cell_regrown z5
        clear y0 y1 y2 y3 y4 y5 z0 z1 z2 z3 z4 z5
        refine wp_region_quiet_below (by kernel_rfl) (by kernel_rfl) ?_
        repeat (refine @wpQuiet_step _ _ _ _ _ _ _ ?_; intro K hK; go_simp; first | (refine hK _ ?_; clear hK K) | (apply Exists.intro; refine ⟨fun _ => ?_, hK _ ?_⟩; (with_reducible exact Calls.regrown_of (HKE.out _ _)); clear hK K))
        refine wpQuiet_nil ?_
        intro _ hw'
        obtain ⟨⟨dq, osq⟩, hw''⟩ := hw'
        subst hw''
        have S2 := Lib.hid (S1.out.add (below_regrown wr dq osq))
        clear ry0 ry1 ry2 ry3 ry4 ry5 rz0 rz1 rz2 rz3 rz4 rz5 S1
        go_wp2_with fail
        go_roundw
        case rel => exact ⟨k + 1, by omega, by go_num, S2.out⟩
        case measure => simp [intOf]; omega
      · have i2 : ¬ (k : Int) < (n : Int) := by omega
        have d2 : decide ((k : Int) < (n : Int)) = false := by simpa using i2
        have i3 : (n : Int) ≤ (k : Int) := by omega
        have d3 : decide ((n : Int) ≤ (k : Int)) = true := by simpa using i3
        have d4 : decide (n ≤ k) = true := by simp; omega
        have d6 : decide (k < n) = false := by simp; omega
        obtain ⟨q, hq⟩ : ∃ q, k = n + q := ⟨k - n, by omega⟩
        have hla : ∀ j, j < 6 → (lentEs es d n ++ markEs 12)[k * 6 + j]? = (mEnt 1 q)[j]? := fun j hj => by rw [hq]; exact mark_at (by omega) hj
        have z0 : wr.cell? ⟨g, k * 6, none⟩ = some (.int .i64 (markI 1 q)) := block_cell hgr (hla 0 (by omega))
        have z1 : wr.cell? ⟨g, k * 6 + 1, none⟩ = some (B8 0#8) := block_cell hgr (hla 1 (by omega))
        have z2 : wr.cell? ⟨g, k * 6 + 2, none⟩ = some (.int .i64 0) := block_cell hgr (hla 2 (by omega))
        have z3 : wr.cell? ⟨g, k * 6 + 3, none⟩ = some (.int .i64 0) := block_cell hgr (hla 3 (by omega))
        have z4 : wr.cell? ⟨g, k * 6 + 4, none⟩ = some (.bool false) := block_cell hgr (hla 4 (by omega))
        have z5 : wr.cell? ⟨g, k * 6 + 5, none⟩ = some (.slice none 0 0) := block_cell hgr (hla 5 (by omega))
        have hsub : IntKind.i64.wrap ((k : Int) - (n : Int)) = (q : Int) := by rw [show ((k : Int) - (n : Int)) = (q : Int) by omega]; exact IntWalk.i64_in _ (by omega)
        clear hla hgr hq
        go_upto_region 7 with fail
        have rz0 := cell_regrown z0
        have rz1 := cell_regrown z1
        have rz2 := cell_regrown z2
        have rz3 := cell_regrown z3
        have rz4 := cell_regrown z4
        have rz5 := cell_regrown z5
        clear z0 z1 z2 z3 z4 z5
        have HSM := Lib.hid (fun (w : World) => SameEntry_eq (markI 1 q) 0 0 0#8 false none none 0 0 0 0 [] w ⟨Rd.of_nil _ _, rfl, fun _ => rfl⟩ ⟨Rd.of_nil _ _, rfl, fun _ => rfl⟩ (by omega))
        refine wp_region_quiet_below (by kernel_rfl) (by kernel_rfl) ?_
        repeat (refine @wpQuiet_step _ _ _ _ _ _ _ ?_; intro K hK; go_simp; first | (refine hK _ ?_; clear hK K) | (apply Exists.intro; refine ⟨fun _ => ?_, hK _ ?_⟩; (first | (with_reducible exact Calls.regrown_of (markEntry_any _ _ _)) | (with_reducible exact Calls.regrown_of (HSM.out _))); clear hK K))
        refine wpQuiet_nil ?_
        intro _ hw'
        obtain ⟨⟨dq, osq⟩, hw''⟩ := hw'
        subst hw''
        have S2 := Lib.hid (S1.out.add (below_regrown wr dq osq))
        clear rz0 rz1 rz2 rz3 rz4 rz5 S1
        go_wp2_with fail
        go_roundw
        case rel => exact ⟨k + 1, by omega, by go_num, S2.out⟩
        case measure => simp [intOf]; omega
    · have i1 : ¬ (k : Int) < ((n + 12 : Nat) : Int) := by omega
      have i1' : ¬ (k : Int) < (n : Int) + 12 := by omega
      have HFIN := Lib.hid (show SaidB w true (.returned (.bool true)) wr from ⟨rfl, S1.out⟩)
      clear hgr
      go_wp2
      go_ret
      exact HFIN.out
/-- cells of a letter -/
def letL (l : M.Let) (A : Option Addr) (n c : Nat) : List Value := [B8 l.kind, .int .i64 l.src, .int .i64 l.dst, .int .i64 l.term, .int .i64 l.index, .int .i64 l.was, .bool l.ok, .int .i64 l.commit, .int .i64 l.version, .slice A n c]
theorem infoLetL (l : M.Let) (A : Option Addr) (n c : Nat) : (Try.prog.info? 25).map (·.size) = some (letL l A n c).toArray.size := by
  rw [show (letL l A n c).toArray.size = 10 from rfl]; kernel_rfl
theorem letL_one (l : M.Let) (A : Option Addr) (n c : Nat) : (letL l A n c).toArray.all (·.oneCell') = true := by
  rw [Array.all_eq_true_iff_forall_mem]
  intro x hx
  simp only [letL, List.mem_toArray, List.mem_cons, List.mem_nil_iff, or_false] at hx
  rcases hx with rfl | rfl | rfl | rfl | rfl | rfl | rfl | rfl | rfl | rfl <;> rfl
/-- lent data -/
def LentD (w0 w : World) (n : Nat) (es : List M.Ent) (g : Nat) (d : Nat → Nat) : Prop := w0.heap.size ≤ g ∧ w.heap[g]? = some (.cells (lentEs es d n ++ markEs 12).toArray 48 (0, 0)) ∧ ∀ j, j < n → w0.heap.size ≤ d j ∧ w.heap[d j]? = some (.cells (bv ((es.getD j M.zeroEnt).data ++ marks 1 0 12)).toArray 5 (0, 0))
theorem LentD.since {w0 w w' : World} {n : Nat} {es : List M.Ent} {g : Nat} {d : Nat → Nat} (h : LentD w0 w n es g d) (hs : Since w w') : LentD w0 w' n es g d := ⟨h.1, Since.at hs h.2.1, fun j hj => ⟨(h.2.2 j hj).1, Since.at hs (h.2.2 j hj).2⟩⟩
theorem LentD.low {w0 w1 w : World} {n : Nat} {es : List M.Ent} {g : Nat} {d : Nat → Nat} (h : LentD w1 w n es g d) (hs : w0.heap.size ≤ w1.heap.size) : LentD w0 w n es g d := ⟨Nat.le_trans hs h.1, h.2.1, fun j hj => ⟨Nat.le_trans hs (h.2.2 j hj).1, (h.2.2 j hj).2⟩⟩
/-- lent entries read as entries -/
theorem LentD.rd {w0 w : World} {n : Nat} {es : List M.Ent} {g : Nat} {d : Nat → Nat} (h : LentD w0 w n es g d) (hl : es.length = n) : EntsRd w (some ⟨g, 0, none⟩) es := fun i hi => by
  have hin : i < n := by omega
  have hx : es.getD i M.zeroEnt = es[i] := by simp [hi]
  have hla : ∀ j, j < 6 → (lentEs es d n ++ markEs 12)[i * 6 + j]? = (lentE es[i] (d i))[j]? := fun j hj => by rw [lent_at hin hj, hx]
  refine ⟨g, 0, rfl, some ⟨d i, 0, none⟩, es[i].data.length, es[i].data.length + 12, ?_, ?_⟩
  · rw [Nat.zero_add]
    exact ⟨block_cell h.2.1 (hla 0 (by omega)), block_cell h.2.1 (hla 1 (by omega)), block_cell h.2.1 (hla 2 (by omega)), block_cell h.2.1 (hla 3 (by omega)), block_cell h.2.1 (hla 4 (by omega)), block_cell h.2.1 (hla 5 (by omega))⟩
  · have h2 := (h.2.2 i hin).2
    rw [hx] at h2
    exact lent_row h2 rfl
/-- a lent letter -/
def LentL (w : World) (l : M.Let) (n : Nat) (e : Ending) (w' : World) : Prop := ∃ g d, e = .returned (.agg #[B8 l.kind, .int .i64 l.src, .int .i64 l.dst, .int .i64 l.term, .int .i64 l.index, .int .i64 l.was, .bool l.ok, .int .i64 l.commit, .int .i64 l.version, .slice (some ⟨g, 0, none⟩) n (n + 12)]) ∧ LentD w w' n l.ents g d ∧ Since w w'
set_option maxHeartbeats 8000000 in
set_option maxRecDepth 100000 in
theorem LentLetter_any (l : M.Let) (A : Option Addr) (n c : Nat) (w : World) (hl : l.ents.length = n) (hE : EntsRd w A l.ents) (hn : n ≤ 1000000) (hD : ∀ e ∈ l.ents, e.data.length ≤ 140737488000000) :
    Calls Try.prog 7 #[.agg #[B8 l.kind, .int .i64 l.src, .int .i64 l.dst, .int .i64 l.term, .int .i64 l.index, .int .i64 l.was, .bool l.ok, .int .i64 l.commit, .int .i64 l.version, .slice A n c]] w (LentL w l n) := by
  have HE := Lib.hid hE; have HL := Lib.hid hl; have HD := Lib.hid hD
  have BK0 := Lib.hid (((Bank.nil (Below.refl w.heap.size w)).box #[B8 l.kind, .int .i64 l.src, .int .i64 l.dst, .int .i64 l.term, .int .i64 l.index, .int .i64 l.was, .bool l.ok, .int .i64 l.commit, .int .i64 l.version, .slice A n c] 25 (by simp)).box #[.int .u8 0, .int .i64 0, .int .i64 0, .int .i64 0, .int .i64 0, .int .i64 0, .bool false, .int .i64 0, .int .i64 0, .slice none 0 0] 25 (by simp))
  rw [World.size_alloc] at BK0
  clear hE hl hD
  go_enter Try.func7, Try.ntmps7
  go_wp2_with fail
  generalize (w.alloc (.cells #[B8 l.kind, .int .i64 l.src, .int .i64 l.dst, .int .i64 l.term, .int .i64 l.index, .int .i64 l.was, .bool l.ok, .int .i64 l.commit, .int .i64 l.version, .slice A n c] 25)).alloc (.cells #[.int .u8 0, .int .i64 0, .int .i64 0, .int .i64 0, .int .i64 0, .int .i64 0, .bool false, .int .i64 0, .int .i64 0, .slice none 0 0] 25) = w1 at *
  refine (LentEntries_any A n c l.ents w1 HL.out (HE.out.since BK0.out.since) hn HD.out).mono ?_
  rintro e w2 ⟨g, d, rfl, hg, hb, hd, hs⟩
  have BK2 := Lib.hid (BK0.out.call hs)
  have c9 := BK2.out.cell 1 rfl 9 rfl
  have f9 := BK2.out.free 1 rfl 9
  have hlt1 := BK2.out.boxAt 1 rfl
  have hlt0 := BK2.out.boxAt 0 rfl
  have BK3 := Lib.hid (BK2.out.boxSet 1 rfl 9 (.slice (some ⟨g, 0, none⟩) n (n + 12)))
  have hsz := BK0.out.since.size
  have hw1 : w.heap.size + 2 ≤ w1.heap.size := by
    have h := (BK0.out.lt (p := boxAcc (w.heap.size + 1) 25 (#[.int .u8 0, .int .i64 0, .int .i64 0, .int .i64 0, .int .i64 0, .int .i64 0, .bool false, .int .i64 0, .int .i64 0, .slice none 0 0] : Array Value).toList) (b := w.heap.size + 1) (List.mem_cons_self ..) rfl).2
    omega
  have LD2 : LentD w1 w2 n l.ents g d := ⟨hg, hb, hd⟩
  have kb : ∀ (w0 w' : World) (X : Nat), X < w1.heap.size → w0.grownBy w' (some X) → LentD w1 w0 n l.ents g d → LentD w1 w' n l.ents g d := fun w0 w' X hX hgr h =>
    ⟨h.1, (hgr.block _ (Array.getElem?_eq_some_iff.1 h.2.1).1 (fun e => by have := h.1; simp at e; omega)).trans h.2.1, fun j hj => ⟨(h.2.2 j hj).1, (hgr.block _ (Array.getElem?_eq_some_iff.1 (h.2.2 j hj).2).1 (fun e => by have := (h.2.2 j hj).1; simp at e; omega)).trans (h.2.2 j hj).2⟩⟩
  have LD3 := kb _ _ w.heap.size (by omega) (grownBy_setCell w2 w.heap.size 9 (.slice (some ⟨g, 0, none⟩) n (n + 12))) LD2
  have x0 := BK3.out.cell 1 rfl 0 rfl
  have x1 := BK3.out.cell 1 rfl 1 rfl
  have x2 := BK3.out.cell 1 rfl 2 rfl
  have x3 := BK3.out.cell 1 rfl 3 rfl
  have x4 := BK3.out.cell 1 rfl 4 rfl
  have x5 := BK3.out.cell 1 rfl 5 rfl
  have x6 := BK3.out.cell 1 rfl 6 rfl
  have x7 := BK3.out.cell 1 rfl 7 rfl
  have x8 := BK3.out.cell 1 rfl 8 rfl
  have x9 := BK3.out.cell 1 rfl 9 rfl
  have HRES := Lib.hid (BK3.out.boxAt 0 rfl).2
  have BK4 := BK3.out.boxRow 0 rfl (letL l (some ⟨g, 0, none⟩) n (n + 12)) rfl (by decide)
  have LD4 := kb _ _ (w.heap.size + 1) (by omega) (show (w2.setCell ⟨w.heap.size, 9, none⟩ (.slice (some ⟨g, 0, none⟩) n (n + 12))).grownBy ((w2.setCell ⟨w.heap.size, 9, none⟩ (.slice (some ⟨g, 0, none⟩) n (n + 12))).setRow (w.heap.size + 1) (letL l (some ⟨g, 0, none⟩) n (n + 12)).toArray) (some (w.heap.size + 1)) from ⟨rfl, rfl, rfl, by simp [World.setRow], fun k hk hne => setRow_other _ _ k _ (fun e => hne (by rw [e]))⟩) LD3
  have HFIN := Lib.hid (show LentL w l n (.returned (.agg (letL l (some ⟨g, 0, none⟩) n (n + 12)).toArray)) ((w2.setCell ⟨w.heap.size, 9, none⟩ (.slice (some ⟨g, 0, none⟩) n (n + 12))).setRow (w.heap.size + 1) (letL l (some ⟨g, 0, none⟩) n (n + 12)).toArray) from ⟨g, d, rfl, LD4.low hsz, BK4.since⟩)
  clear hg hb hd hs hlt0 hlt1 hsz hw1 LD2 kb LD3 BK4 LD4 BK2 BK0
  go_wp2_with (with_reducible refine wpList_store_row rfl 25 (.tmp 2) (.tmp 7) rfl (w.heap.size + 1) (letL l (some ⟨g, 0, none⟩) n (n + 12)).toArray rfl rfl 25 _ HRES.out (infoLetL _ _ _ _) rfl (letL_one _ _ _ _) ?_)
  refine bodyPost_ret (v := .agg (letL l (some ⟨g, 0, none⟩) n (n + 12)).toArray) ?_ ?_ ?_
  · exact results_cell_row rfl _ _ (w.heap.size + 1) 25 _ (0, 0) _ rfl (setRow_heap _ _ _ _ _ _ HRES.out) Try.underlying25 rfl (infoLetL _ _ _ _)
  · rfl
  · exact HFIN.out
end Go.Proofs.Ytdmpphioflcofaa.K

/- The contracts of barbicankit's KeptLetter, LetterOf. -/
namespace Go.Proofs.Ytdmpphioflcofaa.K
open Go Go.RowKit

/-- rows that a call made, over what stood there -/
theorem bank_under' {w0 w w' : World} {L L' : List Acc} (h : Bank w0 w L) (h' : Bank w w' L') : Bank w0 w' (L' ++ L) := by
  have h1 := h.call h'.since
  refine ⟨h1.since, fun p hp => ?_, List.pairwise_append.2 ⟨h'.sep, h1.sep, fun p hp q hq b hb1 hb2 => ?_⟩⟩
  · rcases List.mem_append.1 hp with hp | hp
    · exact row_base (h'.own p hp) h.since.size
    · exact h1.own p hp
  · have h2 := (h'.lt hp hb1).1
    have h3 := (h.lt hq hb2).2
    omega
theorem same_true (l : M.Let) : (l.term == l.term && l.index == l.index && l.was == l.was && (l.ok == l.ok) && l.commit == l.commit && l.version == l.version && true) = true := by simp
/-- two letters that read the same -/
theorem SameLetter_eq (l : M.Let) (A : Option Addr) (n c : Nat) (B : Option Addr) (d : Nat) (w : World) (hl : l.ents.length = n) (hA : EntsRd w A l.ents) (hB : EntsRd w B l.ents) (hn : n ≤ 9223372036854775807) (hD : ∀ e ∈ l.ents, e.data.length ≤ 4611686018427387904) :
    Calls Try.prog 16 #[.agg #[B8 l.kind, .int .i64 l.src, .int .i64 l.dst, .int .i64 l.term, .int .i64 l.index, .int .i64 l.was, .bool l.ok, .int .i64 l.commit, .int .i64 l.version, .slice A n c], .agg #[B8 l.kind, .int .i64 l.src, .int .i64 l.dst, .int .i64 l.term, .int .i64 l.index, .int .i64 l.was, .bool l.ok, .int .i64 l.commit, .int .i64 l.version, .slice B n d]] w (SaidB w true) := by
  have h := SameLetter_any l.kind l.src l.dst l.term l.term l.index l.index l.was l.was l.ok l.ok l.commit l.commit l.version l.version A n c B n d true w (fun w' hw => SameEntries_eq A n c B d l.ents w' hl (hA.since hw) (hB.since hw) hn hD)
  rw [same_true] at h
  exact h
set_option maxHeartbeats 8000000 in
set_option maxRecDepth 100000 in
theorem KeptLetter_any (l : M.Let) (g : Nat) (d : Nat → Nat) (A : Option Addr) (n c : Nat) (w0 w : World) (hg : LentD w0 w n l.ents g d) (hl : l.ents.length = n) (hE : EntsRd w A l.ents) (hn : n ≤ 1000000) (hD : ∀ e ∈ l.ents, e.data.length ≤ 140737488000000) :
    Calls Try.prog 13 #[.agg #[B8 l.kind, .int .i64 l.src, .int .i64 l.dst, .int .i64 l.term, .int .i64 l.index, .int .i64 l.was, .bool l.ok, .int .i64 l.commit, .int .i64 l.version, .slice (some ⟨g, 0, none⟩) n (n + 12)], .agg #[B8 l.kind, .int .i64 l.src, .int .i64 l.dst, .int .i64 l.term, .int .i64 l.index, .int .i64 l.was, .bool l.ok, .int .i64 l.commit, .int .i64 l.version, .slice A n c]] w (SaidB w true) := by
  have BK0 := Lib.hid (((Bank.nil (Below.refl w.heap.size w)).box #[B8 l.kind, .int .i64 l.src, .int .i64 l.dst, .int .i64 l.term, .int .i64 l.index, .int .i64 l.was, .bool l.ok, .int .i64 l.commit, .int .i64 l.version, .slice (some ⟨g, 0, none⟩) n (n + 12)] 25 (by simp)).box #[B8 l.kind, .int .i64 l.src, .int .i64 l.dst, .int .i64 l.term, .int .i64 l.index, .int .i64 l.was, .bool l.ok, .int .i64 l.commit, .int .i64 l.version, .slice A n c] 25 (by simp))
  rw [World.size_alloc] at BK0
  have HG := Lib.hid hg; have HL := Lib.hid hl; have HE := Lib.hid hE; have HD := Lib.hid hD
  clear hg hl hE hD
  go_enter Try.func13, Try.ntmps13
  go_wp2_with fail
  generalize (w.alloc (.cells #[B8 l.kind, .int .i64 l.src, .int .i64 l.dst, .int .i64 l.term, .int .i64 l.index, .int .i64 l.was, .bool l.ok, .int .i64 l.commit, .int .i64 l.version, .slice (some ⟨g, 0, none⟩) n (n + 12)] 25)).alloc (.cells #[B8 l.kind, .int .i64 l.src, .int .i64 l.dst, .int .i64 l.term, .int .i64 l.index, .int .i64 l.was, .bool l.ok, .int .i64 l.commit, .int .i64 l.version, .slice A n c] 25) = w1 at *
  refine (SameLetter_eq l (some ⟨g, 0, none⟩) n (n + 12) A c w1 HL.out ((HG.out.since BK0.out.since).rd HL.out) (HE.out.since BK0.out.since) (by omega) (fun e he => Nat.le_trans (HD.out e he) (by omega))).mono ?_
  rintro e w2 ⟨rfl, hs⟩
  have BK2 := Lib.hid (BK0.out.call hs)
  have x9 := BK2.out.cell 1 rfl 9 rfl
  have z9 := BK2.out.cell 0 rfl 9 rfl
  clear hs BK0
  go_wp2_with fail
  clear x9 z9
  refine (KeptEntries_any g d A n c l.ents w2 (HG.out.since BK2.out.since).2.1 (fun j hj => ((HG.out.since BK2.out.since).2.2 j hj).2) HL.out (HE.out.since BK2.out.since) hn HD.out).mono ?_
  rintro e w3 ⟨rfl, hs⟩
  have HFIN := Lib.hid (show SaidB w true (.returned (.bool true)) w3 from ⟨rfl, (BK2.out.call hs).since⟩)
  clear hs
  go_wp2
  go_ret
  exact HFIN.out
/-- so many entries and eighths of bytes; or more than most -/
def EOf2 (w : World) (most n : Nat) (es : List M.Ent) (e : Ending) (w' : World) : Prop := ∃ r : Nat, e = .returned (.int .i64 (r : Int)) ∧ r ≤ 2000000000000000000 ∧ (r ≤ most → n + esum es n ≤ most) ∧ w = w'
set_option maxHeartbeats 1000000 in
set_option maxRecDepth 100000 in
theorem EntriesOf2_any (A : Option Addr) (n c : Nat) (es : List M.Ent) (most : Nat) (w : World) (hE : EntsRd w A es) (hl : es.length = n) (hn : n ≤ 1000000000000000) (hD : ∀ e ∈ es, e.data.length ≤ 9223372036854775807) (hmost : most ≤ 100000) :
    Calls Try.prog 19 #[.slice A n c, .int .i64 (most : Int)] w (EOf2 w most n es) := by
  have HE := Lib.hid hE; have HL := Lib.hid hl; have HD := Lib.hid hD
  clear hE hl hD
  go_enter Try.func19, Try.ntmps19
  go_wp2
  go_loop [5, 6] (fun v i => ∃ k r : Nat, k ≤ n ∧ i = .int .i64 (k : Int) ∧ v = .int .i64 (r : Int) ∧ r = n + esum es k ∧ r ≤ 2000000000000000000) (fun _ i => n - (intOf i).toNat)
  case atStart => exact ⟨0, n, by omega, rfl, rfl, by simp [esum], by omega⟩
  case round =>
    obtain ⟨k, r, hk, rfl, rfl, hr, hrm⟩ := hrel
    have HR := Lib.hid hr
    have k0 : (0 : Int) ≤ (k : Int) := by omega
    clear hr
    by_cases hkn : k < n
    · have i1 : (k : Int) < (n : Int) := by omega
      by_cases hrl : r ≤ most
      · have i2 : (r : Int) ≤ (most : Int) := by omega
        have hkl : k < es.length := by rw [HL.out]; exact hkn
        obtain ⟨b, o, rfl, A', m, c', ⟨y0, y1, y2, y3, y4, c5⟩, hrd⟩ := HE.out k hkl
        have hm : es[k].data.length = m := hrd.len
        have hmb : m ≤ 9223372036854775807 := by rw [← hm]; exact HD.out _ (List.getElem_mem _)
        have HM := Lib.hid hm
        have m0 : (0 : Int) ≤ (m : Int) := by omega
        have q0 : (0 : Int) ≤ (m : Int) / 8 := by omega
        have q1 : (r : Int) + (m : Int) / 8 ≤ 9223372036854775807 := by omega
        have q2 : -9223372036854775808 ≤ (r : Int) + (m : Int) / 8 := by omega
        clear y0 y1 y2 y3 y4 hrd hm
        go_wp2
        go_round
        case rel =>
          refine ⟨k + 1, r + m / 8, by omega, by go_num, by rw [show ((r + m / 8 : Nat) : Int) = (r : Int) + (m : Int) / 8 by omega], ?_, by omega⟩
          rw [HR.out, esum_succ es k (by rw [HL.out]; exact hkn), HM.out]; omega
        case measure => simp [intOf]; omega
      · have i2 : ¬ (r : Int) ≤ (most : Int) := by omega
        go_wp2
        go_ret
        exact ⟨r, rfl, hrm, fun h => absurd h hrl, rfl⟩
    · have i1 : ¬ (k : Int) < (n : Int) := by omega
      have hkk : k = n := by omega
      have HK := Lib.hid hkk
      clear hkk
      go_wp2
      go_ret
      exact ⟨r, rfl, hrm, fun h => by have := HR.out; rw [HK.out] at this; omega, rfl⟩
/-- whether a letter is gone through -/
def LOf (w : World) (n : Nat) (es : List M.Ent) (e : Ending) (w' : World) : Prop := ∃ r : Nat, e = .returned (.int .i64 ((r : Int) + 1)) ∧ r ≤ 2000000000000000000 ∧ (r ≤ 1000 → n + esum es n ≤ 1000) ∧ Since w w'
theorem LetterOf_any (l : M.Let) (A : Option Addr) (n c : Nat) (w : World) (hE : EntsRd w A l.ents) (hl : l.ents.length = n) (hn : n ≤ 1000000000000000) (hD : ∀ e ∈ l.ents, e.data.length ≤ 9223372036854775807) :
    Calls Try.prog 5 #[.agg #[B8 l.kind, .int .i64 l.src, .int .i64 l.dst, .int .i64 l.term, .int .i64 l.index, .int .i64 l.was, .bool l.ok, .int .i64 l.commit, .int .i64 l.version, .slice A n c], .int .i64 1000] w (LOf w n l.ents) := by
  have HE := Lib.hid hE; have HL := Lib.hid hl; have HD := Lib.hid hD
  have S0 := Lib.hid (Since.alloc (Below.refl w.heap.size w) (.cells #[B8 l.kind, .int .i64 l.src, .int .i64 l.dst, .int .i64 l.term, .int .i64 l.index, .int .i64 l.was, .bool l.ok, .int .i64 l.commit, .int .i64 l.version, .slice A n c] 25))
  clear hE hl hD
  go_enter Try.func5, Try.ntmps5
  go_wp2_with fail
  refine (EntriesOf2_any A n c l.ents 1000 _ (HE.out.since S0.out) HL.out hn HD.out (by omega)).mono ?_
  rintro e w2 ⟨r, rfl, hr, hle, rfl⟩
  have HFIN := Lib.hid (show LOf w n l.ents (.returned (.int .i64 ((r : Int) + 1))) _ from ⟨r, rfl, hr, hle, S0.out⟩)
  have r0 : (0 : Int) ≤ (r : Int) := by omega
  have e1 : (1 : Int) + (r : Int) = (r : Int) + 1 := by omega
  have e2 : IntKind.i64.wrap ((r : Int) + 1) = (r : Int) + 1 := IntWalk.i64_in _ (by omega)
  clear hle
  go_wp2
  go_ret
  exact HFIN.out
end Go.Proofs.Ytdmpphioflcofaa.K

/- The chapter's examples: barbicanlaw24.awake answers true. -/
namespace Go.Proofs.Ytdmpphioflcofaa.K
open Go Go.RowKit

def awV : M.Let := ⟨2#8, 1, 2, 3, 0, 0, true, 0, 0, []⟩
def awW : M.Let := ⟨2#8, 1, 2, 3, 1, 0, true, 0, 0, []⟩
def awA : M.Let := ⟨5#8, 1, 2, 0, 0, 0, false, 0, 0, []⟩
theorem aw_V : M.lputE awV = 0 := by decide
theorem aw_Vl : (M.lput awV).length = 80 := by decide
theorem aw_W : M.lputE awW = 4 := by decide
theorem aw_A : M.lputE awA = 4 := by decide
set_option maxHeartbeats 8000000 in
set_option maxRecDepth 100000 in
theorem awake24_any (w : World) : Calls Try.prog 6 #[] w (SaidB w true) := by
  have BK0 := Lib.hid (show Bank w _ [boxAcc w.heap.size 25 [.int .u8 2, .int .i64 1, .int .i64 2, .int .i64 3, .int .i64 0, .int .i64 0, .bool true, .int .i64 0, .int .i64 0, .slice none 0 0]] from (Bank.nil (Below.refl w.heap.size w)).box #[.int .u8 2, .int .i64 1, .int .i64 2, .int .i64 3, .int .i64 0, .int .i64 0, .bool true, .int .i64 0, .int .i64 0, .slice none 0 0] 25 (by simp))
  go_enter Try.func6, Try.ntmps6
  go_wp2_with fail
  generalize w.alloc (.cells #[.int .u8 2, .int .i64 1, .int .i64 2, .int .i64 3, .int .i64 0, .int .i64 0, .bool true, .int .i64 0, .int .i64 0, .slice none 0 0] 25) = w1 at *
  refine (show Calls Try.prog 8 #[.agg #[.int .u8 2, .int .i64 1, .int .i64 2, .int .i64 3, .int .i64 0, .int .i64 0, .bool true, .int .i64 0, .int .i64 0, .slice none 0 0]] w1 (LPut w1 awV) from lPut_any awV none 0 0 w1 rfl (by omega) (EntsRd.nil _ _) (fun _ h => by cases h)).mono ?_
  rintro e w2 ⟨A2, N2, c2, he, hN2, hB⟩
  obtain rfl : N2 = 80 := hN2.trans aw_Vl
  have he' : e = .returned (.tuple #[.slice A2 80 c2, .int .i64 0]) := he.trans (by rw [aw_V]; rfl)
  subst he'
  have BK2 := Lib.hid (BK0.out.call hB.since)
  have x4 := BK2.out.cell 0 rfl 4 rfl
  have f4 := BK2.out.free 0 rfl 4
  have BK3 := Lib.hid (BK2.out.boxSet 0 rfl 4 (.int .i64 1))
  have y0 := BK3.out.cell 0 rfl 0 rfl
  have y1 := BK3.out.cell 0 rfl 1 rfl
  have y2 := BK3.out.cell 0 rfl 2 rfl
  have y3 := BK3.out.cell 0 rfl 3 rfl
  have y4 := BK3.out.cell 0 rfl 4 rfl
  have y5 := BK3.out.cell 0 rfl 5 rfl
  have y6 := BK3.out.cell 0 rfl 6 rfl
  have y7 := BK3.out.cell 0 rfl 7 rfl
  have y8 := BK3.out.cell 0 rfl 8 rfl
  have y9 := BK3.out.cell 0 rfl 9 rfl
  clear he hN2 hB BK0 BK2
  go_wp2_with fail
  clear x4 f4 y0 y1 y2 y3 y4 y5 y6 y7 y8 y9
  generalize w2.setCell ⟨w.heap.size, 4, none⟩ (.int .i64 1) = w3 at *
  refine (show Calls Try.prog 8 #[.agg #[.int .u8 2, .int .i64 1, .int .i64 2, .int .i64 3, .int .i64 1, .int .i64 0, .bool true, .int .i64 0, .int .i64 0, .slice none 0 0]] w3 (LPut w3 awW) from lPut_any awW none 0 0 w3 rfl (by omega) (EntsRd.nil _ _) (fun _ h => by cases h)).mono ?_
  rintro e w4 ⟨A4, N4, c4, he, hN4, hB⟩
  have he' : e = .returned (.tuple #[.slice A4 N4 c4, .int .i64 4]) := he.trans (by rw [aw_W]; rfl)
  subst he'
  have BK4 := Lib.hid (BK3.out.call hB.since)
  clear he hN4 hB BK3
  go_wp2_with fail
  refine (show Calls Try.prog 8 #[.agg #[.int .u8 5, .int .i64 1, .int .i64 2, .int .i64 0, .int .i64 0, .int .i64 0, .bool false, .int .i64 0, .int .i64 0, .slice none 0 0]] w4 (LPut w4 awA) from lPut_any awA none 0 0 w4 rfl (by omega) (EntsRd.nil _ _) (fun _ h => by cases h)).mono ?_
  rintro e w5 ⟨A5, N5, c5, he, hN5, hB⟩
  have he' : e = .returned (.tuple #[.slice A5 N5 c5, .int .i64 4]) := he.trans (by rw [aw_A]; rfl)
  subst he'
  have HFIN := Lib.hid (BK4.out.call hB.since).since
  clear he hN5 hB BK4
  go_wp2_with fail
  go_ret
  exact ⟨rfl, HFIN.out⟩
end Go.Proofs.Ytdmpphioflcofaa.K

/- Letters that came in, out of the statement's own reading of the arguments. -/
namespace Go.Proofs.Ytdmpphioflcofaa.K
open Go Go.RowKit Go.ChangeShapes Go.WideShapes Go.Deep

set_option maxRecDepth 100000
theorem cellsLet : Try.prog.cellsOf 25 = 10 := by kernel_rfl
theorem cellsLKind : Try.prog.cellsOf 22 = 1 := by kernel_rfl
theorem cellsEnts : Try.prog.cellsOf 23 = 1 := by kernel_rfl
theorem bytesOfEnt : Try.prog.bytesOf 48 = 64 := by kernel_rfl
theorem Ents.rd {W : World} {A : Option Addr} {es : List M.Ent} (h : Ents W A es) : EntsRd W A es := fun i hi => by
  obtain ⟨b, o, e, A', n, c, hc, _, _, _, hr, _⟩ := h i hi
  exact ⟨b, o, e, A', n, c, ⟨hc 0 _ rfl, hc 1 _ rfl, hc 2 _ rfl, hc 3 _ rfl, hc 4 _ rfl, hc 5 _ rfl⟩, hr⟩
theorem Ents.data {W : World} {A : Option Addr} {es : List M.Ent} (h : Ents W A es) : ∀ e ∈ es, e.data.length ≤ 9223372036854775807 := fun e he => by
  obtain ⟨i, hi, rfl⟩ := List.mem_iff_getElem.1 he
  obtain ⟨b, o, e, A', n, c, hc, _, _, _, hr, h1, h2⟩ := h i hi
  have : es[i].data.length = n := hr.len
  omega
theorem Ents.ok {W : World} {A : Option Addr} {es : List M.Ent} (h : Ents W A es) (hd : ∀ e ∈ es, e.data.length ≤ 1000000000000) : ∀ e ∈ es, e.Ok := fun e he => by
  have hd' := hd e he
  obtain ⟨i, hi, rfl⟩ := List.mem_iff_getElem.1 he
  obtain ⟨b, o, e, A', n, c, hc, h1, h2, h3, hr, _⟩ := h i hi
  exact ⟨h1, h2, h3, hd'⟩
section
variable {H : Type} {enc : TypeId × Value → H} {W : World} {base b0 : Nat} {sp : Nat → Bool} {held : Bool} {r : Reach}
theorem cs_lkind {fuel : Nat} {v : Value} {x : DataW H × List MemPlace} (h : DataW.trod enc Try.prog W base sp held fuel 22 [v] = some x) : ∃ b, v = B8 b := by
  obtain ⟨n, hcs, _, hw⟩ := DataW.trod_int Try.underlying22 h
  obtain rfl : v = .int .u8 n := by simpa using hcs
  exact B8_of_wf hw
theorem cs_entriesW {fuel : Nat} {v : Value} {x : DataW H × List MemPlace} (h : DataW.trod enc Try.prog W base sp held fuel 23 [v] = some x) :
    ∃ A n c es, v = .slice A n c ∧ Ents W A es ∧ es.length = n ∧ (A = none → c = 0) ∧ n ≤ c ∧ c ≤ 9223372036854775807 ∧ ((∀ z ∈ x.1.weights Try.prog 23, z ≤ reachBytes) → n ≤ 140737488351232) := by
  rcases open_slice Try.underlying23 h with ⟨hcs, _⟩ | ⟨a, l, cap, m, n, D, Pl, hcs, hb, hl, hm, hmm, hx, hi⟩
  · obtain rfl : v = .slice none 0 0 := by simpa using hcs
    exact ⟨none, 0, 0, [], rfl, fun i hi => absurd hi (Nat.not_lt_zero _), rfl, fun _ => rfl, by omega, by omega, fun _ => by omega⟩
  · obtain rfl : v = .slice (some a) l cap := by simpa using hcs
    unfold maxLen at hm
    have hlm : l ≤ m := by split at hmm <;> omega
    rw [cellsEnt] at hi
    have hev : ∀ i : Nat, ∃ e : M.Ent, i < l → ∃ b o, a = ⟨b, o, none⟩ ∧ EntAt W b (o + i * 6) e := by
      intro i
      by_cases hil : i < l
      · obtain ⟨cs', hc, ht⟩ := hi i (by omega)
        obtain ⟨e, A, n2, c2, rfl, hr⟩ := cs_entry ht
        obtain ⟨_, _, hat⟩ := World.cells?_some hc
        obtain ⟨b, o, s⟩ := a
        obtain ⟨cs0, hc0, ht0⟩ := hi 0 (by omega)
        obtain ⟨_, _, _, _, rfl, _⟩ := cs_entry ht0
        obtain ⟨_, _, hat0⟩ := World.cells?_some hc0
        have hs : s = none := by simpa [Addr.add] using World.cell?_spot ((hat0 0 (by omega)).trans rfl)
        subst hs
        refine ⟨e, fun _ => ⟨b, o, rfl, A, n2, c2, fun j u hu => ?_, hr⟩⟩
        have hj : j < 6 := (List.getElem?_eq_some_iff.1 hu).1
        have h1 := hat j hj
        rw [hu, Addr.add_lit, Addr.add_lit] at h1
        exact h1
      · exact ⟨M.zeroEnt, fun h => absurd h hil⟩
    obtain ⟨f, hf⟩ := Classical.axiomOfChoice hev
    refine ⟨_, _, _, (List.range l).map f, rfl, fun i hi2 => ?_, by simp, (fun h => by cases h), hl, hm, fun hw => ?_⟩
    · have hil : i < l := by simpa using hi2
      obtain ⟨b, o, rfl, he⟩ := hf i hil
      exact ⟨b, o, rfl, by simpa using he⟩
    · have hdx : x.1 = .slice ((List.range l).map D) ((List.range (m - l)).map fun j => D (l + j)) := congrArg Prod.fst hx
      have hu := Try.underlying23
      have := hw (m * Try.prog.bytesOf 48) (by rw [hdx]; simp only [DataW.weights, hu, List.mem_cons, List.length_map, List.length_range]; left; congr 1; omega)
      rw [bytesOfEnt] at this
      unfold reachBytes at this
      omega
theorem cs_letter {fuel : Nat} {cs : List Value} {x : DataW H × List MemPlace} (h : DataW.trod enc Try.prog W base sp held fuel 25 cs = some x) :
    ∃ (l : M.Let) (A : Option Addr) (n c : Nat), cs = [B8 l.kind, .int .i64 l.src, .int .i64 l.dst, .int .i64 l.term, .int .i64 l.index, .int .i64 l.was, .bool l.ok, .int .i64 l.commit, .int .i64 l.version, .slice A n c] ∧ Ents W A l.ents ∧ l.ents.length = n ∧ ((∀ z ∈ x.1.weights Try.prog 25, z ≤ reachBytes) → n ≤ 140737488351232) := by
  obtain ⟨xs, f, _, hx, hlen, hxl, hf⟩ := DataW.trod_struct Try.underlying25 h
  rw [cellsLet] at hlen
  match cs, hlen with
  | [c0, c1, c2, c3, c4, c5, c6, c7, c8, c9], _ =>
    match xs, hxl with
    | [y0, y1, y2, y3, y4, y5, y6, y7, y8, y9], _ =>
      have f0 : DataW.trod enc Try.prog W base sp held f 22 [c0] = some y0 := by simpa [cellsLKind] using hf 0 _ rfl
      have f1 : DataW.trod enc Try.prog W base sp held f 3 [c1] = some y1 := by simpa [cellsInt] using hf 1 _ rfl
      have f2 : DataW.trod enc Try.prog W base sp held f 3 [c2] = some y2 := by simpa [cellsInt] using hf 2 _ rfl
      have f3 : DataW.trod enc Try.prog W base sp held f 3 [c3] = some y3 := by simpa [cellsInt] using hf 3 _ rfl
      have f4 : DataW.trod enc Try.prog W base sp held f 3 [c4] = some y4 := by simpa [cellsInt] using hf 4 _ rfl
      have f5 : DataW.trod enc Try.prog W base sp held f 3 [c5] = some y5 := by simpa [cellsInt] using hf 5 _ rfl
      have f7 : DataW.trod enc Try.prog W base sp held f 3 [c7] = some y7 := by simpa [cellsInt] using hf 7 _ rfl
      have f8 : DataW.trod enc Try.prog W base sp held f 3 [c8] = some y8 := by simpa [cellsInt] using hf 8 _ rfl
      have f6 : DataW.trod enc Try.prog W base sp held f 4 [c6] = some y6 := by simpa [cellsBool] using hf 6 _ rfl
      have f9 : DataW.trod enc Try.prog W base sp held f 23 [c9] = some y9 := by simpa [cellsEnts] using hf 9 _ rfl
      obtain ⟨k, rfl⟩ := cs_lkind f0
      obtain ⟨n1, rfl, _⟩ := cs_int f1
      obtain ⟨n2, rfl, _⟩ := cs_int f2
      obtain ⟨n3, rfl, _⟩ := cs_int f3
      obtain ⟨n4, rfl, _⟩ := cs_int f4
      obtain ⟨n5, rfl, _⟩ := cs_int f5
      obtain ⟨n7, rfl, _⟩ := cs_int f7
      obtain ⟨n8, rfl, _⟩ := cs_int f8
      obtain ⟨g, rfl⟩ := cs_bool f6
      obtain ⟨A, m, c, es, rfl, hE, hl, _, _, _, hw9⟩ := cs_entriesW f9
      have hu := Try.underlying25
      refine ⟨⟨k, n1, n2, n3, n4, n5, g, n7, n8, es⟩, A, m, c, rfl, hE, hl, fun hw => hw9 fun z hz => hw z ?_⟩
      rw [hx]
      simp [DataW.weights, hu, DataW.weightsEach, hz]
theorem open_letter {v : Value} {d : DataW H} {p : List MemPlace} (hv : Value.okWide Try.prog W r b0 25 v) (h : DataW.Trod enc Try.prog W base sp held 25 v d p) :
    ∃ (l : M.Let) (A : Option Addr) (n c : Nat), v = .agg #[B8 l.kind, .int .i64 l.src, .int .i64 l.dst, .int .i64 l.term, .int .i64 l.index, .int .i64 l.was, .bool l.ok, .int .i64 l.commit, .int .i64 l.version, .slice A n c] ∧ Ents W A l.ents ∧ l.ents.length = n ∧ ((∀ z ∈ d.weights Try.prog 25, z ≤ reachBytes) → n ≤ 140737488351232) := by
  obtain ⟨cs, rfl, hsz⟩ := okWide_struct Try.underlying25 hv
  obtain ⟨fuel, hf⟩ := h
  obtain ⟨l, A, n, c, h0, h1⟩ := cs_letter hf
  refine ⟨l, A, n, c, ?_, h1⟩
  have : cs.toList = _ := h0
  rw [← this]
end
end Go.Proofs.Ytdmpphioflcofaa.K

/- A slice that came in lies in memory that is there, also where nothing is read of it. -/
namespace Go.Proofs.Ytdmpphioflcofaa.K
open Go Go.RowKit Go.WideShapes Go.ChangeShapes

set_option maxRecDepth 100000 in
theorem okWide_lay {W : World} {r : Reach} {b0 : Nat} {t e : TypeId} {A : Option Addr} {n c : Nat} (ht : Try.prog.underlying t = some (.slice e)) (h : Value.okWide Try.prog W r b0 t (.slice A n c)) : ∀ a, A = some a → a.block < W.heap.size := by
  rintro a rfl
  simp only [Value.okWide, ht, Cell.okWide, Cell.ok] at h
  obtain ⟨_, _, _, _, row, cells, hs, _⟩ := h
  unfold World.shape? at hs
  cases hg : W.heap[a.block]? with
  | none => rw [hg] at hs; cases hs
  | some o => exact (Array.getElem?_eq_some_iff.1 hg).1
set_option maxRecDepth 100000 in
/-- a word that came in -/
theorem open_u32 {H : Type} {enc : TypeId × Value → H} {W : World} {base b0 : Nat} {sp : Nat → Bool} {held : Bool} {r : Reach} {v : Value} {d : DataW H} {p : List MemPlace} (hv : Value.okWide Try.prog W r b0 128 v) (h : DataW.Trod enc Try.prog W base sp held 128 v d p) : ∃ x : BitVec 32, v = W32 x := by
  obtain ⟨n, rfl, _, _, hw⟩ := open_int Try.underlying128 hv h
  have h' : 0 ≤ n ∧ n < 4294967296 := by
    simp [Lit.wf, IntKind.min, IntKind.max, IntKind.bits, IntKind.signed] at hw
    omega
  refine ⟨BitVec.ofInt 32 n, ?_⟩
  simp only [W32, BitVec.toNat_ofInt, Value.int.injEq, true_and]
  omega
end Go.Proofs.Ytdmpphioflcofaa.K
