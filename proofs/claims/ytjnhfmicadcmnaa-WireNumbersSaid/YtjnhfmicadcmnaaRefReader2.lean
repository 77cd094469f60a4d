/- The contracts of the reference's reader: New, Bad, Done, Bytes. -/
import Derived.Test.YtjnhfmicadcmnaaRefReader
import Derived.Deep.RegionHeld3
namespace Go.Proofs.Ytjnhfmicadcmnaa.K
open Go Go.RowKit

theorem RefR.grown {w w' : World} {R : Nat} {s : M.Rdr} {A : Option Addr} {n c at' : Nat} {bad : Bool} {D : List (BitVec 8)} (h : RefR w R s A n c at' bad D) {row : Option Nat} (hg : w.grownBy w' row) (hR : row ≠ some R) (hA : ∀ a, A = some a → row ≠ some a.block) : RefR w' R s A n c at' bad D := by
  obtain ⟨t, hb⟩ := h.blk
  refine ⟨⟨t, (hg.block R (Array.getElem?_eq_some_iff.1 hb).1 (Ne.symm hR)).trans hb⟩, fun k hk => ?_, h.len, h.none, h.at_le, h.is, h.n_le, h.cap, h.ne, h.form⟩
  obtain ⟨b, o, e, hc⟩ := h.rd k hk
  exact ⟨b, o, e, hg.cell hc (Ne.symm (hA ⟨b, o, Option.none⟩ e))⟩
theorem RefR.lt {w : World} {R : Nat} {s : M.Rdr} {A : Option Addr} {n c at' : Nat} {bad : Bool} {D : List (BitVec 8)} (h : RefR w R s A n c at' bad D) : R < w.heap.size := by
  obtain ⟨t, hb⟩ := h.blk
  exact (Array.getElem?_eq_some_iff.1 hb).1
theorem grown_trans {w w1 w2 : World} {row : Option Nat} (h : w.grownBy w1 row) (h' : w1.grownBy w2 row) : w.grownBy w2 row :=
  ⟨h'.os.trans h.os, h'.tape.trans h.tape, h'.output.trans h.output, Nat.le_trans h.size h'.size, fun k hk hne => (h'.block k (Nat.lt_of_lt_of_le hk h.size) hne).trans (h.block k hk hne)⟩
theorem grown_weak {w w1 : World} {row : Option Nat} (h : w.grownBy w1 none) : w.grownBy w1 row := ⟨h.os, h.tape, h.output, h.size, fun k hk _ => h.block k hk (by simp)⟩
theorem grown_of_below {w w1 : World} {row : Option Nat} (h : Below w.heap.size w w1) : w.grownBy w1 row := ⟨h.os, h.tape, h.output, h.size, fun k hk _ => h.block k hk⟩

/-- a new reader -/
def RNew (w : World) (n : Nat) (bs : List (BitVec 8)) (e : Ending) (w' : World) : Prop := ∃ R B c', e = .returned (.pointer (some ⟨R, 0, none⟩)) ∧ w.heap.size ≤ R ∧ RefR w' R (some bs) B n c' 0 false bs ∧ (∀ a, B = some a → w.heap.size ≤ a.block ∧ a.block < w'.heap.size) ∧ Below w.heap.size w w'
set_option maxHeartbeats 1000000 in
set_option maxRecDepth 100000 in
theorem rNew_any (A : Option Addr) (n c : Nat) (bs : List (BitVec 8)) (w : World) (hx : RowRd w ⟨A, n, c⟩ bs) (hn2 : n ≤ 1000000000000) :
    Calls Try.prog 23 #[.slice A n c] w (RNew w n bs) := by
  obtain ⟨i0, hi, hz0, hz1, hz2⟩ := info_parts infoByte
  have hlen : bs.length = n := hx.len
  have hl2 : (bv bs).length = n * 1 := by rw [bv_length]; omega
  have hnn : A = none → n = 0 ∧ c = 0 := fun h => ⟨by
    have hrd : Rd w A bs := hx.rd
    rw [h] at hrd
    rw [hrd.empty] at hlen; exact hlen.symm, hx.none h⟩
  have hcs := hx.rd.cells
  have HL2 := Lib.hid hl2; have HNN := Lib.hid hnn; have HCS := Lib.hid hcs; have HLEN := Lib.hid hlen
  clear hx hlen hl2 hnn hcs
  go_enter Try.func23, Try.ntmps23
  go_wp2_with (at_builtin; refine wpList_append_any _ rfl _ _ 22 rfl w.heap.size 5 i0 (.int .u8 0) 1 1 Try.underlying22 hi hz0 hz1 hz2 rfl (by decide) _ 0 (bv []) rfl (own_lit0 (Nat.le_refl _)) A n c (bv bs) rfl HNN.out HL2.out (fun ad had j u hu => cell_old _ (HCS.out ad had j u hu)) (bv_one _) (by unfold maxLen; omega) (by omega) (by simp) ?_; intro v3 w3 hown3 hgrow3; rw [← bv_append, List.nil_append, Nat.zero_add] at hown3; obtain ⟨B3, d3, rfl⟩ := row_slice hown3; have hb3 : Below w.heap.size w w3 := ((Below.refl w.heap.size w).alloc (Nat.le_refl _) _).grown hgrow3 (by simp) (fun k hk => ((own_lit0 (e := 5) (Nat.le_refl w.heap.size)).lt k hk).1); have HB3 := Lib.hid hb3; have HO3 := Lib.hid hown3; clear hb3 hown3 hgrow3)
  go_ret
  have hr := row_room HO3.out
  have hb := HB3.out
  have hsz := hb.size
  refine ⟨w3.heap.size, B3, d3, rfl, hsz, ⟨⟨_, by exact heap_alloc_new w3 (.cells (readL B3 n d3 0 false).toArray 84)⟩, ?_, HLEN.out, fun e => (hr.2.2.1 e).2, Nat.zero_le _, rfl, hn2, ⟨hr.1, hr.2.1⟩, fun a e => ?_, fun a e => (hr.2.2.2 a e).imp fun g hg => hg.1⟩, fun a e => ?_, hb.alloc hsz _⟩
  · exact (Rd.of_own HO3.out).below ((Below.refl _ _).alloc (Nat.le_refl _) _)
  · obtain ⟨g, rfl, _, hg⟩ := hr.2.2.2 a e
    show g ≠ _; omega
  · obtain ⟨g, rfl, hg, hg2⟩ := hr.2.2.2 a e
    exact ⟨hg, by show g < _; simp; omega⟩

theorem rBad_any (R : Nat) (s : M.Rdr) (A : Option Addr) (n c at' : Nat) (bad : Bool) (D : List (BitVec 8)) (w : World) (h : RefR w R s A n c at' bad D) :
    Calls Try.prog 34 #[.pointer (some ⟨R, 0, none⟩)] w fun e w' => e = .returned (.bool s.isNone) ∧ w = w' := by
  have c2 : w.cell? ⟨R, 2, none⟩ = some (.bool bad) := h.cell rfl
  have hs : s.isNone = bad := by rw [h.is]; cases bad <;> rfl
  have HS := Lib.hid hs
  clear h hs
  go_enter Try.func34, Try.ntmps34
  go_wp2
  go_ret
  exact ⟨by rw [HS.out]; rfl, rfl⟩

set_option maxHeartbeats 1000000 in
theorem rDone_any (R : Nat) (s : M.Rdr) (A : Option Addr) (n c at' : Nat) (bad : Bool) (D : List (BitVec 8)) (w : World) (h : RefR w R s A n c at' bad D) :
    Calls Try.prog 36 #[.pointer (some ⟨R, 0, none⟩)] w fun e w' => e = .returned (.bool (decide (s = some []))) ∧ ∃ q, w' = w.drewN q := by
  have c0 : w.cell? ⟨R, 0, none⟩ = some (.slice A n c) := h.cell rfl
  have c1 : w.cell? ⟨R, 1, none⟩ = some (.int .i64 (at' : Int)) := h.cell rfl
  have c2 : w.cell? ⟨R, 2, none⟩ = some (.bool bad) := h.cell rfl
  have hal := h.at_le
  have hnl := h.n_le
  have his := h.is
  have hlen := h.len
  clear h
  cases bad with
  | true =>
    have hs : decide (s = some []) = false := by rw [his]; rfl
    have HS := Lib.hid hs
    clear his hs hlen
    go_enter Try.func36, Try.ntmps36
    go_wp2
    go_quiet (fail)
    go_wp2
    go_ret
    exact ⟨by rw [HS.out]; rfl, _, rfl⟩
  | false =>
    have hs : decide (s = some []) = ((at' : Int) == (n : Int)) := by
      rw [his, Bool.eq_iff_iff, decide_eq_true_iff, beq_iff_eq]
      constructor
      · intro e
        have e2 : D.drop at' = [] := Option.some.inj e
        have := congrArg List.length e2
        rw [List.length_drop] at this; simp at this; omega
      · intro e
        have : D.drop at' = [] := List.drop_eq_nil_of_le (by omega)
        show some (D.drop at') = some []
        rw [this]
    have HS := Lib.hid hs
    clear his hs hlen
    go_enter Try.func36, Try.ntmps36
    go_wp2
    go_quiet (fail)
    go_wp2
    go_ret
    exact ⟨by rw [HS.out]; rfl, _, rfl⟩

theorem src_old {W : World} {ad0 : Addr} {news : List Value} (h : ∀ j u, news[j]? = some u → W.cell? (ad0.add j) = some u) (o : Obj) : ∀ ad, some ad0 = some ad → ∀ j u, news[j]? = some u → (W.alloc o).cell? (ad.add j) = some u := by
  intro ad had j u hu
  cases had
  exact cell_old o (h j u hu)
theorem grown_new {W w3 : World} {o : Obj} {row : Option Nat} (hg : ((W.alloc o).drew).grownBy w3 (some W.heap.size)) : W.grownBy w3 row :=
  ⟨hg.os, hg.tape, hg.output, Nat.le_trans (by simp) hg.size, fun k hk _ => (hg.block k (by simp; omega) (by simp; omega)).trans (heap_alloc_old W o hk)⟩
/-- bytes that were read: they lie in memory of their own -/
def RBytes (w : World) (R : Nat) (s : M.Rdr) (A : Option Addr) (n c : Nat) (D : List (BitVec 8)) (e : Ending) (w' : World) : Prop :=
  ∃ B m c', e = .returned (.slice B m c') ∧ w'.ownsRow w.heap.size 5 1 (.slice B m c') m (bv (M.rdBytes s).1) ∧ RefN w' R (M.rdBytes s).2 A n c D ∧ w.grownBy w' (some R)
theorem rdBytes_none {s : M.Rdr} {n : Int} (h : M.rdNumber s = (n, none)) : M.rdBytes s = ([], none) := by simp [M.rdBytes, h]
theorem rdBytes_some {s : M.Rdr} {n : Int} {l : List (BitVec 8)} (h : M.rdNumber s = (n, some l)) : M.rdBytes s = if n < 0 ∨ (l.length : Int) < n then ([], none) else (l.take n.toNat, some (l.drop n.toNat)) := by simp [M.rdBytes, h]

set_option maxHeartbeats 2000000 in
set_option maxRecDepth 100000 in
theorem rBytes_any (R : Nat) (s : M.Rdr) (A : Option Addr) (n c at' : Nat) (bad : Bool) (D : List (BitVec 8)) (w : World) (h : RefR w R s A n c at' bad D) :
    Calls Try.prog 29 #[.pointer (some ⟨R, 0, none⟩)] w (RBytes w R s A n c D) := by
  obtain ⟨i0, hi, hz0, hz1, hz2⟩ := info_parts infoByte
  have H0 := Lib.hid h
  clear h
  go_enter Try.func29, Try.ntmps29
  go_wp2_with fail
  refine (rNumber_any R s A n c at' bad D w H0.out).mono ?_
  rintro e w1 ⟨rfl, ⟨at1, bad1, h1⟩, hg1⟩
  have c0 : w1.cell? ⟨R, 0, none⟩ = some (.slice A n c) := h1.cell rfl
  have c1 : w1.cell? ⟨R, 1, none⟩ = some (.int .i64 (at1 : Int)) := h1.cell rfl
  have c2 : w1.cell? ⟨R, 2, none⟩ = some (.bool bad1) := h1.cell rfl
  have f1 := h1.free 1
  have f2 := h1.free 2
  have hal := h1.at_le
  have hnl := h1.n_le
  have hcap := h1.cap
  have hlen := h1.len
  obtain ⟨⟨z, s1⟩, hzs⟩ : ∃ p : Int × M.Rdr, p = M.rdNumber s := ⟨_, rfl⟩
  rw [← hzs] at h1
  have h1' : RefR w1 R s1 A n c at1 bad1 D := h1
  have HG1 := Lib.hid hg1; have H1 := Lib.hid h1'; have HZ := Lib.hid hzs; have HLEN := Lib.hid hlen
  rw [← hzs]
  have his := h1'.is
  clear h1 h1' hg1 hzs hlen
  cases bad1 with
  | true =>
    have hs1 : s1 = none := his
    have hb : M.rdBytes s = ([], none) := rdBytes_none (n := z) (by rw [← HZ.out, hs1])
    have HB := Lib.hid hb; have HS1 := Lib.hid hs1
    clear his hs1 hb
    go_wp2
    go_quiet (fail)
    go_wp2
    go_ret
    refine ⟨none, 0, 0, rfl, by rw [HB.out]; exact World.ownsRow_nil _ _ _ _, by rw [HB.out]; exact ⟨_, _, (H1.out.bad).drewN _⟩, grown_drew (grown_trans HG1.out (grown_set _)) _⟩
  | false =>
    have hs1 : s1 = some (D.drop at1) := his
    have hdl : (D.drop at1).length = n - at1 := by rw [List.length_drop, HLEN.out]
    have hb : M.rdBytes s = if z < 0 ∨ (((D.drop at1).length : Nat) : Int) < z then ([], none) else ((D.drop at1).take z.toNat, some ((D.drop at1).drop z.toNat)) := rdBytes_some (by rw [← HZ.out, hs1])
    rw [hdl] at hb
    have HB := Lib.hid hb
    clear his hs1 hb hdl
    by_cases hz : z < 0
    · have hb2 : M.rdBytes s = ([], none) := by rw [HB.out, if_pos (.inl hz)]
      have HB2 := Lib.hid hb2
      have d1 : decide (z < 0) = true := by simpa using hz
      clear hb2
      go_wp2
      go_quiet (fail)
      go_wp2
      go_ret
      refine ⟨none, 0, 0, rfl, by rw [HB2.out]; exact World.ownsRow_nil _ _ _ _, by rw [HB2.out]; exact ⟨_, _, (H1.out.bad).drewN _⟩, grown_drew (grown_trans HG1.out (grown_set _)) _⟩
    · have d1 : decide (z < 0) = false := by simpa using hz
      have z0 : 0 ≤ z := by omega
      by_cases hzl : (n : Int) - (at1 : Int) < z
      · have hb2 : M.rdBytes s = ([], none) := by rw [HB.out, if_pos (.inr (by omega))]
        have HB2 := Lib.hid hb2
        have d2 : decide ((n : Int) - (at1 : Int) < z) = true := by simpa using hzl
        clear hb2
        go_wp2
        go_quiet (fail)
        go_wp2
        go_ret
        refine ⟨none, 0, 0, rfl, by rw [HB2.out]; exact World.ownsRow_nil _ _ _ _, by rw [HB2.out]; exact ⟨_, _, (H1.out.bad).drewN _⟩, grown_drew (grown_trans HG1.out (grown_set _)) _⟩
      · obtain ⟨m, rfl⟩ : ∃ m : Nat, z = (m : Int) := ⟨z.toNat, by omega⟩
        have hm : at1 + m ≤ n := by omega
        have hb2 : M.rdBytes s = ((D.drop at1).take m, some (D.drop (at1 + m))) := by
          rw [HB.out, if_neg (by omega), List.drop_drop]; simp
        have HB2 := Lib.hid hb2
        have d2 : decide ((n : Int) - (at1 : Int) < (m : Int)) = false := by simpa using hzl
        clear hb2
        go_wp2
        go_quiet (fail)
        go_wp2_with fail
        obtain ⟨at2, hat2⟩ : ∃ at2, at2 = at1 + m := ⟨_, rfl⟩
        have hmv0 := (H1.out.move m (by omega)).drewN nq
        rw [← hat2] at hmv0
        have hmv : RefR ((w1.drewN nq).setCell ⟨R, 1, none⟩ (.int .i64 (at2 : Int))) R (some (D.drop at2)) A n c at2 false D := hmv0
        clear hmv0
        have ea : ((at1 : Int) + (m : Int)) = (at2 : Int) := by omega
        rw [ea]
        obtain ⟨W, hW⟩ : ∃ W, W = (w1.drewN nq).setCell ⟨R, 1, none⟩ (.int .i64 (at2 : Int)) := ⟨_, rfl⟩
        rw [← hW] at hmv
        rw [← hW]
        have hgW : w.grownBy W (some R) := by rw [hW]; exact grown_trans (grown_drew HG1.out _) (grown_set _)
        have e0 : W.cell? ⟨R, 0, none⟩ = some (.slice A n c) := hmv.cell rfl
        have e1 : W.cell? ⟨R, 1, none⟩ = some (.int .i64 (at2 : Int)) := hmv.cell rfl
        have hRW := hmv.lt
        have hrd := hmv.rd
        have hform := hmv.form
        have hnone := hmv.none
        have HMV := Lib.hid hmv; have HGW := Lib.hid hgW; have HW := Lib.hid hW
        clear hmv hgW hW f1 f2 c0 c1 c2 d1 d2
        have hl2 : (bv ((D.drop at1).take m)).length = m * 1 := by
          have := HLEN.out
          rw [bv_length, List.length_take, List.length_drop]; omega
        have HL2 := Lib.hid hl2
        have s1' : IntKind.i64.wrap ((at2 : Int) - (m : Int)) = (at2 : Int) - (m : Int) := IntWalk.i64_in _ (by omega)
        have s2 : (0 : Int) ≤ (at2 : Int) - (m : Int) := by omega
        have s3 : ((at2 : Int) - (m : Int)).toNat = at1 := by omega
        have s4 : (at2 : Int) - (m : Int) ≤ (at2 : Int) := by omega
        have s5 : (at2 : Int) ≤ (c : Int) := by omega
        have s6 : at2 - at1 = m := by omega
        have s7 : at1 ≤ at2 := by omega
        have s8 : at2 ≤ c := by omega
        have s9 : (m : Int) ≤ (at2 : Int) := by omega
        have HAT2 := Lib.hid hat2
        have HRD := Lib.hid hrd
        clear hl2 hat2 ea hrd
        by_cases hac : c = at1
        · have hm0 : m = 0 := by omega
          have hnil : bv ((D.drop at1).take m) = [] := by rw [hm0]; rfl
          have hcs : ∀ ad, A = some ad → ∀ j u, (bv ((D.drop at1).take m))[j]? = some u → (W.alloc (.cells #[] 5)).cell? (ad.add j) = some u := fun ad _ j u hu => by rw [hnil] at hu; simp at hu
          have hnn : A = none → m = 0 ∧ 0 = 0 := fun _ => ⟨hm0, rfl⟩
          have HCS := Lib.hid hcs; have HNN := Lib.hid hnn
          clear hm0 hnil hcs hnn hform hnone
          subst hac
          go_region_held3 (fun w' => w'.cell? ⟨R, 0, none⟩ = some (.slice A n c) ∧ w'.cell? ⟨R, 1, none⟩ = some (.int .i64 (at2 : Int)))
            (first
              | (go_split_ands; refine ⟨?_, ?_⟩ <;> assumption)
              | (go_split_ands; refine ⟨?_, ?_⟩ <;> (refine (hgrow3.cell_far _ (by simp; omega) (by simp [Value.ownBlock]; omega)).trans ?_; assumption))
              | go_keep)
            ((refine step_append_any _ (by rfl) _ _ _ (by rfl) W.heap.size 5 i0 _ 1 1 Try.underlying22 hi hz0 hz1 hz2 rfl (by omega) _ 0 (bv []) (by rfl) ((own_lit0 (w := W) (Nat.le_refl _)).drew)
                A m 0 (bv ((D.drop c).take m)) (by rfl) HNN.out HL2.out HCS.out (bv_one _) (by unfold maxLen; omega) (by omega) (by simp) ?_; intro v3 w3 hown3 hgrow3))
          rw [← bv_append, List.nil_append, Nat.zero_add] at hown3
          obtain ⟨B, c', rfl⟩ := row_slice hown3
          have hg3 : W.grownBy w3 (some R) := grown_new hgrow3
          have hg3' : W.grownBy w3 none := grown_new hgrow3
          have hfin : RBytes w R s A n c D (.returned (.slice B m c')) w3 := by
            refine ⟨B, m, c', rfl, ?_, ?_, grown_trans HGW.out hg3⟩
            · rw [HB2.out]; exact row_weaken hown3 HGW.out.size
            · rw [HB2.out]
              have h2 := HMV.out.grown hg3' (by simp) (fun _ _ => by simp)
              rw [HAT2.out] at h2
              exact ⟨_, _, h2⟩
          have HFIN := Lib.hid hfin
          clear hown3 hgrow3 hg3 hg3' hfin
          go_wp2
          go_ret
          exact HFIN.out
        · obtain ⟨ad, rfl⟩ : ∃ ad, A = some ad := by
            cases A with
            | some ad => exact ⟨ad, rfl⟩
            | none =>
              have h1 := hnone rfl
              omega
          obtain ⟨b, rfl⟩ := hform ad rfl
          have hcs : ∀ j u, (bv ((D.drop at1).take m))[j]? = some u → W.cell? ((⟨b, at1, none⟩ : Addr).add j) = some u := by
            intro j u hu
            have hj : j < m := by
              have := (List.getElem?_eq_some_iff.1 hu).1
              simp [bv] at this; omega
            have hl := HLEN.out
            obtain ⟨b', o', e', hc'⟩ := HRD.out (at1 + j) (by omega)
            obtain ⟨rfl, rfl⟩ : b = b' ∧ 0 = o' := by simpa using e'
            rw [Addr.add_lit, ← hu, ← Nat.zero_add (at1 + j), hc']
            simp [bv, hj, show at1 + j < D.length by omega]
          have HCS := Lib.hid hcs
          clear hform hnone hcs
          go_region_held3 (fun w' => w'.cell? ⟨R, 0, none⟩ = some (.slice (some ⟨b, 0, none⟩) n c) ∧ w'.cell? ⟨R, 1, none⟩ = some (.int .i64 (at2 : Int)))
            (first
              | (go_split_ands; refine ⟨?_, ?_⟩ <;> assumption)
              | (go_split_ands; refine ⟨?_, ?_⟩ <;> (refine (hgrow3.cell_far _ (by simp; omega) (by simp [Value.ownBlock]; omega)).trans ?_; assumption))
              | go_keep)
            ((refine step_append_any _ (by rfl) _ _ _ (by rfl) W.heap.size 5 i0 _ 1 1 Try.underlying22 hi hz0 hz1 hz2 rfl (by omega) _ 0 (bv []) (by rfl) ((own_lit0 (w := W) (Nat.le_refl _)).drew)
                (some ⟨b, at1, none⟩) m (c - at1) (bv ((D.drop at1).take m)) (by rfl) (fun h => by cases h) HL2.out (src_old HCS.out _) (bv_one _) (by unfold maxLen; omega) (by omega) (by simp) ?_; intro v3 w3 hown3 hgrow3))
          rw [← bv_append, List.nil_append, Nat.zero_add] at hown3
          obtain ⟨B, c', rfl⟩ := row_slice hown3
          have hg3 : W.grownBy w3 (some R) := grown_new hgrow3
          have hg3' : W.grownBy w3 none := grown_new hgrow3
          have hfin : RBytes w R s (some ⟨b, 0, none⟩) n c D (.returned (.slice B m c')) w3 := by
            refine ⟨B, m, c', rfl, ?_, ?_, grown_trans HGW.out hg3⟩
            · rw [HB2.out]; exact row_weaken hown3 HGW.out.size
            · rw [HB2.out]
              have h2 := HMV.out.grown hg3' (by simp) (fun _ _ => by simp)
              rw [HAT2.out] at h2
              exact ⟨_, _, h2⟩
          have HFIN := Lib.hid hfin
          clear hown3 hgrow3 hg3 hg3' hfin
          go_wp2
          go_ret
          exact HFIN.out
end Go.Proofs.Ytjnhfmicadcmnaa.K
