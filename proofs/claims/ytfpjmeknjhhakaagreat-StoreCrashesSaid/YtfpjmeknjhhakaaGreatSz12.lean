/- Merged: Do22A, Do22L, RefKept22, RefCarried, Do22K, Do22App, Do22M, Do22F, StoDeed, StoDeeds. -/
import Derived.Test.YtfpjmeknjhhakaaGreatSz11
import Derived.SizedLaws
set_option linter.unusedVariables false
/- Accounts for a deed that is done to a store and to its reference. -/
namespace Go.Proofs.YtfpjmeknjhhakaaGreat.K
open Go Go.RowKit Go.Maps

/-- frames that the law put -/
def frmAcc (Fa : Option Addr) (cF : Nat) (ps : List FR) : Acc := ⟨.slice Fa ps.length cF, ps.length, 49, 2, ps.flatMap FR.cells⟩
/-- with their rows, ahead of the rest -/
def FrL (Fa : Option Addr) (cF : Nat) (ps : List FR) (L : List Acc) : List Acc := frmAcc Fa cF ps :: (ps.reverse.map FR.acc ++ L)
theorem flatF (ps : List FR) (i j : Nat) (hi : i < ps.length) (hj : j < 2) : (ps.flatMap FR.cells)[i * 2 + j]? = (ps[i]).cells[j]? := by
  induction ps generalizing i with
  | nil => exact absurd hi (Nat.not_lt_zero _)
  | cons p ps ih =>
    cases i with
    | zero =>
      rw [List.flatMap_cons, List.getElem?_append_left (by simp [FR.cells]; omega)]
      simp
    | succ i =>
      rw [List.flatMap_cons, List.getElem?_append_right (by simp [FR.cells]; omega)]
      rw [show (i + 1) * 2 + j - (FR.cells p).length = i * 2 + j by simp [FR.cells]; omega]
      exact ih i (by simpa using hi)
theorem frm_at {w0 w : World} {L : List Acc} {Fa : Option Addr} {cF : Nat} {ps : List FR} (h : Bank w0 w L) (ha : frmAcc Fa cF ps ∈ L) (hr : ∀ p ∈ ps, p.acc ∈ L) (i : Nat) (hi : i < ps.length) :
    ∃ g, Fa = some ⟨g, 0, none⟩ ∧ w.cell? ⟨g, i * 2, none⟩ = some (.int .i64 ps[i].k) ∧ w.cell? ⟨g, i * 2 + 1, none⟩ = some (.slice ps[i].x.A ps[i].x.n ps[i].x.c) ∧ RowRd w ⟨ps[i].x.A, ps[i].x.n, ps[i].x.c⟩ ps[i].bs := by
  have hx := h.own _ (hr _ (List.getElem_mem hi))
  have ho := h.own _ ha
  have hA : ∃ g, Fa = some ⟨g, 0, none⟩ := by
    rcases ho.2 with ⟨h0, _⟩ | ⟨g, cap, cur, hv, _⟩
    · exfalso
      have h1 : ps.length = 0 := by
        simp only [frmAcc, Value.slice.injEq] at h0
        exact h0.2.1
      omega
    · simp only [frmAcc, Value.slice.injEq] at hv
      exact ⟨g, hv.1⟩
  obtain ⟨g, rfl⟩ := hA
  have hc : ∀ j, j < 2 → w.cell? ⟨g, i * 2 + j, none⟩ = (ps[i]).cells[j]? := fun j hj => (World.ownsRow.cellAt ho (i * 2 + j) (by show _ < ps.length * 2; omega)).trans (flatF ps i j hi hj)
  exact ⟨g, rfl, hc 0 (by omega), hc 1 (by omega), RowRd.of_row hx⟩
theorem FrL.mem_acc {Fa : Option Addr} {cF : Nat} {ps : List FR} {L : List Acc} : frmAcc Fa cF ps ∈ FrL Fa cF ps L := .head _
theorem FrL.mem_row {Fa : Option Addr} {cF : Nat} {ps : List FR} {L : List Acc} : ∀ p ∈ ps, p.acc ∈ FrL Fa cF ps L := fun p hp => .tail _ (List.mem_append_left _ (List.mem_map.2 ⟨p, by simpa using hp, rfl⟩))
theorem own_caps {w : World} {base : Nat} {e : TypeId} {A : Option Addr} {n c : Nat} {xs : List Value} (h : w.ownsRow base e 1 (.slice A n c) n xs) : n ≤ c ∧ c ≤ 9223372036854775807 := by
  rcases h.2 with ⟨h0, h1⟩ | ⟨g, cap, cur, hv, _, _, h2, h3, _⟩
  · simp only [Value.slice.injEq] at h0
    omega
  · simp only [Value.slice.injEq, true_and] at hv
    have : maxLen = 9223372036854775807 := rfl
    omega
theorem frm_ones {w0 w : World} {L : List Acc} {Fa : Option Addr} {cF : Nat} {ps : List FR} (h : Bank w0 w L) (ha : frmAcc Fa cF ps ∈ L) (hr : ∀ p ∈ ps, p.acc ∈ L) (hk : ∀ p ∈ ps, M.inI64 p.k) : Ones w Fa (ps.map FR.fr) := fun i hi => by
  have hi' : i < ps.length := by simpa using hi
  obtain ⟨g, hF, h0, h1, h2⟩ := frm_at h ha hr i hi'
  have hc := own_caps (A := ps[i].x.A) (n := ps[i].x.n) (c := ps[i].x.c) (h.own _ (hr _ (List.getElem_mem hi')))
  refine ⟨g, 0, hF, ps[i].x.A, ps[i].x.n, ps[i].x.c, fun j u hu => ?_, ?_, ?_, hc.1, hc.2⟩
  · rw [List.getElem_map] at hu
    rw [Nat.zero_add]
    rcases j with _ | _ | j
    · cases hu; exact h0
    · cases hu; exact h1
    · cases hu
  · rw [List.getElem_map]; exact hk _ (List.getElem_mem hi')
  · rw [List.getElem_map]; exact h2
section
variable {w0 w w' : World} {D R : Nat} {room : Int} {o : Option Fil} {fs : List F.Fr} {sf Z : Nat} {st : S.St} {G : Nat} {c : S.Cl} {A : Option Addr} {cE : Nat} {xs : List EV} {L : List Acc} {f : F.Fr} {e : Ending}
/-- a frame done to the reference, beside a disk -/
theorem dk_rf (h : Dk w0 w D R room o (RfL G c A cE xs L)) (hp : RDoPost w G c xs f e w') :
    (S.sdo ⟨c, xs.map EV.e⟩ f = none ∧ e = .returned (.bool false) ∧ Dk w0 w' D R room o (RfL G c A cE xs L)) ∨
    (∃ c' A' cE' xs', S.sdo ⟨c, xs.map EV.e⟩ f = some ⟨c', xs'.map EV.e⟩ ∧ xs'.length ≤ xs.length + 1 ∧ e = .returned (.bool true) ∧ Dk w0 w' D R room o (RfL G c' A' cE' xs' L)) := by
  rcases hp with ⟨h1, he, hs⟩ | ⟨c', w1, h1, he, hs, rfl⟩ | ⟨w1, q, A', cE', en, B, m, cB, h1, hq, he, hB, rfl⟩
  · exact .inl ⟨h1, he, h.call hs⟩
  · exact .inr ⟨c', A, cE, xs, h1, by omega, he, ((((h.call hs).boxSet 0 rfl 0 (.int .i64 c'.term)).boxSet 0 rfl 1 (.int .i64 c'.vote)).boxSet 0 rfl 2 (.int .i64 c'.applied)).boxSet 0 rfl 3 (.int .i64 c'.active)⟩
  · have hl : (xs.take q ++ [⟨en, B, m, cB⟩] : List EV).length = q + 1 := by simp; omega
    refine .inr ⟨c, A', cE', _, h1, by omega, he, ?_⟩
    have h2 : Dk w0 (w1.setCell ⟨G, 4, none⟩ (.slice A' (q + 1) cE')) D R room o ([evsAcc A' (q + 1) cE' (xs.take q ++ [⟨en, B, m, cB⟩]), rowAcc B m cB en.data] ++ boxAcc G 36 (refCells c A' (q + 1) cE') :: (evsAcc A xs.length cE xs :: (evRows xs ++ L))) := (h.under hB).boxSet 2 rfl 4 (.slice A' (q + 1) cE')
    have h3 := (h2.perm (L' := boxAcc G 36 (refCells c A' (q + 1) cE') :: ([evsAcc A' (q + 1) cE' (xs.take q ++ [⟨en, B, m, cB⟩]), rowAcc B m cB en.data] ++ (evsAcc A xs.length cE xs :: (evRows xs ++ L)))) List.perm_middle).sub (L' := boxAcc G 36 (refCells c A' (q + 1) cE') :: evsAcc A' (q + 1) cE' (xs.take q ++ [⟨en, B, m, cB⟩]) :: ((rowAcc B m cB en.data :: evRows (xs.take q)) ++ L)) (.cons_cons _ (.cons_cons _ (.cons_cons _ (.cons _ ((evRows_take xs q).append (List.Sublist.refl _))))))
    show Dk w0 _ D R room o (boxAcc G _ (refCells c A' _ cE') :: evsAcc A' _ cE' _ :: (evRows _ ++ L))
    rw [hl, evRows_snoc]
    exact h3
theorem stl_rfl (Z2 D2 : Nat) (c2 : S.Cl) (A2 : Option Addr) (cE2 : Nat) (xs2 : List EV) : (StL Z2 D2 c2 A2 cE2 xs2 (RfL G c A cE xs L)).Perm (RfL G c A cE xs (StL Z2 D2 c2 A2 cE2 xs2 L)) := by
  show (([stAcc Z2 D2 c2 A2 xs2.length cE2, evsAcc A2 xs2.length cE2 xs2] ++ evRows xs2) ++ (([boxAcc G 36 (refCells c A xs.length cE), evsAcc A xs.length cE xs] ++ evRows xs) ++ L)).Perm (([boxAcc G 36 (refCells c A xs.length cE), evsAcc A xs.length cE xs] ++ evRows xs) ++ (([stAcc Z2 D2 c2 A2 xs2.length cE2, evsAcc A2 xs2.length cE2 xs2] ++ evRows xs2) ++ L))
  exact List.perm_append_comm_assoc _ _ _
theorem ls_rf (h : LS w0 w D R room fs sf Z st (RfL G c A cE xs L)) (hp : RDoPost w G c xs f e w') :
    (S.sdo ⟨c, xs.map EV.e⟩ f = none ∧ e = .returned (.bool false) ∧ LS w0 w' D R room fs sf Z st (RfL G c A cE xs L)) ∨
    (∃ c' A' cE' xs', S.sdo ⟨c, xs.map EV.e⟩ f = some ⟨c', xs'.map EV.e⟩ ∧ xs'.length ≤ xs.length + 1 ∧ e = .returned (.bool true) ∧ LS w0 w' D R room fs sf Z st (RfL G c' A' cE' xs' L)) := by
  obtain ⟨o, A2, cE2, xs2, h1, h2, h3⟩ := h
  rcases dk_rf (Dk.perm (show Dk w0 w D R room o _ from h2) (stl_rfl Z D st.c A2 cE2 xs2)) hp with ⟨k1, k2, k3⟩ | ⟨c', A', cE', xs', k1, k2, k3, k4⟩
  · exact .inl ⟨k1, k2, o, A2, cE2, xs2, h1, Dk.perm k3 (stl_rfl Z D st.c A2 cE2 xs2).symm, h3⟩
  · exact .inr ⟨c', A', cE', xs', k1, k2, k3, o, A2, cE2, xs2, h1, Dk.perm k4 (stl_rfl Z D st.c A2 cE2 xs2).symm, h3⟩
theorem LS.perm {L' : List Acc} (h : LS w0 w D R room fs sf Z st L) (hp : L.Perm L') : LS w0 w D R room fs sf Z st L' := by
  obtain ⟨o, A2, cE2, xs2, h1, h2, h3⟩ := h
  exact ⟨o, A2, cE2, xs2, h1, Dk.perm (show Dk w0 w D R room o _ from h2) (.cons _ (.cons _ (hp.append_left _))), h3⟩
end
end Go.Proofs.YtfpjmeknjhhakaaGreat.K

/- Lent entries as accounts beside a disk and its store. -/
namespace Go.Proofs.YtfpjmeknjhhakaaGreat.K
open Go Go.RowKit Go.Maps

def lacc (g n : Nat) (xs : List Value) : Acc := ⟨.slice (some ⟨g, 0, none⟩) n n, n, 62, 6, xs⟩
def lrow (b : Nat) (xs : List (BitVec 8)) : Acc := ⟨.slice (some ⟨b, 0, none⟩) xs.length xs.length, xs.length, 5, 1, bv xs⟩
def lentL' (es : List M.Ent) (j : Nat) : List (BitVec 8) := (es.getD j M.zeroEnt).data ++ marks 1 0 12
def lentA (g : Nat) (d : Nat → Nat) (n : Nat) (es : List M.Ent) : List Acc := lacc g (n + 12) (lentEs es d n ++ markEs 12) :: (List.range n).map fun j => lrow (d j) (lentL' es j)
theorem block_own {w : World} {base g n size : Nat} {e : TypeId} {xs : List Value} (h : w.heap[g]? = some (.cells xs.toArray e (0, 0))) (hb : base ≤ g) (hl : xs.length = n * size) (hn : n ≤ maxLen) : w.ownsRow base e size (.slice (some ⟨g, 0, none⟩) n n) n xs :=
  ⟨hl, .inr ⟨g, n, xs.toArray, rfl, hb, h, Nat.le_refl _, hn, by simpa using hl, by simp [← hl]⟩⟩
/-- what LentEntries told, in a world behind -/
structure LentAt (w0 w : World) (n : Nat) (es : List M.Ent) (g : Nat) (d : Nat → Nat) : Prop where
  base : w0.heap.size ≤ g
  at' : w.heap[g]? = some (.cells (lentEs es d n ++ markEs 12).toArray 62 (0, 0))
  rows : ∀ j, j < n → w0.heap.size ≤ d j ∧ w.heap[d j]? = some (.cells (bv (lentL' es j)).toArray 5 (0, 0))
  apart : ∀ i j, i < j → j < n → d i ≠ d j
theorem LentAt.ne {w0 w : World} {n : Nat} {es : List M.Ent} {g : Nat} {d : Nat → Nat} (h : LentAt w0 w n es g d) (j : Nat) (hj : j < n) : d j ≠ g := fun e => by
  have h1 := (h.rows j hj).2
  rw [e, h.at'] at h1
  simp at h1
theorem lent_bank {w w' : World} {n : Nat} {es : List M.Ent} {g : Nat} {d : Nat → Nat} (h : LentAt w w' n es g d) (hs : Since w w') (hn : n ≤ 1000000) (hd : ∀ j, j < n → (lentL' es j).length ≤ 9223372036854775807) : Bank w w' (lentA g d n es) := by
  refine ⟨hs, fun p hp => ?_, .cons (fun p hp => ?_) ?_⟩
  · rcases List.mem_cons.1 hp with rfl | hp
    · exact block_own h.at' h.base (by show (lentEs es d n ++ markEs 12).length = (n + 12) * 6; rw [List.length_append, lentEs_length, markEs_length]; omega) (by unfold maxLen; omega)
    · obtain ⟨j, hj, rfl⟩ := List.mem_map.1 hp
      have hj' := List.mem_range.1 hj
      exact block_own (h.rows j hj').2 (h.rows j hj').1 (by show (bv (lentL' es j)).length = (lentL' es j).length * 1; rw [bv_length]; omega) (by have := hd j hj'; unfold maxLen; omega)
  · obtain ⟨j, hj, rfl⟩ := List.mem_map.1 hp
    intro b hb hb2
    have e1 : g = b := by simpa [lacc, Value.ownBlock] using hb
    have e2 : d j = b := by simpa [lrow, Value.ownBlock] using hb2
    exact h.ne j (List.mem_range.1 hj) (e2.trans e1.symm)
  · refine List.pairwise_map.2 (List.Pairwise.imp_of_mem (fun {i j} hi hj hij => ?_) List.pairwise_lt_range)
    intro b hb hb2
    have e1 : d i = b := by simpa [lrow, Value.ownBlock] using hb
    have e2 : d j = b := by simpa [lrow, Value.ownBlock] using hb2
    exact h.apart i j hij (List.mem_range.1 hj) (e1.trans e2.symm)
/-- the other way -/
theorem lent_at' {w0 w w1 w2 : World} {n : Nat} {es : List M.Ent} {g : Nat} {d : Nat → Nat} {L : List Acc} (h0 : LentAt w1 w2 n es g d) (h : Bank w0 w L) (hL : ∀ p ∈ lentA g d n es, p ∈ L) : LentAt w0 w n es g d := by
  have h1 := own_fullE (h.own _ (hL _ (List.mem_cons_self ..)))
  refine ⟨h1.1, h1.2, fun j hj => ?_, h0.apart⟩
  exact own_full (h.own _ (hL _ (List.mem_cons_of_mem _ (List.mem_map.2 ⟨j, List.mem_range.2 hj, rfl⟩))))
section
variable {w0 w w' : World} {D R : Nat} {room : Int} {fs : List F.Fr} {sf Z : Nat} {st : S.St} {L : List Acc} {n g : Nat} {d : Nat → Nat} {es : List M.Ent}
theorem ls_over (h : LS w0 w D R room fs sf Z st (lentA g d n es ++ L)) (ho : OverW w w' n g d) : LS w0 w' D R room fs sf Z st L := by
  obtain ⟨o, A, cE, xs, h1, h2, h3⟩ := h
  refine ⟨o, A, cE, xs, h1, ?_, h3⟩
  have e1 : (StL Z D st.c A cE xs (lentA g d n es ++ L)).Perm (lentA g d n es ++ StL Z D st.c A cE xs L) := by
    show (([stAcc Z D st.c A xs.length cE, evsAcc A xs.length cE xs] ++ evRows xs) ++ (lentA g d n es ++ L)).Perm (lentA g d n es ++ (([stAcc Z D st.c A xs.length cE, evsAcc A xs.length cE xs] ++ evRows xs) ++ L))
    exact List.perm_append_comm_assoc _ _ _
  have h4 : Side w0 w R (mapObj o) (lentA g d n es ++ (dAcc D R room :: (filAccs o ++ StL Z D st.c A cE xs L))) := (Dk.perm (show Dk w0 w D R room o _ from h2) e1).side.perm (by
    show (([dAcc D R room] ++ filAccs o) ++ (lentA g d n es ++ StL Z D st.c A cE xs L)).Perm (lentA g d n es ++ (([dAcc D R room] ++ filAccs o) ++ StL Z D st.c A cE xs L))
    exact List.perm_append_comm_assoc _ _ _)
  have hap := (List.pairwise_append.1 h4.bank.sep).2.2
  have hg1 : ∀ p ∈ lentA g d n es, p ∈ lentA g d n es ++ (dAcc D R room :: (filAccs o ++ StL Z D st.c A cE xs L)) := fun p hp => List.mem_append_left _ hp
  have hm0 : lacc g (n + 12) (lentEs es d n ++ markEs 12) ∈ lentA g d n es := List.mem_cons_self ..
  have hmj : ∀ j, j < n → lrow (d j) (lentL' es j) ∈ lentA g d n es := fun j hj => List.mem_cons_of_mem _ (List.mem_map.2 ⟨j, List.mem_range.2 hj, rfl⟩)
  have hgb := (h4.bank.lt (hg1 _ hm0) (b := g) rfl).1
  have hdb : ∀ j, j < n → w0.heap.size ≤ d j := fun j hj => (h4.bank.lt (hg1 _ (hmj j hj)) (b := d j) rfl).1
  have hR1 : R ≠ g := fun e => h4.away _ (hg1 _ hm0) (by rw [e]; rfl)
  have hR2 : ∀ j, j < n → d j ≠ R := fun j hj e => h4.away _ (hg1 _ (hmj j hj)) (by rw [← e]; rfl)
  show Side w0 w' R (mapObj o) (dAcc D R room :: (filAccs o ++ StL Z D st.c A cE xs L))
  refine ⟨bank_over (h4.bank.sub (List.sublist_append_right _ _)) ho hgb hdb (fun q hq b hb => ⟨fun e => hap _ hm0 q hq g rfl (by rw [hb, e]), fun j hj e => hap _ (hmj j hj) q hq (d j) rfl (by rw [hb, e])⟩), (ho.block R h4.lt hR1 hR2).trans h4.at', h4.base, fun p hp => h4.away p (List.mem_append_right _ hp)⟩
end
end Go.Proofs.YtfpjmeknjhhakaaGreat.K

/- The contract of the reference's Kept: a cell's frame. -/
namespace Go.Proofs.YtfpjmeknjhhakaaGreat.K
open Go Go.RowKit

def kith (d : S.Cl) (k : Nat) : Int := [d.term, d.vote, d.applied, d.active].getD k 0
def kpre (d : S.Cl) : Nat → List (BitVec 8)
  | 0 => []
  | k + 1 => kpre d k ++ M.num (kith d k)
theorem kpre_all (d : S.Cl) : kpre d 4 = S.cdata d := by simp [kpre, kith, S.cdata]
theorem kpre_length (d : S.Cl) : ∀ k, (kpre d k).length = k * 8
  | 0 => rfl
  | k + 1 => by rw [kpre, List.length_append, kpre_length d k, M.num_length]; omega
set_option maxHeartbeats 4000000 in
set_option maxRecDepth 100000 in
theorem rKept22_any (d : S.Cl) (w : World) : Calls Tryz.prog 31 #[.agg #[.int .i64 d.term, .int .i64 d.vote, .int .i64 d.applied, .int .i64 d.active]] w (FrameP w (S.kept d)) := by
  have b0 := ((((Bank.nil (Below.refl w.heap.size w)).box #[.int .i64 d.term, .int .i64 d.vote, .int .i64 d.applied, .int .i64 d.active] 33 (by simp)).box #[.int .i64 0, .slice none 0 0] 49 (by simp)).box #[.int .i64 d.term, .int .i64 d.vote, .int .i64 d.applied, .int .i64 d.active] 3 (by simp)).none 5 1
  rw [show ((w.alloc (.cells #[.int .i64 d.term, .int .i64 d.vote, .int .i64 d.applied, .int .i64 d.active] 33)).alloc (.cells #[.int .i64 0, .slice none 0 0] 49)).heap.size = w.heap.size + 2 by simp, show (w.alloc (.cells #[.int .i64 d.term, .int .i64 d.vote, .int .i64 d.applied, .int .i64 d.active] 33)).heap.size = w.heap.size + 1 by simp] at b0
  have BK0 : Hid (Bank w _ [rowAcc none 0 0 (kpre d 0), boxAcc (w.heap.size + 2) 3 [.int .i64 d.term, .int .i64 d.vote, .int .i64 d.applied, .int .i64 d.active], boxAcc (w.heap.size + 1) 49 [.int .i64 0, .slice none 0 0], boxAcc w.heap.size 33 [.int .i64 d.term, .int .i64 d.vote, .int .i64 d.applied, .int .i64 d.active]]) := Lib.hid b0
  clear b0
  go_enter Tryz.func31, Tryz.ntmps31
  go_wp2_with fail
  obtain ⟨X, hX⟩ : ∃ X, X = w.heap.size := ⟨_, rfl⟩
  rw [← hX] at BK0
  try simp only [← hX]
  clear hX
  go_loopw [4, 5] (fun v i wr => ∃ (k : Nat) (A : Option Addr) (N cN : Nat), k ≤ 4 ∧ i = .int .i64 (k : Int) ∧ v = .slice A N cN ∧ Bank w wr [rowAcc A N cN (kpre d k), boxAcc (X + 2) 3 [.int .i64 d.term, .int .i64 d.vote, .int .i64 d.applied, .int .i64 d.active], boxAcc (X + 1) 49 [.int .i64 0, .slice none 0 0], boxAcc X 33 [.int .i64 d.term, .int .i64 d.vote, .int .i64 d.applied, .int .i64 d.active]]) (fun _ i _ => 4 - (intOf i).toNat)
  case atStart => exact ⟨0, none, 0, 0, by omega, rfl, rfl, BK0.out⟩
  case round =>
    clear BK0
    obtain ⟨k, A, N, cN, hk, rfl, rfl, hB⟩ := hrel
    have HB := Lib.hid hB
    have hN : (kpre d k).length = N := (RowRd.of_row (hB.at 0 rfl)).len
    rw [kpre_length] at hN
    have k0 : (0 : Int) ≤ (k : Int) := by omega
    rcases Nat.lt_or_ge k 4 with h1 | h1
    · have i1 : (k : Int) < 4 := by omega
      have x0 : wr.cell? ⟨X + 2, k, none⟩ = some (.int .i64 (kith d k)) := hB.cell 1 rfl k (by
        rcases k with _ | _ | _ | _ | k
        · rfl
        · rfl
        · rfl
        · rfl
        · omega)
      clear hB
      go_wp2_with fail
      refine (rnum_madeS (kith d k) _).mono ?_
      rintro e u1 ⟨g0, N0, q0, rfl, hN0, ho, hb⟩
      have hN0' : N0 ≤ 8 := by rw [M.num_length] at hN0; omega
      have BK1 := Lib.hid (HB.out.madeB hb ho)
      clear hN0
      clear ho hb HB x0
      go_wp2_with (at_builtin; refine wpList_append_bytes BK1.out rfl _ _ 37 rfl 5 infoByte Tryz.underlying37 1 _ _ _ _ rfl rfl _ _ _ _ rfl (BK1.out.row 0 rfl) (by omega) ?_; intro A3 n3 c3 w3 hn3 hB3; dsimp only [List.set] at hB3; have BK3 := Lib.hid hB3.drop; clear hB3 hn3)
      go_roundw
      case rel => exact ⟨k + 1, A3, n3, c3, by omega, by go_num, rfl, BK3.out⟩
      case measure => simp [intOf]; omega
    · have i1 : ¬ (k : Int) < 4 := by omega
      obtain rfl : k = 4 := by omega
      clear hB
      have b4 := (HB.out.boxSet 2 rfl 0 (.int .i64 1)).boxSet 2 rfl 1 (.slice A N cN)
      dsimp only [List.set] at b4
      rw [kpre_all] at b4
      have y0 := HB.out.cell 2 rfl 0 rfl
      have y1 := HB.out.cell 2 rfl 1 rfl
      have f0 := HB.out.free 2 rfl 0
      have f1 := HB.out.free 2 rfl 1
      have BK4 := Lib.hid b4
      have HBX := Lib.hid (b4.boxAt 2 rfl).2
      have HFIN := Lib.hid (show FrameP w (S.kept d) (.returned (.agg #[.int .i64 1, .slice A N cN])) _ from ⟨A, N, cN, rfl, by rw [← hN, ← kpre_length d 4, kpre_all]; rfl, b4.sub (L' := [rowAcc A N cN (S.cdata d)]) (.cons_cons _ (.cons _ (.cons _ (.cons _ .slnil))))⟩)
      clear b4 HB
      go_wp2_with fail
      refine bodyPost_ret (v := .agg #[.int .i64 1, .slice A N cN]) ?_ ?_ ?_
      · exact results_cell_row rfl _ _ (X + 1) 49 _ (0, 0) _ rfl HBX.out Tryz.underlying49 rfl infoFrameR
      · rfl
      · exact HFIN.out
end Go.Proofs.YtfpjmeknjhhakaaGreat.K

/- The contracts of the reference's Carried and MayAppend. -/
namespace Go.Proofs.YtfpjmeknjhhakaaGreat.K
open Go Go.RowKit

set_option maxHeartbeats 4000000 in
set_option maxRecDepth 100000 in
theorem rCarried_any (x : M.Ent) (A : Option Addr) (n c : Nat) (w : World) (hr : RowRd w ⟨A, n, c⟩ x.data) (hn : n ≤ 100000000) (hx : x.Ok) :
    Calls Tryz.prog 67 #[.agg #[.int .i64 x.term, B8 x.kind, .int .i64 x.version, .int .i64 x.server, .bool x.good, .slice A n c]] w fun e w' => e = .returned (.bool true) ∧ Since w w' := by
  have hxl : x.data.length = n := hr.len
  have HLE := Lib.hid (show (M.ent x).length = 48 + n by rw [M.ent_length, hxl])
  have HXL := Lib.hid hxl
  have HBACK := Lib.hid (show M.rdEntry (some (M.ent x)) = (x, some []) by have h := M.rdEntry_ent x [] hx; rwa [List.append_nil] at h)
  have BK0 := Lib.hid ((Bank.nil (Below.refl w.heap.size w)).box #[.int .i64 x.term, B8 x.kind, .int .i64 x.version, .int .i64 x.server, .bool x.good, .slice A n c] 62 (by simp))
  have HR := Lib.hid (Since.row BK0.out.since hr)
  have HR0 := Lib.hid hr
  have HS0 : Hid (∀ u, Since w u → Since w u) := Lib.hid (fun _ h => h)
  clear hr hxl
  go_enter Tryz.func67, Tryz.ntmps67
  go_wp2_with fail
  obtain ⟨X, hX⟩ : ∃ X, X = w.heap.size := ⟨_, rfl⟩
  rw [← hX] at BK0
  try simp only [← hX]
  clear hX
  generalize w.alloc (.cells #[.int .i64 x.term, B8 x.kind, .int .i64 x.version, .int .i64 x.server, .bool x.good, .slice A n c] 62) = wa at *
  refine (rentry_madeS (e := x) HR.out (by omega)).mono ?_
  rintro e u1 ⟨g1, N1, q1, rfl, hN, ho, hb⟩
  have hN1 : N1 ≤ 100000048 := by rw [HLE.out] at hN; omega
  have BK1 := Lib.hid (BK0.out.madeB hb ho)
  clear ho hb hN
  go_wp2_with fail
  refine (rNew_any (some ⟨g1, 0, none⟩) N1 q1 (M.ent x) u1 (BK1.out.row 0 rfl) (by omega)).mono ?_
  rintro e w2 ⟨R, Bd, cB0, rfl, hR, hq, hBd, hb⟩
  have H0 := Lib.hid (show Held w w2 (fun w s => RefN w R s Bd N1 cB0 (M.ent x)) (some (M.ent x)) R Bd _ from Held.start (Q := fun w s => RefN w R s Bd N1 cB0 (M.ent x)) BK1.out ⟨0, false, hq⟩ hb hR hq.lt hBd (fun w w' s row h hg hR hA => refN_grownS h hg hR hA))
  clear hq hBd hb hR BK0
  go_wp2_with fail
  refine (entry_heldS H0.out HBACK.out).mono ?_
  rintro e u2 ⟨B, m, cB, rfl, hH⟩
  have H1 := Lib.hid (hH.box #[.int .i64 x.term, B8 x.kind, .int .i64 x.version, .int .i64 x.server, .bool x.good, .slice B m cB] 62 (by simp))
  clear hH H0
  go_wp2_with fail
  generalize u2.alloc (.cells #[.int .i64 x.term, B8 x.kind, .int .i64 x.version, .int .i64 x.server, .bool x.good, .slice B m cB] 62) = u3 at *
  generalize u2.heap.size = Y at *
  refine (done_heldR H1.out).mono ?_
  rintro e u4 ⟨rfl, hH⟩
  have hs := hH.bank
  have H2 := Lib.hid hs
  rw [show decide (some ([] : List (BitVec 8)) = some []) = true from rfl]
  have z0 := hs.cell 0 rfl 0 rfl
  have z1 := hs.cell 0 rfl 1 rfl
  have z2 := hs.cell 0 rfl 2 rfl
  have z3 := hs.cell 0 rfl 3 rfl
  have z4 := hs.cell 0 rfl 4 rfl
  have z5 := hs.cell 0 rfl 5 rfl
  have y0 := hs.cell 3 rfl 0 rfl
  have y1 := hs.cell 3 rfl 1 rfl
  have y2 := hs.cell 3 rfl 2 rfl
  have y3 := hs.cell 3 rfl 3 rfl
  have y4 := hs.cell 3 rfl 4 rfl
  have y5 := hs.cell 3 rfl 5 rfl
  have HRB := Lib.hid (RowRd.of_row (hs.at 1 rfl))
  clear hs hH H1
  have HSM := Lib.hid (SameEntry_eq x.term x.version x.server x.kind x.good B A m cB n c x.data u4 HRB.out (Since.row (HS0.out u4 H2.out.since) HR0.out) (by have h1 : x.data.length = m := HRB.out.len; have := HXL.out; omega))
  go_wp2_with fail
  clear z0 z1 z2 z3 z4 z5 y0 y1 y2 y3 y4 y5
  refine HSM.out.mono ?_
  rintro e u5 ⟨rfl, hb⟩
  have HFIN := Lib.hid (H2.out.since.add hb)
  clear hb
  go_wp2_with fail
  go_ret
  exact ⟨rfl, HFIN.out⟩
set_option maxHeartbeats 4000000 in
set_option maxRecDepth 100000 in
theorem rMayApp_any (G : Nat) (c : S.Cl) (A0 : Option Addr) (n0 c0 : Nat) (i : Int) (A : Option Addr) (n cap : Nat) (es : List M.Ent) (w : World) (hG : w.cell? ⟨G, 4, none⟩ = some (.slice A0 n0 c0)) (hn0 : n0 ≤ 1000000) (hl : es.length = n) (hE : EntsRd w A es) (hn : n ≤ 1000000) (hD : ∀ e ∈ es, e.data.length ≤ 100000000) (hok : ∀ e ∈ es, e.Ok) :
    Calls Tryz.prog 32 #[.pointer (some ⟨G, 0, none⟩), .int .i64 i, .slice A n cap] w fun e w' => e = .returned (.int .i64 (if 1 ≤ i ∧ i ≤ (n0 : Int) + 1 then 0 else 2)) ∧ Since w w' := by
  have HE := Lib.hid hE; have HL := Lib.hid hl; have HD := Lib.hid hD; have HO := Lib.hid hok
  have hwr : IntKind.i64.wrap ((n0 : Int) + 1) = (n0 : Int) + 1 := IntWalk.i64_in _ (by omega)
  clear hE hl hD hok
  go_enter Tryz.func32, Tryz.ntmps32
  by_cases h1 : i < 1
  · have HF := Lib.hid (show (if 1 ≤ i ∧ i ≤ (n0 : Int) + 1 then (0 : Int) else 2) = 2 from if_neg (by omega))
    have HS := Lib.hid (Below.refl w.heap.size w)
    rw [HF.out]
    go_wp2
    go_ret
    exact ⟨rfl, HS.out⟩
  by_cases h2 : (n0 : Int) + 1 < i
  · have HF := Lib.hid (show (if 1 ≤ i ∧ i ≤ (n0 : Int) + 1 then (0 : Int) else 2) = 2 from if_neg (by omega))
    have HS := Lib.hid (Below.refl w.heap.size w)
    rw [HF.out]
    go_wp2
    go_ret
    exact ⟨rfl, HS.out⟩
  have HF := Lib.hid (show (if 1 ≤ i ∧ i ≤ (n0 : Int) + 1 then (0 : Int) else 2) = 0 from if_pos (by omega))
  rw [HF.out]
  have HS0 := Lib.hid (Below.refl w.heap.size w)
  go_wp2_with fail
  go_loopw [7] (fun j wr => ∃ k : Nat, k ≤ n ∧ j = .int .i64 (k : Int) ∧ Since w wr) (fun j _ => n - (intOf j).toNat)
  case atStart => exact ⟨0, by omega, rfl, HS0.out⟩
  case round =>
    clear HS0
    obtain ⟨k, hk, rfl, hs⟩ := hrel
    have HS := Lib.hid hs
    have k0 : (0 : Int) ≤ (k : Int) := by omega
    rcases Nat.lt_or_ge k n with h3 | h3
    · have i1 : (k : Int) < (n : Int) := by omega
      have hkl : k < es.length := by rw [HL.out]; exact h3
      obtain ⟨b, o, rfl, A', m', c2, ⟨y0, y1, y2, y3, y4, y5⟩, hrd⟩ := HE.out.since HS.out k hkl
      obtain ⟨x, hx⟩ : ∃ x, x = es[k] := ⟨_, rfl⟩
      have hxm : x ∈ es := by rw [hx]; exact List.getElem_mem hkl
      rw [← hx] at y0 y1 y2 y3 y4 hrd
      have hml : x.data.length = m' := hrd.len
      have HC := Lib.hid (rCarried_any x A' m' c2 wr hrd (by rw [← hml]; exact HD.out x hxm) (HO.out x hxm))
      clear hx hxm hml hrd hs
      go_wp2_with fail
      clear y0 y1 y2 y3 y4 y5
      refine HC.out.mono ?_
      rintro e w1 ⟨rfl, hs⟩
      have HS2 := Lib.hid (HS.out.add hs)
      clear hs HS HC
      go_wp2_with fail
      go_roundw
      case rel => exact ⟨k + 1, by omega, by go_num, HS2.out⟩
      case measure => simp [intOf]; omega
    · have i1 : ¬ (k : Int) < (n : Int) := by omega
      clear hs
      go_wp2_with fail
      go_ret
      exact ⟨rfl, HS.out⟩
end Go.Proofs.YtfpjmeknjhhakaaGreat.K

/- The law's do: a cell is kept, or all is synced. -/
namespace Go.Proofs.YtfpjmeknjhhakaaGreat.K
open Go Go.RowKit Go.Maps

def dAt (st : S.St) (d : Deed) : Int := pick d.a ((st.l.length : Int) + 4) - 1
/-- the frames that a deed puts -/
def dFr (st : S.St) (d : Deed) : List F.Fr :=
  if pick d.kind 4 = 0 then (if S.may d.cell = true then [S.kept d.cell] else [])
  else if pick d.kind 4 = 3 then [] else if 1 ≤ dAt st d ∧ dAt st d ≤ (st.l.length : Int) + 1 then S.puts (dAt st d) d.es else []
/-- what it makes of a store -/
def dSt (st : S.St) (d : Deed) : S.St :=
  if pick d.kind 4 = 0 then (if S.may d.cell = true then ⟨d.cell, st.l⟩ else st)
  else if pick d.kind 4 = 3 then st else if 1 ≤ dAt st d ∧ dAt st d ≤ (st.l.length : Int) + 1 then grewS st (dAt st d) d.es else st
def dSf (fs : List F.Fr) (sf : Nat) (d : Deed) : Nat := if pick d.kind 4 = 3 then (F.pbytes fs).length else sf
/-- a deed was done -/
def DoneP (w0 : World) (D R Z : Nat) (fs : List F.Fr) (sf : Nat) (st : S.St) (d : Deed) (L : List Acc) (e : Ending) (w' : World) : Prop :=
  ∃ Fa cF ps, e = .returned (.tuple #[.slice Fa ps.length cF, .bool true]) ∧ ps.map FR.fr = dFr st d ∧ (∀ p ∈ ps, M.inI64 p.k) ∧ LS w0 w' D R 1048576 (fs ++ dFr st d) (dSf fs sf d) Z (dSt st d) (FrL Fa cF ps L)
theorem ls_nilF {w0 w : World} {D R : Nat} {room : Int} {fs : List F.Fr} {sf Z : Nat} {st : S.St} {L : List Acc} (h : LS w0 w D R room fs sf Z st L) : LS w0 w D R room fs sf Z st (FrL none 0 [] L) :=
  h.add (L' := [frmAcc none 0 []]) ((Bank.nil (Below.refl w.heap.size w)).none _ _)
def deedV (d : Deed) (E : Option Addr) (n c : Nat) : Array Value := #[.int .i64 d.kind, .int .i64 d.cell.term, .int .i64 d.cell.vote, .int .i64 d.cell.applied, .int .i64 d.cell.active, .int .i64 d.a, .slice E n c]
set_option maxHeartbeats 4000000 in
set_option maxRecDepth 100000 in
theorem do_sync (w0 w : World) (D R Z G : Nat) (fs : List F.Fr) (sf : Nat) (st : S.St) (d : Deed) (E : Option Addr) (n c : Nat) (L : List Acc) (h : LS w0 w D R 1048576 fs sf Z st L) (hp : pick d.kind 4 = 3) :
    Calls Tryz.prog 10 #[.pointer (some ⟨Z, 0, none⟩), .pointer (some ⟨G, 0, none⟩), .agg #[.int .i64 d.kind, .int .i64 d.cell.term, .int .i64 d.cell.vote, .int .i64 d.cell.applied, .int .i64 d.cell.active, .int .i64 d.a, .slice E n c]] w (DoneP w0 D R Z fs sf st d L) := by
  have HP := Lib.hid hp
  have BK := Lib.hid ((Bank.nil (Below.refl w.heap.size w)).box #[.int .i64 d.kind, .int .i64 d.cell.term, .int .i64 d.cell.vote, .int .i64 d.cell.applied, .int .i64 d.cell.active, .int .i64 d.a, .slice E n c] 40 (by simp))
  have H0 := Lib.hid (h.add BK.out)
  clear h hp
  go_enter Tryz.func10, Tryz.ntmps10
  go_wp2_with fail
  refine (Pick_any d.kind 4 _ (by omega) (by omega)).mono ?_
  rintro e w' ⟨rfl, rfl⟩
  rw [HP.out]
  generalize w.alloc (.cells #[.int .i64 d.kind, .int .i64 d.cell.term, .int .i64 d.cell.vote, .int .i64 d.cell.applied, .int .i64 d.cell.active, .int .i64 d.a, .slice E n c] 40) = w1 at *
  generalize w.heap.size = X at *
  go_wp2_with fail
  refine (syncL w0 w1 D R 1048576 fs sf Z st _ H0.out).mono ?_
  rintro e w2 ⟨rfl, h2⟩
  have HFIN := Lib.hid (show DoneP w0 D R Z fs sf st d L (.returned (.tuple #[.slice none 0 0, .bool true])) w2 from ⟨none, 0, [], rfl, by
    unfold dFr
    rw [if_neg (by rw [HP.out]; decide), if_pos HP.out]; rfl, (fun _ hp => by cases hp), by
    unfold dFr dSt dSf
    rw [if_neg (by rw [HP.out]; decide), if_pos HP.out, if_pos HP.out, if_neg (by rw [HP.out]; decide), if_pos HP.out, List.append_nil]
    exact ls_nilF (h2.sub (.cons _ (List.Sublist.refl _)))⟩)
  clear h2
  go_wp2_with fail
  go_ret2
  exact HFIN.out
set_option maxHeartbeats 4000000 in
set_option maxRecDepth 100000 in
theorem do_keep (w0 w : World) (D R Z G : Nat) (fs : List F.Fr) (sf : Nat) (st : S.St) (d : Deed) (E : Option Addr) (n c : Nat) (L : List Acc) (h : LS w0 w D R 1048576 fs sf Z st L) (hp : pick d.kind 4 = 0) (hb : (F.pbytes fs).length ≤ 1000000) (hx : st.l.length ≤ 700000) :
    Calls Tryz.prog 10 #[.pointer (some ⟨Z, 0, none⟩), .pointer (some ⟨G, 0, none⟩), .agg #[.int .i64 d.kind, .int .i64 d.cell.term, .int .i64 d.cell.vote, .int .i64 d.cell.applied, .int .i64 d.cell.active, .int .i64 d.a, .slice E n c]] w (DoneP w0 D R Z fs sf st d L) := by
  have HP := Lib.hid hp
  have bk := (Bank.nil (Below.refl w.heap.size w)).box #[.int .i64 d.kind, .int .i64 d.cell.term, .int .i64 d.cell.vote, .int .i64 d.cell.applied, .int .i64 d.cell.active, .int .i64 d.a, .slice E n c] 40 (by simp)
  have BK := Lib.hid bk
  have H0 := Lib.hid (h.add bk)
  clear h hp bk
  go_enter Tryz.func10, Tryz.ntmps10
  go_wp2_with fail
  refine (Pick_any d.kind 4 _ (by omega) (by omega)).mono ?_
  rintro e w' ⟨rfl, rfl⟩
  rw [HP.out]
  have x1 := BK.out.cell 0 rfl 1 rfl
  have x2 := BK.out.cell 0 rfl 2 rfl
  have x3 := BK.out.cell 0 rfl 3 rfl
  have x4 := BK.out.cell 0 rfl 4 rfl
  generalize w.alloc (.cells #[.int .i64 d.kind, .int .i64 d.cell.term, .int .i64 d.cell.vote, .int .i64 d.cell.applied, .int .i64 d.cell.active, .int .i64 d.a, .slice E n c] 40) = w1 at *
  generalize w.heap.size = X at *
  have hbeq : ((0 : Int) == 0) = true := rfl
  obtain ⟨bm, hbm⟩ : ∃ b, b = S.may d.cell := ⟨_, rfl⟩
  cases bm with
  | false =>
    have HBM := Lib.hid hbm.symm
    clear hbm
    go_wp2_with fail
    clear x1 x2 x3 x4
    refine (keepBad w0 w1 D R 1048576 fs sf Z st _ d.cell H0.out HBM.out).mono ?_
    rintro e w2 ⟨rfl, h2⟩
    have H2 := Lib.hid h2
    clear h2
    have x1 := (H2.out.bank).cell 0 rfl 1 rfl
    have x2 := (H2.out.bank).cell 0 rfl 2 rfl
    have x3 := (H2.out.bank).cell 0 rfl 3 rfl
    have x4 := (H2.out.bank).cell 0 rfl 4 rfl
    go_wp2_with fail
    clear x1 x2 x3 x4
    refine (lcell_any d.cell.term d.cell.vote d.cell.applied d.cell.active w2).mono ?_
    rintro e w3 ⟨rfl, hs⟩
    have H3 := Lib.hid (H2.out.call hs)
    clear hs H2
    go_wp2_with fail
    refine (rMay_any d.cell w3).mono ?_
    rintro e w4 ⟨rfl, hs⟩
    rw [HBM.out]
    have h4 := H3.out.call hs
    have HFIN := Lib.hid (show DoneP w0 D R Z fs sf st d L (.returned (.tuple #[.slice none 0 0, .bool true])) w4 from ⟨none, 0, [], rfl, by
      unfold dFr
      rw [if_pos HP.out, if_neg (by rw [HBM.out]; decide)]; rfl, (fun _ hp => by cases hp), by
      unfold dFr dSt dSf
      rw [if_pos HP.out, if_neg (by rw [HBM.out]; decide), if_neg (by rw [HP.out]; decide), if_pos HP.out, if_neg (by rw [HBM.out]; decide), List.append_nil]
      exact ls_nilF (h4.sub (.cons _ (List.Sublist.refl _)))⟩)
    clear hs h4 H3
    go_wp2_with fail
    go_ret2
    exact HFIN.out
  | true =>
    have HBM := Lib.hid hbm.symm
    clear hbm
    go_wp2_with fail
    clear x1 x2 x3 x4
    refine (keepL w0 w1 D R 1048576 fs sf Z st _ d.cell H0.out HBM.out (by omega) (by omega) hx).mono ?_
    rintro e w2 ⟨rfl, h2⟩
    have H2 := Lib.hid h2
    clear h2
    have x1 := (H2.out.bank).cell 0 rfl 1 rfl
    have x2 := (H2.out.bank).cell 0 rfl 2 rfl
    have x3 := (H2.out.bank).cell 0 rfl 3 rfl
    have x4 := (H2.out.bank).cell 0 rfl 4 rfl
    go_wp2_with fail
    clear x1 x2 x3 x4
    refine (lcell_any d.cell.term d.cell.vote d.cell.applied d.cell.active w2).mono ?_
    rintro e w3 ⟨rfl, hs⟩
    have H3 := Lib.hid (H2.out.call hs)
    clear hs H2
    go_wp2_with fail
    refine (rMay_any d.cell w3).mono ?_
    rintro e w4 ⟨rfl, hs⟩
    rw [HBM.out]
    have H4 := Lib.hid (H3.out.call hs)
    clear hs H3
    have x1 := (H4.out.bank).cell 0 rfl 1 rfl
    have x2 := (H4.out.bank).cell 0 rfl 2 rfl
    have x3 := (H4.out.bank).cell 0 rfl 3 rfl
    have x4 := (H4.out.bank).cell 0 rfl 4 rfl
    go_wp2_with fail
    clear x1 x2 x3 x4
    refine (lcell_any d.cell.term d.cell.vote d.cell.applied d.cell.active w4).mono ?_
    rintro e w5 ⟨rfl, hs⟩
    have H5 := Lib.hid (H4.out.call hs)
    clear hs H4
    go_wp2_with fail
    refine (rKept22_any d.cell w5).mono ?_
    rintro e w6 ⟨A6, n6, c6, rfl, hn6, hB6⟩
    have hrow := World.ownsRow_lit (e := 49) (size := 2) w6 #[.int .i64 1, .slice A6 n6 c6] 1 (Nat.le_refl _) (by unfold maxLen; omega) rfl
    have h7 : LS w0 (w6.alloc (.cells #[.int .i64 1, .slice A6 n6 c6] 49)) D R 1048576 (fs ++ [S.kept d.cell]) sf Z ⟨d.cell, st.l⟩ (FrL (some ⟨w6.heap.size, 0, none⟩) 1 [⟨1, ⟨A6, n6, c6⟩, S.cdata d.cell⟩] L) :=
      ((H5.out.add hB6).add (L' := [frmAcc (some ⟨w6.heap.size, 0, none⟩) 1 [⟨1, ⟨A6, n6, c6⟩, S.cdata d.cell⟩]]) ((Bank.nil (Below.refl w6.heap.size w6)).made ((Below.refl _ _).alloc (Nat.le_refl _) _) hrow)).sub (.cons_cons _ (.cons_cons _ (.cons _ (List.Sublist.refl _))))
    have HFIN := Lib.hid (show DoneP w0 D R Z fs sf st d L (.returned (.tuple #[.slice (some ⟨w6.heap.size, 0, none⟩) 1 1, .bool true])) _ from ⟨some ⟨w6.heap.size, 0, none⟩, 1, [⟨1, ⟨A6, n6, c6⟩, S.cdata d.cell⟩], rfl, by
      unfold dFr
      rw [if_pos HP.out, if_pos HBM.out]; rfl, (fun p hp => by rw [List.mem_singleton.1 hp]; exact (show M.inI64 1 from ⟨by decide, by decide⟩)), by
      unfold dFr dSt dSf
      rw [if_pos HP.out, if_pos HBM.out, if_neg (by rw [HP.out]; decide), if_pos HP.out, if_pos HBM.out]
      exact h7⟩)
    clear hB6 hrow h7 H5 hn6
    go_wp2_with fail
    go_ret2
    exact HFIN.out
end Go.Proofs.YtfpjmeknjhhakaaGreat.K

/- (made by gendo22.py) The law's do: entries are put. -/
namespace Go.Proofs.YtfpjmeknjhhakaaGreat.K
open Go Go.RowKit Go.Maps

theorem infoFrameR3 : (Tryz.prog.info? 49).map (fun i => (i.zero, i.size, i.bytes)) = some (some (.agg #[.int .i64 0, .slice none 0 0]), 2, 32) := by kernel_rfl
theorem FrL.snoc (A3 : Option Addr) (c3 : Nat) (ps : List FR) (k : Int) (D : Option Addr) (N dd : Nat) (bs : List (BitVec 8)) (L : List Acc) :
    FrL A3 c3 (ps ++ [⟨k, ⟨D, N, dd⟩, bs⟩]) L = ⟨.slice A3 (ps.length + 1) c3, ps.length + 1, 49, 2, ps.flatMap FR.cells ++ [.int .i64 k, .slice D N dd]⟩ :: rowAcc D N dd bs :: (ps.reverse.map FR.acc ++ L) := by
  simp [FrL, frmAcc, FR.cells, FR.acc, Rw.v, rowAcc]
set_option maxHeartbeats 8000000 in
set_option maxRecDepth 100000 in
theorem do_app (w0 w : World) (D R Z G : Nat) (fs : List F.Fr) (sf : Nat) (st : S.St) (d : Deed) (E : Option Addr) (n c : Nat) (A : Option Addr) (cM : Nat) (L : List Acc) (h : LS w0 w D R 1048576 fs sf Z st L) (hG : ∀ w', Bank w0 w' L → w'.cell? ⟨G, 4, none⟩ = some (.slice A st.l.length cM)) (hp0 : pick d.kind 4 ≠ 0) (hp3 : pick d.kind 4 ≠ 3)
    (hE : EntsRd w0 E d.es) (hEl : d.es.length = n) (hok : ∀ e ∈ d.es, e.Ok) (hec : ecost d.es ≤ 6000) (hb : (F.pbytes fs).length ≤ 1000000) (hx : st.l.length ≤ 600000) :
    Calls Tryz.prog 10 #[.pointer (some ⟨Z, 0, none⟩), .pointer (some ⟨G, 0, none⟩), .agg #[.int .i64 d.kind, .int .i64 d.cell.term, .int .i64 d.cell.vote, .int .i64 d.cell.applied, .int .i64 d.cell.active, .int .i64 d.a, .slice E n c]] w (DoneP w0 D R Z fs sf st d L) := by
  have hn1 : n ≤ 600 := by have := ecost_len d.es; omega
  have HSM := Lib.hid (show ∀ e ∈ d.es, e.data.length ≤ 6000 from fun e he => by have := ecost_mem he; omega)
  have hbeq0 : (pick d.kind 4 == 0) = false := by rw [beq_eq_false_iff_ne]; exact hp0
  have hbeq3 : (pick d.kind 4 == 3) = false := by rw [beq_eq_false_iff_ne]; exact hp3
  have HP0 := Lib.hid hp0; have HP3 := Lib.hid hp3
  have bk := (Bank.nil (Below.refl w.heap.size w)).box #[.int .i64 d.kind, .int .i64 d.cell.term, .int .i64 d.cell.vote, .int .i64 d.cell.applied, .int .i64 d.cell.active, .int .i64 d.a, .slice E n c] 40 (by simp)
  have HGC := Lib.hid hG
  have HE := Lib.hid hE; have HEL := Lib.hid hEl; have HOK := Lib.hid hok; have HEC := Lib.hid hec
  have H0 := Lib.hid (h.add bk)
  clear h hp0 hp3 bk hG hE hEl hok hec
  have hlo := pick_lo d.a ((st.l.length : Int) + 4) (by omega)
  have hhi := pick_hi d.a ((st.l.length : Int) + 4) (by omega)
  have hwl : IntKind.i64.wrap ((st.l.length : Int) + 4) = (st.l.length : Int) + 4 := IntWalk.i64_in _ (by omega)
  obtain ⟨kk, hkk⟩ : ∃ kk, kk = pick d.kind 4 := ⟨_, rfl⟩
  go_enter Tryz.func10, Tryz.ntmps10
  go_wp2_with fail
  refine (Pick_any d.kind 4 _ (by omega) (by omega)).mono ?_
  rintro e w' ⟨rfl, rfl⟩
  rw [← hkk]
  rw [← hkk] at hbeq0 hbeq3
  clear hkk
  generalize w.alloc (.cells #[.int .i64 d.kind, .int .i64 d.cell.term, .int .i64 d.cell.vote, .int .i64 d.cell.applied, .int .i64 d.cell.active, .int .i64 d.a, .slice E n c] 40) = w1 at *
  generalize w.heap.size = X at *
  go_upto_region 9 with fail
  have hd0 : Since w1 w1.drew := (Below.refl w1.heap.size w1).drew
  have H1 := Lib.hid (H0.out.call hd0)
  clear hd0 H0
  refine WL.region (SApp 99 (fun _ => True) (fun w' => w'.cell? ⟨X, 5, none⟩ = some (.int .i64 d.a) ∧ w'.cell? ⟨G, 4, none⟩ = some (.slice A st.l.length cM))) (by kernel_rfl) ?_
  intro hsh
  have hS : SApp 99 (fun _ => True) (fun w' => w'.cell? ⟨X, 5, none⟩ = some (.int .i64 d.a) ∧ w'.cell? ⟨G, 4, none⟩ = some (.slice A st.l.length cM)) (Array.replicate 11 false) w1.drew := ⟨fun _ => trivial, H1.out.bank.cell 0 rfl 5 rfl, HGC.out _ (H1.out.bank.sub (.cons _ (List.Sublist.refl _)))⟩
  refine WL.take (i := 0) (v := ?_) (S0 := fun _ => True) rfl (by kernel_rfl) (by kernel_rfl) (by kernel_rfl) (fun _ _ _ h => h) (SApp.hm (by decide)) (SApp.any) hsh (Or.inl ⟨by rfl, ?_⟩) hS ?_
  rotate_left
  · intro w hSw; clear hSw; go_simp <;> rfl
  clear hsh hS; intro hsh hS
  try simp only [Act.put, List.setIfInBounds_toArray]
  refine WL.take (i := 1) (v := ?_) rfl (by kernel_rfl) (by kernel_rfl) (by kernel_rfl) (fun _ _ _ h => h) (SApp.hm (by decide)) (SApp.right) hsh (Or.inl ⟨by rfl, ?_⟩) hS ?_
  rotate_left
  · intro w hSw; obtain ⟨cx, cg⟩ := hSw; go_simp <;> rfl
  clear hsh hS; intro hsh hS
  try simp only [Act.put]
  refine WL.take (i := 2) (v := ?_) (S0 := fun _ => True) rfl (by kernel_rfl) (by kernel_rfl) (by kernel_rfl) (fun _ _ _ h => h) (SApp.hm (by decide)) (SApp.any) hsh (Or.inl ⟨by rfl, ?_⟩) hS ?_
  rotate_left
  · intro w hSw; clear hSw; go_simp <;> rfl
  clear hsh hS; intro hsh hS
  try simp only [Act.put]
  refine WL.take (i := 3) (v := ?_) (S0 := fun _ => True) rfl (by kernel_rfl) (by kernel_rfl) (by kernel_rfl) (fun _ _ _ h => h) (SApp.hm (by decide)) (SApp.any) hsh (Or.inl ⟨by rfl, ?_⟩) hS ?_
  rotate_left
  · intro w hSw; clear hSw; go_simp <;> rfl
  clear hsh hS; intro hsh hS
  try simp only [Act.put]
  refine WL.take (i := 4) (v := ?_) (S0 := fun _ => True) rfl (by kernel_rfl) (by kernel_rfl) (by kernel_rfl) (fun _ _ _ h => h) (SApp.hm (by decide)) (SApp.any) hsh (Or.inl ⟨by rfl, ?_⟩) hS ?_
  rotate_left
  · intro w hSw; clear hSw; go_simp <;> rfl
  clear hsh hS; intro hsh hS
  try simp only [Act.put]
  refine WL.take (i := 5) (v := ?_) rfl (by kernel_rfl) (by kernel_rfl) (by kernel_rfl) (fun _ _ _ h => h) (SApp.hm (by decide)) (SApp.right) hsh (Or.inl ⟨by rfl, ?_⟩) hS ?_
  rotate_left
  · intro w hSw; obtain ⟨cx, cg⟩ := hSw; go_simp <;> rfl
  clear hsh hS; intro hsh hS
  try simp only [Act.put]
  refine WL.take (i := 6) (v := ?_) (S0 := fun _ => True) rfl (by kernel_rfl) (by kernel_rfl) (by kernel_rfl) (fun _ _ _ h => h) (SApp.hm (by decide)) (SApp.any) hsh (Or.inl ⟨by rfl, ?_⟩) hS ?_
  rotate_left
  · intro w hSw; clear hSw; go_simp <;> rfl
  clear hsh hS; intro hsh hS
  try simp only [Act.put]
  refine WL.take (i := 7) (v := ?_) (S0 := fun _ => True) rfl (by kernel_rfl) (by kernel_rfl) (by kernel_rfl) (fun _ _ _ h => h) (SApp.hm (by decide)) (SApp.any) hsh (Or.inl ⟨by rfl, ?_⟩) hS ?_
  rotate_left
  · intro w hSw; clear hSw; go_simp <;> rfl
  clear hsh hS; intro hsh hS
  try simp only [Act.put]
  have HSH := Lib.hid hsh
  clear hsh hS
  refine WL.one (i := 8) HSH.out (by kernel_rfl) rfl ?_
  intro K hK
  have HK := Lib.hid hK
  clear hK
  go_simp
  refine (Pick_any d.a ((st.l.length : Int) + 4) _ (by omega) (by omega)).mono ?_
  rintro e w' ⟨rfl, rfl⟩
  obtain ⟨q9, hq9⟩ : ∃ q9, q9 = pick d.a ((st.l.length : Int) + 4) := ⟨_, rfl⟩
  have HAT := Lib.hid (show dAt st d = q9 - 1 by rw [hq9]; rfl)
  rw [← hq9] at hlo hhi ⊢
  clear hq9
  refine HK.out _ _ (SApp.intro (fun _ => trivial) ⟨H1.out.bank.cell 0 rfl 5 rfl, HGC.out _ (H1.out.bank.sub (.cons _ (List.Sublist.refl _)))⟩) ?_
  clear K HK HSH
  intro hsh hS
  try simp only [Act.put, List.setIfInBounds_toArray, List.set_cons_zero, List.set_cons_succ]
  have hwq : IntKind.i64.wrap (q9 - 1) = q9 - 1 := IntWalk.i64_in _ (by omega)
  refine WL.take (i := 9) (v := ?_) (S0 := fun _ => True) rfl (by kernel_rfl) (by kernel_rfl) (by kernel_rfl) (fun _ _ _ h => h) (SApp.hm (by decide)) (SApp.any) hsh (Or.inl ⟨by rfl, ?_⟩) hS ?_
  rotate_left
  · intro w hSw; clear hSw; go_simp <;> rfl
  clear hsh hS; intro hsh hS
  try simp only [Act.put, List.setIfInBounds_toArray]
  have HSH := Lib.hid hsh
  clear hsh hS
  refine WL.one (i := 10) HSH.out (by kernel_rfl) rfl ?_
  intro K hK
  have HK := Lib.hid hK
  clear hK
  go_simp
  refine HK.out _ _ (SApp.intro (fun _ => trivial) ⟨H1.out.bank.cell 0 rfl 5 rfl, HGC.out _ (H1.out.bank.sub (.cons _ (List.Sublist.refl _)))⟩) ?_
  clear K HK HSH
  intro _ _
  try simp only [Act.put, List.setIfInBounds_toArray, List.set_cons_zero, List.set_cons_succ]
  refine WL.done (by kernel_rfl) ?_ _
  simp only [Exit.then]
  generalize w1.drew = w2 at *
  obtain ⟨i, hi⟩ : ∃ i, i = q9 - 1 := ⟨_, rfl⟩
  rw [← hi] at HAT hwq ⊢
  have hilo : -1 ≤ i := by omega
  have hihi : i ≤ (st.l.length : Int) + 2 := by omega
  clear hi hlo hhi hwl
  have x6 := H1.out.bank.cell 0 rfl 6 rfl
  obtain ⟨q, hq⟩ : ∃ q : Int, q = if 1 ≤ i ∧ i ≤ (st.l.length : Int) + 1 then 0 else 2 := ⟨_, rfl⟩
  obtain ⟨gs, hgs⟩ : ∃ gs : List F.Fr, gs = if 1 ≤ i ∧ i ≤ (st.l.length : Int) + 1 then S.puts i d.es else [] := ⟨_, rfl⟩
  obtain ⟨st', hst⟩ : ∃ st' : S.St, st' = if 1 ≤ i ∧ i ≤ (st.l.length : Int) + 1 then grewS st i d.es else st := ⟨_, rfl⟩
  have HQ := Lib.hid hq; have HGS := Lib.hid hgs; have HST := Lib.hid hst
  have HDF := Lib.hid (show dFr st d = gs by rw [dFr, if_neg HP0.out, if_neg HP3.out, HAT.out, hgs])
  have HDS := Lib.hid (show dSt st d = st' by rw [dSt, if_neg HP0.out, if_neg HP3.out, HAT.out, hst])
  have HDZ := Lib.hid (show dSf fs sf d = sf from if_neg HP3.out)
  have HMA := Lib.hid (rMayApp_any G st.c A st.l.length cM i E n c d.es w2 (HGC.out _ (H1.out.bank.sub (.cons _ (List.Sublist.refl _)))) (by omega) HEL.out (HE.out.since H1.out.since) (by omega) (fun e he => by have := HSM.out e he; omega) HOK.out)
  rw [← hq] at HMA
  clear hq hgs hst HAT
  go_wp2_with fail
  clear x6
  refine HMA.out.mono ?_
  rintro e w3 ⟨rfl, hs⟩
  have H3 := Lib.hid (H1.out.call hs)
  clear hs H1 HMA
  have x6 := H3.out.bank.cell 0 rfl 6 rfl
  go_wp2_with fail
  clear x6
  refine (LentEntriesD_any E n c d.es w3 HEL.out (HE.out.since H3.out.since) (by omega) (fun e he => by have := HSM.out e he; omega)).mono ?_
  rintro e w4 ⟨g, dd, rfl, hg, hat, hrows, hap, hs⟩
  have HLA := Lib.hid (LentAt.mk hg hat hrows hap : LentAt w3 w4 n d.es g dd)
  have hlb : Bank w3 w4 (lentA g dd n d.es) := lent_bank HLA.out hs (by omega) (fun j hj => by
    have hjl : j < d.es.length := by rw [HEL.out]; exact hj
    have h1 := HSM.out d.es[j] (List.getElem_mem hjl)
    show (lentL' d.es j).length ≤ _
    unfold lentL'
    rw [List.length_append, List.getD_eq_getElem?_getD, List.getElem?_eq_getElem hjl, Option.getD_some]
    have h2 : (marks 1 0 12).length = 12 := rfl
    omega)
  have H4 := Lib.hid (H3.out.add hlb)
  have HRE := Lib.hid (LentD.rd (w0 := w3) (w := w4) ⟨HLA.out.base, HLA.out.at', HLA.out.rows⟩ HEL.out)
  clear hg hat hrows hap hs hlb H3
  have HAP : Hid (Calls Tryz.prog 19 #[.pointer (some ⟨Z, 0, none⟩), .int .i64 i, .slice (some ⟨g, 0, none⟩) n (n + 12)] w4 fun e w' => e = .returned (.int .i64 q) ∧ LS w0 w' D R 1048576 (fs ++ gs) sf Z st' (lentA g dd n d.es ++ ([boxAcc X 40 [.int .i64 d.kind, .int .i64 d.cell.term, .int .i64 d.cell.vote, .int .i64 d.cell.applied, .int .i64 d.cell.active, .int .i64 d.a, .slice E n c]] ++ L))) := Lib.hid (by
    refine (appL w0 w4 D R 1048576 fs sf Z st _ i (some ⟨g, 0, none⟩) n (n + 12) d.es H4.out HEL.out HRE.out HOK.out (fun e he => by have := HSM.out e he; omega) (by have := puts_bytes d.es i; have := HEC.out; omega) (by omega) (by omega)).mono ?_
    rintro e w5 (⟨k1, rfl, k3⟩ | ⟨k1, rfl, k3⟩)
    · have hno : ¬ (1 ≤ i ∧ i ≤ (st.l.length : Int) + 1) := by omega
      rw [HQ.out, HGS.out, HST.out, if_neg hno, if_neg hno, if_neg hno, List.append_nil]
      exact ⟨rfl, k3⟩
    · rw [HQ.out, HGS.out, HST.out, if_pos k1, if_pos k1, if_pos k1]
      exact ⟨rfl, k3⟩)
  clear HRE H4
  go_wp2_with fail
  refine HAP.out.mono ?_
  rintro e w5 ⟨rfl, h5⟩
  have H5 := Lib.hid h5
  have x6 := (h5.bank.sub (List.sublist_append_right _ _)).cell 0 rfl 6 rfl
  have LA5 := Lib.hid (lent_at' HLA.out h5.bank (fun p hp => List.mem_append_left _ hp))
  clear h5 HAP
  go_wp2_with fail
  clear x6
  refine (KeptEntries_any g dd E n c d.es w5 LA5.out.at' (fun j hj => (LA5.out.rows j hj).2) HEL.out (HE.out.since H5.out.since) (by omega) (fun e he => by have := HSM.out e he; omega)).mono ?_
  rintro e w6 ⟨rfl, hs⟩
  have H6 := Lib.hid (H5.out.call hs)
  have LA6 := Lib.hid (lent_at' HLA.out H6.out.bank (fun p hp => List.mem_append_left _ hp))
  clear hs H5 LA5
  go_wp2_with fail
  refine (OverEntries_any g n dd d.es w6 LA6.out.at' (fun j hj => (LA6.out.rows j hj).2) LA6.out.apart HEL.out (by omega) (fun e he => by have := HSM.out e he; omega)).mono ?_
  rintro e w7 ⟨rfl, ho⟩
  have H7 := Lib.hid (ls_over H6.out ho)
  clear ho H6 LA6 HLA
  have X6 := Lib.hid (H7.out.bank.cell 0 rfl 6 rfl)
  have HB7 := Lib.hid (show Bank w7 w7 (FrL none 0 [] []) from (Bank.nil (Below.refl w7.heap.size w7)).none _ _)
  by_cases hin : 1 ≤ i ∧ i ≤ (st.l.length : Int) + 1
  rotate_left
  · obtain rfl : q = 2 := by rw [HQ.out, if_neg hin]
    have HG0 := Lib.hid (show gs = [] by rw [HGS.out, if_neg hin])
    go_wp2_with fail
    go_loopw [13, 14] (fun v j wr => v = .slice none 0 0 ∧ j = .int .i64 0 ∧ wr = w7) (fun _ _ _ => 0)
    case atStart => exact ⟨rfl, rfl, rfl⟩
    case round =>
      obtain ⟨rfl, rfl, rfl⟩ := hrel
      have HFIN := Lib.hid (show DoneP w0 D R Z fs sf st d L (.returned (.tuple #[.slice none 0 0, .bool true])) wr from ⟨none, 0, [], rfl, by rw [HDF.out, HG0.out]; rfl, (fun _ hp => by cases hp), by
        rw [HDF.out, HDS.out, HDZ.out]
        exact ls_nilF (H7.out.sub (.cons _ (List.Sublist.refl _)))⟩)
      have x6 := X6.out
      rcases Nat.lt_or_ge 0 n with h1 | h1
      · have i1 : (0 : Int) < (n : Int) := by omega
        go_wp2_with fail
        go_ret2
        exact HFIN.out
      · have i1 : ¬ (0 : Int) < (n : Int) := by omega
        go_wp2_with fail
        go_ret2
        exact HFIN.out
  obtain rfl : q = 0 := by rw [HQ.out, if_pos hin]
  have HG0 := Lib.hid (show gs = S.puts i d.es by rw [HGS.out, if_pos hin])
  go_wp2_with fail
  go_loopw [13, 14] (fun v j wr => ∃ (k : Nat) (Fa : Option Addr) (cF : Nat) (ps : List FR), k ≤ n ∧ j = .int .i64 (k : Int) ∧ v = .slice Fa ps.length cF ∧ ps.map FR.fr = S.puts i (d.es.take k) ∧ (∀ p ∈ ps, M.inI64 p.k) ∧ Bank w7 wr (FrL Fa cF ps [])) (fun _ j _ => n - (intOf j).toNat)
  case atStart => exact ⟨0, none, 0, [], by omega, rfl, rfl, rfl, (fun _ hp => by cases hp), HB7.out⟩
  case round =>
    clear HB7
    obtain ⟨k, Fa, cF, ps, hk, rfl, rfl, hmap, hin2, hB⟩ := hrel
    have HB := Lib.hid hB; have HM := Lib.hid hmap; have HI2 := Lib.hid hin2
    have k0 : (0 : Int) ≤ (k : Int) := by omega
    have hpl : ps.length = k := by
      have h1 := congrArg List.length hmap
      rw [List.length_map, S.puts_length, List.length_take, HEL.out] at h1
      omega
    have hple : ps.length ≤ n := by omega
    clear hpl
    have x6 := cell_since hB.since X6.out
    rcases Nat.lt_or_ge k n with h1 | h1
    · have i1 : (k : Int) < (n : Int) := by omega
      have hkl : k < d.es.length := by rw [HEL.out]; exact h1
      obtain ⟨b, ob, rfl, A', m', c2, ⟨y0, y1, y2, y3, y4, y5⟩, hrd⟩ := HE.out.since (H7.out.since.add hB.since) k hkl
      obtain ⟨x, hx⟩ : ∃ x, x = d.es[k] := ⟨_, rfl⟩
      have hxm : x ∈ d.es := by rw [hx]; exact List.getElem_mem hkl
      rw [← hx] at y0 y1 y2 y3 y4 hrd
      have hml : x.data.length = m' := hrd.len
      have hwk : IntKind.i64.wrap (i + (k : Int)) = i + (k : Int) := IntWalk.i64_in _ (by omega)
      have HNX := Lib.hid (show S.puts i (d.es.take (k + 1)) = S.puts i (d.es.take k) ++ [S.put (i + k) x] by rw [puts_take i d.es k hkl, hx])
      have HPT := Lib.hid (rPut22_any (i + (k : Int)) x A' m' c2 wr hrd (by have := HSM.out x hxm; omega))
      clear hx hxm hrd hml hB hmap hin2
      go_wp2_with fail
      clear y0 y1 y2 y3 y4 y5 x6
      refine HPT.out.mono ?_
      rintro e w8 ⟨A8, n8, c8, rfl, hn8, hB8⟩
      have BK8 : Hid (Bank w7 _ (rowAcc A8 n8 c8 (S.edata (i + (k : Int)) x) :: frmAcc Fa cF ps :: (ps.reverse.map FR.acc ++ []))) := Lib.hid ((bank_underS HB.out hB8).alloc (.cells #[.int .i64 2, .slice A8 n8 c8] 49))
      clear hB8 hn8 HB HPT
      go_wp2_with (at_builtin; go_loud (refine wpList_append_bankG (BK8.out.alloc _) rfl _ _ 42 rfl 49 _ 2 32 infoFrameR3 Tryz.underlying42 rfl (by decide) 1 _ _ _ (ps.flatMap FR.cells) rfl rfl ⟨w8.heap.size + 1, 0, none⟩ 1 1 [.int .i64 2, .slice A8 n8 c8] rfl rfl (cells_litE2 w8 _ [.int .i64 2, .slice A8 n8 c8] _) (by intro v hv; simp at hv; rcases hv with rfl | rfl <;> rfl) (by unfold maxLen; omega) (by omega) ?_; intro A3 n3 c3 w9 hn3 hB3 hg3 ho3; dsimp only [List.set] at hB3; have HB3 := Lib.hid hB3; have HN3 := Lib.hid hn3; clear hn3 hB3 hg3 ho3))
      go_roundw
      case rel =>
        have hn3 := HN3.out
        subst hn3
        refine ⟨k + 1, A3, c3, ps ++ [⟨2, ⟨A8, n8, c8⟩, S.edata (i + k) x⟩], by omega, by go_num, by rw [List.length_append]; rfl, ?_, ?_, ?_⟩
        · rw [HNX.out, List.map_append, HM.out]; rfl
        · intro p hp
          rcases List.mem_append.1 hp with hp | hp
          · exact HI2.out p hp
          · rw [List.mem_singleton.1 hp]
            exact (show M.inI64 2 from ⟨by decide, by decide⟩)
        · rw [FrL.snoc]
          exact HB3.out.swap
      case measure => simp [intOf]; omega
    · have i1 : ¬ (k : Int) < (n : Int) := by omega
      obtain rfl : k = n := by omega
      have HFIN := Lib.hid (show DoneP w0 D R Z fs sf st d L (.returned (.tuple #[.slice Fa ps.length cF, .bool true])) wr from ⟨Fa, cF, ps, rfl, by
        rw [HDF.out, HG0.out, hmap, List.take_of_length_le (by rw [HEL.out]; omega)], hin2, by
        rw [HDF.out, HDS.out, HDZ.out]
        refine (H7.out.add hB).sub ?_
        show (frmAcc Fa cF ps :: (ps.reverse.map FR.acc ++ L)).Sublist ((frmAcc Fa cF ps :: (ps.reverse.map FR.acc ++ [])) ++ ([boxAcc X 40 [.int .i64 d.kind, .int .i64 d.cell.term, .int .i64 d.cell.vote, .int .i64 d.cell.applied, .int .i64 d.cell.active, .int .i64 d.a, .slice E k c]] ++ L))
        rw [List.append_nil, List.cons_append]
        exact .cons_cons _ ((List.Sublist.refl _).append (.cons _ (List.Sublist.refl _)))⟩)
      clear hB hmap hin2
      go_wp2_with fail
      go_ret2
      exact HFIN.out
end Go.Proofs.YtfpjmeknjhhakaaGreat.K

/- The law's do, whatever the deed; and what a deed makes. -/
namespace Go.Proofs.YtfpjmeknjhhakaaGreat.K
open Go Go.RowKit Go.Maps

theorem grewS_app {st : S.St} {i : Int} {es : List M.Ent} (hi : 1 ≤ i ∧ i ≤ (st.l.length : Int) + 1) (hok : ∀ e ∈ es, e.Ok) (hl : st.l.length + es.length ≤ 1000000) : S.sdos st (S.puts i es) = some (grewS st i es) := by
  have hidx : i = (i.toNat : Int) := by omega
  have h1 := S.sdos_puts es hok st i.toNat (by omega) (by omega) (by omega)
  rw [← hidx] at h1
  rw [h1, grewS]
  split
  · rfl
  · rw [show (i - 1).toNat = i.toNat - 1 by omega]
theorem dFr_does {st : S.St} {d : Deed} (hok : ∀ e ∈ d.es, e.Ok) (hl : st.l.length + d.es.length ≤ 1000000) : S.sdos st (dFr st d) = some (dSt st d) := by
  unfold dFr dSt
  split
  · split
    · rename_i h
      show (S.sdo st (S.kept d.cell)).bind _ = _
      rw [S.sdo_kept st d.cell h]
      rfl
    · rfl
  · split
    · rfl
    · split
      · rename_i h
        exact grewS_app h hok hl
      · rfl
theorem Good.deed {fs : List F.Fr} {st : S.St} {c k : Nat} (h : Good fs st c k) (d : Deed) (hok : ∀ e ∈ d.es, e.Ok) (he : ecost d.es ≤ 6000) (hc : c ≤ 100000) : Good (fs ++ dFr st d) (dSt st d) (c + ecost d.es) (k + 1) := by
  unfold dFr dSt
  split
  · split
    · rename_i hm
      exact (h.keep d.cell hm).more (by omega) (Nat.le_refl _)
    · rw [List.append_nil]
      exact h.more (by omega) (by omega)
  · split
    · rw [List.append_nil]
      exact h.more (by omega) (by omega)
    · split
      · rename_i hi
        exact (h.app _ d.es hi hok he hc).more (Nat.le_refl _) (by omega)
      · rw [List.append_nil]
        exact h.more (by omega) (by omega)
theorem dFr_perr {fs : List F.Fr} {st : S.St} {c k : Nat} {d : Deed} (h : Good (fs ++ dFr st d) (dSt st d) c k) : F.perr (dFr st d) = 0 := (F.perr_zero _).2 fun f hf => (F.perr_zero _).1 h.err f (List.mem_append_right _ hf)
/-- whatever the deed -/
theorem doing_any (w0 w : World) (D R Z G : Nat) (fs : List F.Fr) (sf : Nat) (st : S.St) (d : Deed) (E : Option Addr) (n c : Nat) (A : Option Addr) (cM : Nat) (L : List Acc) (h : LS w0 w D R 1048576 fs sf Z st L) (hG : ∀ w', Bank w0 w' L → w'.cell? ⟨G, 4, none⟩ = some (.slice A st.l.length cM))
    (hE : EntsRd w0 E d.es) (hEl : d.es.length = n) (hok : ∀ e ∈ d.es, e.Ok) (hec : ecost d.es ≤ 6000) (hb : (F.pbytes fs).length ≤ 1000000) (hx : st.l.length ≤ 600000) :
    Calls Tryz.prog 10 #[.pointer (some ⟨Z, 0, none⟩), .pointer (some ⟨G, 0, none⟩), .agg #[.int .i64 d.kind, .int .i64 d.cell.term, .int .i64 d.cell.vote, .int .i64 d.cell.applied, .int .i64 d.cell.active, .int .i64 d.a, .slice E n c]] w (DoneP w0 D R Z fs sf st d L) := by
  by_cases h0 : pick d.kind 4 = 0
  · exact do_keep w0 w D R Z G fs sf st d E n c L h h0 hb (by omega)
  · by_cases h3 : pick d.kind 4 = 3
    · exact do_sync w0 w D R Z G fs sf st d E n c L h h3
    · exact do_app w0 w D R Z G fs sf st d E n c A cM L h hG h0 h3 hE hEl hok hec hb hx
end Go.Proofs.YtfpjmeknjhhakaaGreat.K

/- A disk and its store, ahead of a box or a row that the law writes. -/
namespace Go.Proofs.YtfpjmeknjhhakaaGreat.K
open Go Go.RowKit Go.Maps

section
variable {w0 w w' : World} {D R : Nat} {room : Int} {fs : List F.Fr} {sf Z : Nat} {st : S.St} {L : List Acc}
theorem stl_head (p : Acc) (Z2 D2 : Nat) (c2 : S.Cl) (A2 : Option Addr) (cE2 : Nat) (xs2 : List EV) : (StL Z2 D2 c2 A2 cE2 xs2 (p :: L)).Perm (p :: StL Z2 D2 c2 A2 cE2 xs2 L) := by
  show (([stAcc Z2 D2 c2 A2 xs2.length cE2, evsAcc A2 xs2.length cE2 xs2] ++ evRows xs2) ++ (p :: L)).Perm (p :: (([stAcc Z2 D2 c2 A2 xs2.length cE2, evsAcc A2 xs2.length cE2 xs2] ++ evRows xs2) ++ L))
  exact List.perm_middle
/-- a box ahead of the rest is written -/
theorem LS.boxSet0 {g : Nat} {t : TypeId} {vs : List Value} (h : LS w0 w D R room fs sf Z st (boxAcc g t vs :: L)) (j : Nat) (v : Value) : LS w0 (w.setCell ⟨g, j, Option.none⟩ v) D R room fs sf Z st (boxAcc g t (vs.set j v) :: L) := by
  obtain ⟨o, A, cE, xs, h1, h2, h3⟩ := h
  refine ⟨o, A, cE, xs, h1, ?_, h3⟩
  have h4 := Dk.perm (show Dk w0 w D R room o _ from h2) (stl_head _ Z D st.c A cE xs)
  exact Dk.perm (h4.boxSet 0 rfl j v) (stl_head _ Z D st.c A cE xs).symm
/-- bytes put behind a row ahead of the rest -/
theorem wpList_append_ls {P : Program} {ops : Array Oper} {rest : List Oper} {o : Oper} {a : Act} {Q : Exit → Act → World → Prop} {A : Option Addr} {n cap : Nat} {bs : List (BitVec 8)} (h : LS w0 w D R room fs sf Z st (rowAcc A n cap bs :: L)) (hgd : o.guard = Option.none) (s y : Operand) (t : TypeId)
    (ho : o.op = .call { callee := .builtin .append, args := #[s, y], argTypes := #[t, t] })
    (hz : (P.info? 5).map (fun i => (i.zero, i.size, i.bytes)) = some (some (.int .u8 0), 1, 1)) (ht : P.underlying t = some (.slice 5)) (hs : a.eval s = .slice A n cap)
    (ao : Option Addr) (m c : Nat) (news : List (BitVec 8)) (hx : a.eval y = .slice ao m c) (hr : RowRd w ⟨ao, m, c⟩ news) (hb : n + m ≤ 140737488355328)
    (hK : ∀ A' n' c' w', n' = n + m → LS w0 w' D R room fs sf Z st (rowAcc A' n' c' (bs ++ news) :: L) → wpList P ops Q rest (a.put o.dst (.slice A' n' c')) w') : wpList P ops Q (o :: rest) a w := by
  obtain ⟨o2, A2, cE, xs, h1, h2, h3⟩ := h
  have h4 : Side w0 w R (mapObj o2) (rowAcc A n cap bs :: (dAcc D R room :: (filAccs o2 ++ StL Z D st.c A2 cE xs L))) := (Dk.perm (show Dk w0 w D R room o2 _ from h2) (stl_head _ Z D st.c A2 cE xs)).side.perm (by
    show (([dAcc D R room] ++ filAccs o2) ++ (rowAcc A n cap bs :: StL Z D st.c A2 cE xs L)).Perm (rowAcc A n cap bs :: (([dAcc D R room] ++ filAccs o2) ++ StL Z D st.c A2 cE xs L))
    exact List.perm_middle)
  refine wpList_append_side h4 hgd s y t ho hz ht 0 A n cap bs hs rfl ao m c news hx hr hb fun A' n' c' w' hn hS => hK A' n' c' w' hn ⟨o2, A2, cE, xs, h1, ?_, h3⟩
  have h5 : Dk w0 w' D R room o2 (rowAcc A' n' c' (bs ++ news) :: StL Z D st.c A2 cE xs L) := Side.perm hS (by
    show (rowAcc A' n' c' (bs ++ news) :: (([dAcc D R room] ++ filAccs o2) ++ StL Z D st.c A2 cE xs L)).Perm (([dAcc D R room] ++ filAccs o2) ++ (rowAcc A' n' c' (bs ++ news) :: StL Z D st.c A2 cE xs L))
    exact List.perm_middle.symm)
  exact Dk.perm h5 (stl_head _ Z D st.c A2 cE xs).symm
end
/-- the file's bytes are read, the store stands -/
theorem readLS (w0 w : World) (D R : Nat) (room : Int) (fs : List F.Fr) (sf Z : Nat) (st : S.St) (L : List Acc) (h : LS w0 w D R room fs sf Z st L) (hn : (F.pbytes fs).length ≤ 100000000) :
    Calls Tryz.prog 13 #[.pointer (some ⟨D, 0, none⟩), .string storeS] w fun e w' => ∃ A n c k, e = .returned (.tuple #[.slice A n c, .int .i64 k]) ∧ LS w0 w' D R room fs sf Z st (rowAcc A n c (F.pbytes fs) :: L) := by
  obtain ⟨o, A2, cE, xs, h1, h2, h3, h4, h5, h6⟩ := h
  refine (readD w0 w D R room (F.pbytes fs) sf (StL Z D st.c A2 cE xs L) ⟨o, h2, h3, h4, h5, h6⟩ hn).mono ?_
  rintro e w' ⟨A, n, c, k, he, o', k1, k2, k3, k4, k5⟩
  exact ⟨A, n, c, k, he, o', A2, cE, xs, h1, Dk.perm k1 (stl_head _ Z D st.c A2 cE xs).symm, k2, k3, k4, k5⟩
end Go.Proofs.YtfpjmeknjhhakaaGreat.K

/- Deeds that came in, out of the statement's own reading of the arguments. -/
namespace Go.Proofs.YtfpjmeknjhhakaaGreat.K
open Go Go.RowKit Go.ChangeShapes Go.WideShapes Go.Deep

set_option maxRecDepth 100000
theorem cellsDeed : Tryz.prog.cellsOf 40 = 7 := by kernel_rfl
theorem cellsSCell : Tryz.prog.cellsOf 38 = 4 := by kernel_rfl
theorem cellsEnts : Tryz.prog.cellsOf 34 = 1 := by kernel_rfl
theorem bytesOfEnt : Tryz.prog.bytesOf 62 = 64 := by kernel_rfl
theorem Ents.rd {W : World} {A : Option Addr} {es : List M.Ent} (h : Ents W A es) : EntsRd W A es := fun i hi => by
  obtain ⟨b, o, e, A', n, c, hc, _, _, _, hr, _⟩ := h i hi
  exact ⟨b, o, e, A', n, c, ⟨hc 0 _ rfl, hc 1 _ rfl, hc 2 _ rfl, hc 3 _ rfl, hc 4 _ rfl, hc 5 _ rfl⟩, hr⟩
theorem Ents.data {W : World} {A : Option Addr} {es : List M.Ent} (h : Ents W A es) : ∀ e ∈ es, e.data.length ≤ 9223372036854775807 := fun e he => by
  obtain ⟨i, hi, rfl⟩ := List.mem_iff_getElem.1 he
  obtain ⟨b, o, e, A', n, c, hc, _, _, _, hr, h1, h2⟩ := h i hi
  have : es[i].data.length = n := hr.len
  omega
theorem Ents.ok {W : World} {A : Option Addr} {es : List M.Ent} (h : Ents W A es) (hd : ∀ e ∈ es, e.data.length ≤ 1000000000000) : ∀ e ∈ es, e.Ok := fun e he => by
  have hd' := hd e he
  obtain ⟨i, hi, rfl⟩ := List.mem_iff_getElem.1 he
  obtain ⟨b, o, e, A', n, c, hc, h1, h2, h3, hr, _⟩ := h i hi
  exact ⟨h1, h2, h3, hd'⟩
section
variable {H : Type} {enc : TypeId × Value → H} {W : World} {base b0 : Nat} {sp : Nat → Bool} {held : Bool} {r : Reach}
theorem cs_entriesW {fuel : Nat} {v : Value} {x : DataW H × List MemPlace} (h : DataW.trod enc Tryz.prog W base sp held fuel 34 [v] = some x) :
    ∃ A n c es, v = .slice A n c ∧ Ents W A es ∧ es.length = n ∧ (A = none → c = 0) ∧ n ≤ c ∧ c ≤ 9223372036854775807 ∧ ((∀ z ∈ x.1.weights Tryz.prog 34, z ≤ reachBytes) → n ≤ 2199023255488) := by
  rcases open_slice Tryz.underlying34 h with ⟨hcs, _⟩ | ⟨a, l, cap, m, n, D, Pl, hcs, hb, hl, hm, hmm, hx, hi⟩
  · obtain rfl : v = .slice none 0 0 := by simpa using hcs
    exact ⟨none, 0, 0, [], rfl, fun i hi => absurd hi (Nat.not_lt_zero _), rfl, fun _ => rfl, by omega, by omega, fun _ => by omega⟩
  · obtain rfl : v = .slice (some a) l cap := by simpa using hcs
    unfold maxLen at hm
    have hlm : l ≤ m := by split at hmm <;> omega
    rw [cellsEnt] at hi
    have hev : ∀ i : Nat, ∃ e : M.Ent, i < l → ∃ b o, a = ⟨b, o, none⟩ ∧ EntAt W b (o + i * 6) e := by
      intro i
      by_cases hil : i < l
      · obtain ⟨cs', hc, ht⟩ := hi i (by omega)
        obtain ⟨e, A, n2, c2, rfl, hr⟩ := cs_entry ht
        obtain ⟨_, _, hat⟩ := World.cells?_some hc
        obtain ⟨b, o, s⟩ := a
        obtain ⟨cs0, hc0, ht0⟩ := hi 0 (by omega)
        obtain ⟨_, _, _, _, rfl, _⟩ := cs_entry ht0
        obtain ⟨_, _, hat0⟩ := World.cells?_some hc0
        have hs : s = none := by simpa [Addr.add] using World.cell?_spot ((hat0 0 (by omega)).trans rfl)
        subst hs
        refine ⟨e, fun _ => ⟨b, o, rfl, A, n2, c2, fun j u hu => ?_, hr⟩⟩
        have hj : j < 6 := (List.getElem?_eq_some_iff.1 hu).1
        have h1 := hat j hj
        rw [hu, Addr.add_lit, Addr.add_lit] at h1
        exact h1
      · exact ⟨M.zeroEnt, fun h => absurd h hil⟩
    obtain ⟨f, hf⟩ := Classical.axiomOfChoice hev
    refine ⟨_, _, _, (List.range l).map f, rfl, fun i hi2 => ?_, by simp, (fun h => by cases h), hl, hm, fun hw => ?_⟩
    · have hil : i < l := by simpa using hi2
      obtain ⟨b, o, rfl, he⟩ := hf i hil
      exact ⟨b, o, rfl, by simpa using he⟩
    · have hdx : x.1 = .slice ((List.range l).map D) ((List.range (m - l)).map fun j => D (l + j)) := congrArg Prod.fst hx
      have hu := Tryz.underlying34
      have := hw (m * Tryz.prog.bytesOf 62) (by rw [hdx]; simp only [DataW.weights, hu, List.mem_cons, List.length_map, List.length_range]; left; congr 1; omega)
      rw [bytesOfEnt] at this
      unfold reachBytes at this
      omega
/-- its numbers are int's -/
def Deed.In (d : Deed) : Prop := M.inI64 d.kind ∧ M.inI64 d.cell.term ∧ M.inI64 d.cell.vote ∧ M.inI64 d.cell.applied ∧ M.inI64 d.cell.active ∧ M.inI64 d.a
/-- cells of a deed -/
def deedL (d : Deed) (A : Option Addr) (n c : Nat) : List Value := [.int .i64 d.kind, .int .i64 d.cell.term, .int .i64 d.cell.vote, .int .i64 d.cell.applied, .int .i64 d.cell.active, .int .i64 d.a, .slice A n c]
theorem cs_cell {fuel : Nat} {cs : List Value} {x : DataW H × List MemPlace} (h : DataW.trod enc Tryz.prog W base sp held fuel 38 cs = some x) :
    ∃ c : S.Cl, cs = [.int .i64 c.term, .int .i64 c.vote, .int .i64 c.applied, .int .i64 c.active] ∧ M.inI64 c.term ∧ M.inI64 c.vote ∧ M.inI64 c.applied ∧ M.inI64 c.active := by
  obtain ⟨xs, f, _, hx, hlen, hxl, hf⟩ := DataW.trod_struct Tryz.underlying38 h
  rw [cellsSCell] at hlen
  match cs, hlen with
  | [c0, c1, c2, c3], _ =>
    match xs, hxl with
    | [y0, y1, y2, y3], _ =>
      have f0 : DataW.trod enc Tryz.prog W base sp held f 3 [c0] = some y0 := by simpa [cellsInt] using hf 0 _ rfl
      have f1 : DataW.trod enc Tryz.prog W base sp held f 3 [c1] = some y1 := by simpa [cellsInt] using hf 1 _ rfl
      have f2 : DataW.trod enc Tryz.prog W base sp held f 3 [c2] = some y2 := by simpa [cellsInt] using hf 2 _ rfl
      have f3 : DataW.trod enc Tryz.prog W base sp held f 3 [c3] = some y3 := by simpa [cellsInt] using hf 3 _ rfl
      obtain ⟨n0, rfl, h0⟩ := cs_int f0
      obtain ⟨n1, rfl, h1⟩ := cs_int f1
      obtain ⟨n2, rfl, h2⟩ := cs_int f2
      obtain ⟨n3, rfl, h3⟩ := cs_int f3
      exact ⟨⟨n0, n1, n2, n3⟩, rfl, h0, h1, h2, h3⟩
theorem cs_deed {fuel : Nat} {cs : List Value} {x : DataW H × List MemPlace} (h : DataW.trod enc Tryz.prog W base sp held fuel 40 cs = some x) :
    ∃ (d : Deed) (A : Option Addr) (n c : Nat), cs = deedL d A n c ∧ Ents W A d.es ∧ d.es.length = n ∧ d.In ∧ ((∀ z ∈ x.1.weights Tryz.prog 40, z ≤ reachBytes) → n ≤ 2199023255488) := by
  obtain ⟨xs, f, _, hx, hlen, hxl, hf⟩ := DataW.trod_struct Tryz.underlying40 h
  rw [cellsDeed] at hlen
  match cs, hlen with
  | [c0, c1, c2, c3, c4, c5, c6], _ =>
    match xs, hxl with
    | [y0, y1, y2, y3], _ =>
      have f0 : DataW.trod enc Tryz.prog W base sp held f 3 [c0] = some y0 := by simpa [cellsInt] using hf 0 _ rfl
      have f1 : DataW.trod enc Tryz.prog W base sp held f 38 [c1, c2, c3, c4] = some y1 := by simpa [cellsSCell] using hf 1 _ rfl
      have f2 : DataW.trod enc Tryz.prog W base sp held f 3 [c5] = some y2 := by simpa [cellsInt] using hf 2 _ rfl
      have f3 : DataW.trod enc Tryz.prog W base sp held f 34 [c6] = some y3 := by simpa [cellsEnts] using hf 3 _ rfl
      obtain ⟨k, rfl, hk⟩ := cs_int f0
      obtain ⟨cl, hcl, h1, h2, h3, h4⟩ := cs_cell f1
      obtain ⟨a, rfl, ha⟩ := cs_int f2
      obtain ⟨A, m, c, es, rfl, hE, hl, _, _, _, hw9⟩ := cs_entriesW f3
      simp only [List.cons.injEq, and_true] at hcl
      obtain ⟨rfl, rfl, rfl, rfl⟩ := hcl
      have hu := Tryz.underlying40
      refine ⟨⟨k, cl, a, es⟩, A, m, c, rfl, hE, hl, ⟨hk, h1, h2, h3, h4, ha⟩, fun hw => hw9 fun z hz => hw z ?_⟩
      rw [hx]
      simp [DataW.weights, hu, DataW.weightsEach, hz]
theorem open_deed {v : Value} {d : DataW H} {p : List MemPlace} (hv : Value.okWide Tryz.prog W r b0 40 v) (h : DataW.Trod enc Tryz.prog W base sp held 40 v d p) :
    ∃ (e : Deed) (A : Option Addr) (n c : Nat), v = .agg #[.int .i64 e.kind, .int .i64 e.cell.term, .int .i64 e.cell.vote, .int .i64 e.cell.applied, .int .i64 e.cell.active, .int .i64 e.a, .slice A n c] ∧ Ents W A e.es ∧ e.es.length = n ∧ e.In ∧ ((∀ z ∈ d.weights Tryz.prog 40, z ≤ reachBytes) → n ≤ 2199023255488) := by
  obtain ⟨cs, rfl, hsz⟩ := okWide_struct Tryz.underlying40 hv
  obtain ⟨fuel, hf⟩ := h
  obtain ⟨l, A, n, c, h0, h1⟩ := cs_deed hf
  refine ⟨l, A, n, c, ?_, h1⟩
  have : cs.toList = _ := h0
  unfold deedL at this
  rw [← this]
end
end Go.Proofs.YtfpjmeknjhhakaaGreat.K

/- Lists of deeds that came in, out of the statement's own reading of the arguments. -/
namespace Go.Proofs.YtfpjmeknjhhakaaGreat.K
open Go Go.RowKit Go.ChangeShapes Go.WideShapes Go.Deep

set_option maxRecDepth 100000
theorem bytesOfDeed : Tryz.prog.bytesOf 40 = 72 := by kernel_rfl
theorem Ents.isIn {W : World} {A : Option Addr} {es : List M.Ent} (h : Ents W A es) : EntsIn es := fun e he => by
  obtain ⟨i, hi, rfl⟩ := List.mem_iff_getElem.1 he
  obtain ⟨b, o, e, A', n, c, hc, h1, h2, h3, hr, _⟩ := h i hi
  exact ⟨h1, h2, h3⟩
section
variable {H : Type} {enc : TypeId × Value → H} {W : World} {base b0 : Nat} {sp : Nat → Bool} {held : Bool} {r : Reach}
theorem open_byte {v : Value} {d : DataW H} {p : List MemPlace} (hv : Value.okWide Tryz.prog W r b0 5 v) (h : DataW.Trod enc Tryz.prog W base sp held 5 v d p) : ∃ x : BitVec 8, v = B8 x := by
  obtain ⟨n, rfl, _, _, hw⟩ := open_int Tryz.underlying5 hv h
  have h' : 0 ≤ n ∧ n < 256 := by
    simp [Lit.wf, IntKind.min, IntKind.max, IntKind.bits, IntKind.signed] at hw
    omega
  refine ⟨BitVec.ofInt 8 n, ?_⟩
  simp only [B8, BitVec.toNat_ofInt, Value.int.injEq, true_and]
  omega
theorem open_deeds {v : Value} {d : DataW H} {p : List MemPlace} (hv : Value.okWide Tryz.prog W r b0 22 v) (h : DataW.Trod enc Tryz.prog W base sp held 22 v d p) :
    ∃ A n c ds, v = .slice A n c ∧ ds.length = n ∧ (∀ e ∈ ds, EntsIn e.es) ∧ ((∀ z ∈ d.weights Tryz.prog 22, z ≤ reachBytes) → DeedsRd W A ds ∧ n ≤ 9000000000000) := by
  obtain ⟨A, l, c, rfl⟩ := okWide_slice Tryz.underlying22 hv
  obtain ⟨fuel, hf⟩ := h
  rcases open_slice Tryz.underlying22 hf with ⟨hcs, _⟩ | ⟨a, len, cap, m, n, D, Pl, hcs, hb, hl, hm, hmm, hx, hi⟩
  · simp [Value.cells] at hcs
    obtain ⟨rfl, rfl, rfl⟩ := hcs
    exact ⟨none, 0, 0, [], rfl, rfl, (fun _ hf => by cases hf), fun _ => ⟨fun i hi => absurd hi (Nat.not_lt_zero _), by omega⟩⟩
  · simp [Value.cells] at hcs
    obtain ⟨rfl, rfl, rfl⟩ := hcs
    unfold maxLen at hm
    have hlm : l ≤ m := by split at hmm <;> omega
    rw [cellsDeed] at hi
    have hu := Tryz.underlying22
    have hdx : d = .slice ((List.range l).map D) ((List.range (m - l)).map fun j => D (l + j)) := congrArg Prod.fst hx
    have hev : ∀ i : Nat, ∃ f : Deed, i < l → ∃ b o, a = ⟨b, o, none⟩ ∧ EntsIn f.es ∧ ((∀ z ∈ d.weights Tryz.prog 22, z ≤ reachBytes) → DeedAt W b (o + i * 7) f) := by
      intro i
      by_cases hil : i < l
      · obtain ⟨cs', hc, ht⟩ := hi i (by omega)
        obtain ⟨f, A, n2, c2, rfl, hE, hEl, hIn, hw⟩ := cs_deed ht
        obtain ⟨_, _, hat⟩ := World.cells?_some hc
        obtain ⟨b, o, s⟩ := a
        obtain ⟨cs0, hc0, ht0⟩ := hi 0 (by omega)
        obtain ⟨_, _, _, _, rfl, _⟩ := cs_deed ht0
        obtain ⟨_, _, hat0⟩ := World.cells?_some hc0
        have hs : s = none := by simpa [Addr.add] using World.cell?_spot ((hat0 0 (by simp)).trans rfl)
        subst hs
        have hk : ∀ j u, (deedL f A n2 c2)[j]? = some u → W.cell? ⟨b, o + i * 7 + j, none⟩ = some u := fun j u hu2 => by
          have h1 := hat j (List.getElem?_eq_some_iff.1 hu2).1
          rw [hu2, Addr.add_lit, Addr.add_lit] at h1
          exact h1
        refine ⟨f, fun _ => ⟨b, o, rfl, hE.isIn, fun hwd => ⟨A, n2, c2, hk 0 _ rfl, hk 1 _ rfl, hk 2 _ rfl, hk 3 _ rfl, hk 4 _ rfl, hk 5 _ rfl, hk 6 _ rfl, hE.rd, hEl, ?_⟩⟩⟩
        refine Nat.le_trans (hw fun z hz => hwd z ?_) (by omega)
        rw [hdx]
        simp only [DataW.weights, hu, List.mem_cons, List.mem_append]
        exact .inr (.inl (weights_mem_all (j := i) (by simp [hil]) z hz))
      · exact ⟨⟨0, ⟨0, 0, 0, 0⟩, 0, []⟩, fun h => absurd h hil⟩
    obtain ⟨f, hf2⟩ := Classical.axiomOfChoice hev
    refine ⟨_, _, _, (List.range l).map f, rfl, by simp, fun e he => ?_, fun hw => ⟨fun i hi2 => ?_, ?_⟩⟩
    · obtain ⟨i, hi2, rfl⟩ := List.mem_map.1 he
      obtain ⟨_, _, _, hI, _⟩ := hf2 i (List.mem_range.1 hi2)
      exact hI
    · have hil : i < l := by simpa using hi2
      obtain ⟨b, o, rfl, _, he⟩ := hf2 i hil
      exact ⟨b, o, rfl, by simpa using he hw⟩
    · have := hw (m * Tryz.prog.bytesOf 40) (by rw [hdx]; simp only [DataW.weights, hu, List.mem_cons, List.length_map, List.length_range]; left; congr 1; omega)
      rw [bytesOfDeed] at this
      unfold reachBytes at this
      omega
end
end Go.Proofs.YtfpjmeknjhhakaaGreat.K
