/- The contract of store's Open. -/
import Derived.Test.YtfpjmeknjhhakaaSqStoOpenF
import Derived.Test.YtfpjmeknjhhakaaSqStoSync
namespace Go.Proofs.Ytfpjmeknjhhakaa.K
open Go Go.RowKit Go.Maps

/-- what becomes of the file -/
def OpenF (o o' : Option Fil) (u : Nat) : Prop := (o = none ∧ o' = none ∧ u = 0) ∨ ∃ f g A c, o = some f ∧ o' = some ⟨g, A, u, c, f.bs.take u, u⟩
def OpenPost (w0 : World) (D R : Nat) (room : Int) (o : Option Fil) (L : List Acc) (e : Ending) (w' : World) : Prop :=
  (S.sread (obytes o) = none ∧ e = .returned (.tuple #[.pointer none, .int .i64 10]) ∧ Dk w0 w' D R room o L) ∨
  (∃ st u o' Z c' A' cE' xs', S.sread (obytes o) = some (st, u) ∧ e = .returned (.tuple #[.pointer (some ⟨Z, 0, none⟩), .int .i64 0]) ∧ st = ⟨c', xs'.map EV.e⟩ ∧ OpenF o o' u ∧ xs'.length ≤ 1000000 ∧ SK w0 w' D R room o' Z c' A' cE' xs' L)
theorem Dk.nilE {w0 w : World} {D R : Nat} {room : Int} {o : Option Fil} {L : List Acc} (h : Dk w0 w D R room o L) : Dk w0 w D R room o (evsAcc none 0 0 [] :: L) :=
  (h.side.none 81 6).perm ((List.Perm.swap _ _ _).trans (.cons _ (List.perm_middle.symm)))
/-- a new store -/
theorem SK.new {w0 w : World} {D R : Nat} {room : Int} {o : Option Fil} {L : List Acc} (h : Dk w0 w D R room o L) :
    SK w0 ((w.alloc (.cells #[.pointer (some ⟨D, 0, none⟩), .int .i64 0, .int .i64 0, .int .i64 0, .int .i64 0, .slice none 0 0] 72)).alloc (.cells #[.pointer (some ⟨w.heap.size, 0, none⟩)] 56)) D R room o w.heap.size S.zeroCl none 0 [] (varAcc (w.heap.size + 1) w.heap.size :: L) := by
  have h1 := h.box #[.pointer (some ⟨D, 0, none⟩), .int .i64 0, .int .i64 0, .int .i64 0, .int .i64 0, .slice none 0 0] 72 (by simp)
  have h2 := h1.box #[.pointer (some ⟨w.heap.size, 0, none⟩)] 56 (by simp)
  rw [World.size_alloc] at h2
  have h3 := h2.nilE
  exact h3.perm (L' := stAcc w.heap.size D S.zeroCl none 0 0 :: evsAcc none 0 0 [] :: varAcc (w.heap.size + 1) w.heap.size :: L) (((List.Perm.swap _ _ _).cons _).trans (List.Perm.swap _ _ _))
theorem scan_fr {b : List (BitVec 8)} {ps : List FR} {u : Nat} {s : Bool} (h : F.scan b = (ps.map FR.fr, u, s)) : ∀ p ∈ ps, M.inI64 p.k ∧ p.bs.length ≤ 262144 := fun p hp => by
  have h1 := S.scan_frames b p.fr (by rw [h]; exact List.mem_map.2 ⟨p, hp, rfl⟩)
  have h2 : 0 ≤ p.k ∧ p.k ≤ 255 ∧ p.bs.length ≤ 262144 := h1
  exact ⟨⟨by omega, by omega⟩, h2.2.2⟩
theorem row_bounds {w : World} {base n c : Nat} {A : Option Addr} {bs : List (BitVec 8)} (h : w.ownsRow base 5 1 (.slice A n c) n (bv bs)) : n ≤ c ∧ c ≤ 9223372036854775807 ∧ ∀ a, A = some a → a.block < w.heap.size := by
  rcases h.2 with ⟨h0, h2⟩ | ⟨g, cap, cur, hv, _, hg, h3, h4, _⟩
  · simp only [Value.slice.injEq] at h0
    obtain ⟨rfl, rfl, rfl⟩ := h0
    exact ⟨Nat.le_refl _, by omega, fun a ha => by cases ha⟩
  · simp only [Value.slice.injEq, true_and] at hv
    obtain ⟨rfl, rfl⟩ := hv
    refine ⟨h3, by unfold maxLen at h4; omega, fun a ha => ?_⟩
    cases ha
    exact (Array.getElem?_eq_some_iff.1 hg).1
theorem frL_sub (Fa : Option Addr) (cF : Nat) (ps : List FR) (p : Acc) (L : List Acc) : L.Sublist (frL Fa cF ps (p :: L)) := .cons _ ((List.sublist_cons_self p L).trans (List.sublist_append_right _ _))
set_option maxHeartbeats 1000000 in
set_option maxRecDepth 100000 in
theorem dRead_nil (w : World) (s : ByteArray) : Calls Try.prog 32 #[.pointer none, .string s] w fun e w' => e = .returned (.tuple #[.slice none 0 0, .int .i64 1]) ∧ Since w w' := by
  have HC := Lib.hid (with_nil (w.alloc (.cells #[.slice none 0 0] 27)) s (.func (.func 62) #[] #[.pointer (some ⟨w.heap.size, 0, none⟩)]))
  have y0 : (w.alloc (.cells #[.slice none 0 0] 27)).cell? ⟨w.heap.size, 0, none⟩ = some (.slice none 0 0) := by rw [World.cell?_alloc_new]; rfl
  go_enter Try.func32, Try.ntmps32
  go_wp2_with fail
  refine HC.out.mono ?_
  rintro e w1 ⟨rfl, rfl⟩
  go_wp2
  refine bodyPost_ret (v := .tuple #[.slice none 0 0, .int .i64 1]) ?_ rfl ⟨rfl, Since.alloc (Below.refl _ _) _⟩
  simp [results, Try.results32, go_sem, y0]
set_option maxHeartbeats 1000000 in
set_option maxRecDepth 100000 in
theorem open_nil (w : World) : Calls Try.prog 30 #[.pointer none] w fun e w' => e = .returned (.tuple #[.pointer none, .int .i64 1]) ∧ Since w w' := by
  have HC := Lib.hid (dRead_nil w)
  go_enter Try.func30, Try.ntmps30
  go_wp2_with fail
  refine (HC.out _).mono ?_
  rintro e w1 ⟨rfl, hs⟩
  have HFIN := Lib.hid hs
  clear hs HC
  go_wp2
  go_ret2
  exact ⟨rfl, HFIN.out⟩
set_option maxHeartbeats 4000000 in
set_option maxRecDepth 100000 in
theorem open_none (w0 w : World) (D R : Nat) (room : Int) (L : List Acc) (h : Dk w0 w D R room none L) :
    Calls Try.prog 30 #[.pointer (some ⟨D, 0, none⟩)] w (OpenPost w0 D R room none L) := by
  have HRD := Lib.hid (dRead_none w0 w D R room L h)
  clear h
  unfold storeS at HRD
  go_enter Try.func30, Try.ntmps30
  go_wp2_with fail
  refine HRD.out.mono ?_
  rintro e w1 ⟨rfl, hd1⟩
  have H1 := Lib.hid hd1
  clear hd1 HRD
  go_wp2_with fail
  refine (scan_any none 0 0 [] w1 ⟨Rd.of_nil _ _, rfl, fun _ => rfl⟩ (by omega) (by omega) (by simp) (by intro a h; cases h)).mono ?_
  rintro e w2 ⟨ps, Fa, cF, u, s, rfl, hsc, hu, hp9, hB⟩
  obtain ⟨rfl, rfl, rfl⟩ : ps = [] ∧ u = 0 ∧ s = false := by
    rw [F.scan_nil] at hsc
    simp only [Prod.mk.injEq] at hsc
    exact ⟨by have := hsc.1; simpa using this.symm, hsc.2.1.symm, hsc.2.2.symm⟩
  have h2 : Dk w0 w2 D R room none (frL Fa cF [] L) := H1.out.under hB
  have h3 := SK.new h2
  have HCF := Lib.hid (containsF_any w0 _ D R room none w2.heap.size (w2.heap.size + 1) L Fa cF [] 0 h3 rfl (by omega) (by simp) (by simp))
  clear hsc hu hp9 hB H1 h2 h3
  go_wp2_with fail
  refine HCF.out.mono ?_
  rintro e w3 ⟨b, rfl, ha⟩
  rcases ha with ⟨h1, _⟩ | ⟨c', A', cE', xs', h1, h2, rfl, h3⟩
  · exfalso
    cases h1
  have hst : (S.zero : S.St) = ⟨c', xs'.map EV.e⟩ := by
    have h : some S.zero = some ⟨c', xs'.map EV.e⟩ := h1
    exact Option.some.inj h
  have i0 := h3.bank.cell 0 rfl 0 rfl
  have HSY := Lib.hid (sSync_any w0 w3 D R room none w2.heap.size c' A' cE' xs' _ h3)
  have HST := Lib.hid hst
  have HL := Lib.hid (show xs'.length ≤ 1000000 by have h5 : xs'.length ≤ 0 := h2; omega)
  clear h1 h2 h3 hst HCF
  go_wp2_with fail
  refine HSY.out.mono ?_
  rintro e w4 ⟨rfl, h4⟩
  have i0 := h4.bank.cell 0 rfl 0 rfl
  have HFIN := Lib.hid (show OpenPost w0 D R room none L (.returned (.tuple #[.pointer (some ⟨w2.heap.size, 0, none⟩), .int .i64 0])) w4 from .inr ⟨S.zero, 0, none, w2.heap.size, c', A', cE', xs', rfl, rfl, HST.out, .inl ⟨rfl, rfl, rfl⟩, HL.out, h4.sub (.cons _ (.cons _ (List.Sublist.refl _)))⟩)
  clear h4 HSY
  go_wp2
  go_ret2
  exact HFIN.out
set_option maxHeartbeats 4000000 in
set_option maxRecDepth 100000 in
theorem open_some (w0 w : World) (D R : Nat) (room : Int) (f : Fil) (L : List Acc) (h : Dk w0 w D R room (some f) L) (hn : f.n ≤ 8388608) :
    Calls Try.prog 30 #[.pointer (some ⟨D, 0, none⟩)] w (OpenPost w0 D R room (some f) L) := by
  have HRD := Lib.hid (dRead_some w0 w D R room f L h (by omega))
  have hfl := h.flen
  have HFL := Lib.hid hfl
  clear h
  unfold storeS at HRD
  go_enter Try.func30, Try.ntmps30
  go_wp2_with fail
  refine HRD.out.mono ?_
  rintro e w1 ⟨A, n, c, rfl, hd1⟩
  have hrow : RowRd w1 ⟨A, n, c⟩ f.bs := hd1.row 0 rfl
  obtain rfl : n = f.n := by have h1 : f.bs.length = n := hrow.len; omega
  have hbd := row_bounds (hd1.side.bank.at _ (hd1.at 0 rfl))
  have HSC := Lib.hid (scan_any A f.n c f.bs w1 hrow hbd.1 hbd.2.1 (by omega) hbd.2.2)
  have H1 := Lib.hid hd1
  clear hd1 HRD hrow hbd hfl
  go_wp2_with fail
  refine HSC.out.mono ?_
  rintro e w2 ⟨ps, Fa, cF, u, s, rfl, hsc, hu, hp9, hB⟩
  have h2 : Dk w0 w2 D R room (some f) (frL Fa cF ps (rowAcc A f.n c f.bs :: L)) := H1.out.under hB
  have h3 := SK.new h2
  have hpn : ∀ p ∈ ps, p.x.n ≤ 100000000 := fun p hp => by
    have h1 : p.bs.length = p.x.n := (RowRd.of_row (A := p.x.A) (n := p.x.n) (c := p.x.c) (hB.own p.acc (.tail _ (List.mem_map.2 ⟨p, by simpa using hp, rfl⟩)))).len
    have h2 := (scan_fr hsc p hp).2
    omega
  have HSCN := Lib.hid hsc
  have hun : u ≤ f.n := by have := HFL.out; omega
  have H3 := Lib.hid h3
  have HPN := Lib.hid hpn
  obtain ⟨m, hm⟩ : ∃ m, m = ps.length := ⟨_, rfl⟩
  have HM := Lib.hid hm
  have hm9 : m * 9 ≤ u := by rw [hm]; exact hp9
  rw [← hm]
  clear hsc hp9 hB h2 h3 hpn hu hm HSC H1
  cases s with
  | true =>
    have hno : S.sread f.bs = none := by
      unfold S.sread
      rw [if_pos (by rw [HSCN.out])]
    have HFIN := Lib.hid (show OpenPost w0 D R room (some f) L (.returned (.tuple #[.pointer none, .int .i64 10])) _ from .inl ⟨hno, rfl, H3.out.dk.sub (.cons _ (.cons _ (.cons _ (frL_sub _ _ _ _ _))))⟩)
    clear hno H3
    go_wp2
    go_ret2
    exact HFIN.out
  | false =>
    have HCF := Lib.hid (containsF_any w0 _ D R room (some f) w2.heap.size (w2.heap.size + 1) _ Fa cF ps m H3.out HM.out.symm (by omega) (fun p hp => (scan_fr HSCN.out p hp).1) HPN.out)
    clear H3
    go_wp2_with fail
    refine HCF.out.mono ?_
    rintro e w3 ⟨b, rfl, ha⟩
    rcases ha with ⟨h1, rfl, h2⟩ | ⟨c', A', cE', xs', h1, h2, rfl, h3⟩
    · have hno : S.sread f.bs = none := by
        unfold S.sread
        rw [if_neg (by rw [HSCN.out]; simp), show (F.scan f.bs).1 = ps.map FR.fr by rw [HSCN.out], h1]
        rfl
      have HFIN := Lib.hid (show OpenPost w0 D R room (some f) L (.returned (.tuple #[.pointer none, .int .i64 10])) w3 from .inl ⟨hno, rfl, h2.sub (frL_sub _ _ _ _ _)⟩)
      clear hno h1 h2 HCF
      go_wp2
      go_ret2
      exact HFIN.out
    · have hyes : S.sread f.bs = some (⟨c', xs'.map EV.e⟩, u) := by
        unfold S.sread
        rw [if_neg (by rw [HSCN.out]; simp), show (F.scan f.bs).1 = ps.map FR.fr by rw [HSCN.out], h1, show (F.scan f.bs).2.1 = u by rw [HSCN.out]]
        rfl
      have HY := Lib.hid hyes
      have HXL := Lib.hid (show xs'.length ≤ 1000000 by rw [List.length_map, ← HM.out] at h2; omega)
      have H4 := Lib.hid h3
      clear h1 h2 h3 hyes HCF
      rcases Nat.lt_or_ge u f.n with hlt | hge
      · have i1 : (u : Int) < (f.n : Int) := by omega
        have HCUT := Lib.hid (dCut_some w0 w3 D R room f _ u H4.out.dk hun (by omega))
        clear H4
        unfold storeS at HCUT
        go_wp2_with fail
        refine HCUT.out.mono ?_
        rintro e w4 ⟨rfl, A5, c5, h5⟩
        have H5 := Lib.hid (show SK w0 w4 D R room (some ⟨f.g, A5, u, c5, f.bs.take u, u⟩) w2.heap.size c' A' cE' xs' _ from h5)
        have i0 := H5.out.bank.cell 0 rfl 0 rfl
        have HSY := Lib.hid (sSync_any w0 w4 D R room _ w2.heap.size c' A' cE' xs' _ H5.out)
        clear h5 H5 HCUT
        go_wp2_with fail
        refine HSY.out.mono ?_
        rintro e w5 ⟨rfl, h6⟩
        have i0 := h6.bank.cell 0 rfl 0 rfl
        have HFIN := Lib.hid (show OpenPost w0 D R room (some f) L (.returned (.tuple #[.pointer (some ⟨w2.heap.size, 0, none⟩), .int .i64 0])) w5 from .inr ⟨_, u, _, w2.heap.size, c', A', cE', xs', HY.out, rfl, rfl, .inr ⟨f, f.g, A5, c5, rfl, rfl⟩, HXL.out, h6.sub (.cons _ (frL_sub _ _ _ _ _))⟩)
        clear h6 HSY
        go_wp2
        go_ret2
        exact HFIN.out
      · obtain rfl : u = f.n := by omega
        have i1 : ¬ (f.n : Int) < (f.n : Int) := by omega
        have i0 := H4.out.bank.cell 0 rfl 0 rfl
        have HSY := Lib.hid (sSync_any w0 w3 D R room _ w2.heap.size c' A' cE' xs' _ H4.out)
        clear H4
        go_wp2_with fail
        refine HSY.out.mono ?_
        rintro e w5 ⟨rfl, h6⟩
        have i0 := h6.bank.cell 0 rfl 0 rfl
        have HFIN := Lib.hid (show OpenPost w0 D R room (some f) L (.returned (.tuple #[.pointer (some ⟨w2.heap.size, 0, none⟩), .int .i64 0])) w5 from .inr ⟨_, f.n, _, w2.heap.size, c', A', cE', xs', HY.out, rfl, rfl, .inr ⟨f, f.g, f.A, f.c, rfl, by rw [List.take_of_length_le (by rw [HFL.out]; omega)]; rfl⟩, HXL.out, h6.sub (.cons _ (frL_sub _ _ _ _ _))⟩)
        clear h6 HSY
        go_wp2
        go_ret2
        exact HFIN.out
end Go.Proofs.Ytfpjmeknjhhakaa.K
