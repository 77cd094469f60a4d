/- A disk whose file holds frames, and its store: what is done to them. -/
import Derived.Test.YtfpjmeknjhhakaaSqLaw22A
namespace Go.Proofs.Ytfpjmeknjhhakaa.K
open Go Go.RowKit Go.Maps

/-- a disk whose file holds these bytes, so many of them safe -/
def DF (w0 w : World) (D R : Nat) (room : Int) (bs : List (BitVec 8)) (sf : Nat) (L : List Acc) : Prop := ∃ o, Dk w0 w D R room o L ∧ obytes o = bs ∧ olen o = bs.length ∧ osafe o = sf ∧ sf ≤ bs.length
/-- .. these frames, and its store -/
def LS (w0 w : World) (D R : Nat) (room : Int) (fs : List F.Fr) (sf : Nat) (Z : Nat) (st : S.St) (L : List Acc) : Prop :=
  ∃ o A cE xs, st.l = xs.map EV.e ∧ SK w0 w D R room o Z st.c A cE xs L ∧ obytes o = F.pbytes fs ∧ olen o = (F.pbytes fs).length ∧ osafe o = sf ∧ sf ≤ (F.pbytes fs).length
section
variable {w0 w w' : World} {D R : Nat} {room : Int} {bs : List (BitVec 8)} {fs : List F.Fr} {sf Z : Nat} {st : S.St} {L L' : List Acc}
theorem LS.call (h : LS w0 w D R room fs sf Z st L) (hb : Below w.heap.size w w') : LS w0 w' D R room fs sf Z st L := by
  obtain ⟨o, A, cE, xs, h1, h2, h3⟩ := h
  exact ⟨o, A, cE, xs, h1, h2.call hb, h3⟩
theorem LS.sub (h : LS w0 w D R room fs sf Z st L) (hs : L'.Sublist L) : LS w0 w D R room fs sf Z st L' := by
  obtain ⟨o, A, cE, xs, h1, h2, h3⟩ := h
  exact ⟨o, A, cE, xs, h1, h2.sub hs, h3⟩
theorem LS.add (h : LS w0 w D R room fs sf Z st L) (h' : Bank w w' L') : LS w0 w' D R room fs sf Z st (L' ++ L) := by
  obtain ⟨o, A, cE, xs, h1, h2, h3⟩ := h
  exact ⟨o, A, cE, xs, h1, h2.add h', h3⟩
theorem LS.since (h : LS w0 w D R room fs sf Z st L) : Since w0 w := by
  obtain ⟨o, A, cE, xs, h1, h2, h3⟩ := h
  exact h2.since
theorem LS.bank (h : LS w0 w D R room fs sf Z st L) : Bank w0 w L := by
  obtain ⟨o, A, cE, xs, h1, h2, h3⟩ := h
  exact h2.bank
theorem LS.df (h : LS w0 w D R room fs sf Z st L) : DF w0 w D R room (F.pbytes fs) sf L := by
  obtain ⟨o, A, cE, xs, h1, h2, h3, h4, h5, h6⟩ := h
  exact ⟨o, h2.dk.sub (.cons _ (.cons _ (List.sublist_append_right _ _))), h3, h4, h5, h6⟩
theorem DF.call (h : DF w0 w D R room bs sf L) (hb : Below w.heap.size w w') : DF w0 w' D R room bs sf L := by
  obtain ⟨o, h1, h2⟩ := h
  exact ⟨o, h1.call hb, h2⟩
theorem DF.sub (h : DF w0 w D R room bs sf L) (hs : L'.Sublist L) : DF w0 w D R room bs sf L' := by
  obtain ⟨o, h1, h2⟩ := h
  exact ⟨o, h1.sub hs, h2⟩
theorem DF.bank (h : DF w0 w D R room bs sf L) : Bank w0 w L := by
  obtain ⟨o, h1, h2⟩ := h
  exact h1.rest
theorem DF.new (h : Dk w0 w D R room none L) : DF w0 w D R room [] 0 L := ⟨none, h, rfl, rfl, rfl, Nat.le_refl _⟩
end
/-- a disk is made -/
theorem newL (w0 w : World) (L : List Acc) (room : Int) (h : Bank w0 w L) (hr : 0 ≤ room) : Calls Try.prog 28 #[.int .i64 room] w fun e w' => ∃ D R, e = .returned (.pointer (some ⟨D, 0, none⟩)) ∧ DF w0 w' D R room [] 0 L :=
  (New_any w0 w L room h hr).mono fun _ _ ⟨D, R, he, h⟩ => ⟨D, R, he, DF.new h⟩
/-- a store is opened -/
theorem openL (w0 w : World) (D R : Nat) (room : Int) (bs : List (BitVec 8)) (sf : Nat) (L : List Acc) (fs : List F.Fr) (st : S.St) (u : Nat) (h : DF w0 w D R room bs sf L) (hn : bs.length ≤ 8388608) (hs : S.sread bs = some (st, u)) (hf : F.pbytes fs = bs.take u) (hu : u ≤ bs.length) :
    Calls Try.prog 30 #[.pointer (some ⟨D, 0, none⟩)] w fun e w' => ∃ Z, e = .returned (.tuple #[.pointer (some ⟨Z, 0, none⟩), .int .i64 0]) ∧ LS w0 w' D R room fs u Z st L := by
  obtain ⟨o, h1, h2, h3, h4, h5⟩ := h
  have hop : Calls Try.prog 30 #[.pointer (some ⟨D, 0, none⟩)] w (OpenPost w0 D R room o L) := by
    cases o with
    | none => exact open_none w0 w D R room L h1
    | some f => exact open_some w0 w D R room f L h1 (by have : f.n = bs.length := h3; omega)
  refine hop.mono ?_
  rintro e w' (⟨k1, _⟩ | ⟨st', u', o', Z, c', A', cE', xs', k1, rfl, k3, k4, k5, k6⟩)
  · rw [h2, hs] at k1; cases k1
  · rw [h2, hs] at k1
    obtain ⟨rfl, rfl⟩ : st = st' ∧ u = u' := by simpa using k1
    refine ⟨Z, rfl, o', A', cE', xs', by rw [k3], by rw [k3]; exact k6, ?_⟩
    have hl : (F.pbytes fs).length = u := by rw [hf, List.length_take]; omega
    rcases k4 with ⟨rfl, rfl, rfl⟩ | ⟨f, g, A2, c2, rfl, rfl, hfu⟩
    · refine ⟨?_, ?_, rfl, Nat.zero_le _⟩
      · rw [hf]; rfl
      · rw [hl]; rfl
    · refine ⟨?_, ?_, rfl, by rw [hl]; exact Nat.le_refl _⟩
      · rw [hf, ← h2]; rfl
      · rw [hl]; rfl
/-- a spoilt one is not -/
theorem openBad (w0 w : World) (D R : Nat) (room : Int) (bs : List (BitVec 8)) (sf : Nat) (L : List Acc) (h : DF w0 w D R room bs sf L) (hn : bs.length ≤ 8388608) (hs : S.sread bs = none) :
    Calls Try.prog 30 #[.pointer (some ⟨D, 0, none⟩)] w fun e w' => e = .returned (.tuple #[.pointer none, .int .i64 10]) ∧ DF w0 w' D R room bs sf L := by
  obtain ⟨o, h1, h2, h3, h4, h5⟩ := h
  have hop : Calls Try.prog 30 #[.pointer (some ⟨D, 0, none⟩)] w (OpenPost w0 D R room o L) := by
    cases o with
    | none => exact open_none w0 w D R room L h1
    | some f => exact open_some w0 w D R room f L h1 (by have : f.n = bs.length := h3; omega)
  refine hop.mono ?_
  rintro e w' (⟨k1, rfl, k2⟩ | ⟨st', u', o', Z, c', A', cE', xs', k1, _⟩)
  · exact ⟨rfl, o, k2, h2, h3, h4, h5⟩
  · rw [h2, hs] at k1; cases k1
theorem putS_ok {w0 w' : World} {D R : Nat} {room : Int} {o : Option Fil} {Z : Nat} {c : S.Cl} {A : Option Addr} {cE : Nat} {xs : List EV} {L : List Acc} {fs gs : List F.Fr} {st : S.St} {e : Ending} (h : PutS w0 D R room o Z c A cE xs L gs st e w') (h1 : obytes o = F.pbytes fs) (h2 : olen o = (F.pbytes fs).length) {sf : Nat} (h3 : osafe o = sf) (h4 : sf ≤ (F.pbytes fs).length)
    (hb : ((F.pbytes fs).length + (F.pbytes gs).length : Int) ≤ room) (hr : room ≤ 8388608) : e = .returned (.int .i64 0) ∧ LS w0 w' D R room (fs ++ gs) sf Z st L := by
  rcases h with ⟨k1, _⟩ | ⟨_, k1, _⟩ | ⟨_, _, k1, g, A2, c2, c', A', cE', xs', k2, k3, k4⟩
  · exfalso; omega
  · exfalso; omega
  · refine ⟨k1, some ⟨g, A2, olen o + (F.pbytes gs).length, c2, obytes o ++ F.pbytes gs, osafe o⟩, A', cE', xs', by rw [k2], by rw [k2]; exact k4, ?_, ?_, h3, ?_⟩
    · rw [F.pbytes_append, ← h1]; rfl
    · rw [F.pbytes_append, List.length_append, ← h2]; rfl
    · rw [F.pbytes_append, List.length_append]; omega
theorem keepL (w0 w : World) (D R : Nat) (room : Int) (fs : List F.Fr) (sf Z : Nat) (st : S.St) (L : List Acc) (d : S.Cl) (h : LS w0 w D R room fs sf Z st L) (hm : S.may d = true) (hb : ((F.pbytes fs).length + 41 : Int) ≤ room) (hr : room ≤ 8388608) (hx : st.l.length ≤ 700000) :
    Calls Try.prog 35 #[.pointer (some ⟨Z, 0, none⟩), .agg #[.int .i64 d.term, .int .i64 d.vote, .int .i64 d.applied, .int .i64 d.active]] w fun e w' => e = .returned (.int .i64 0) ∧ LS w0 w' D R room (fs ++ [S.kept d]) sf Z ⟨d, st.l⟩ L := by
  obtain ⟨o, A, cE, xs, h1, h2, h3, h4, h5, h6⟩ := h
  have hl : xs.length = st.l.length := by rw [h1, List.length_map]
  refine (keep_any w0 w D R room o Z st.c A cE xs L d h2 hm (by omega) (by omega)).mono ?_
  intro e w' hp
  rw [← h1] at hp
  exact putS_ok hp h3 h4 h5 h6 (by
    have : (F.pbytes [S.kept d]).length = 41 := by simp [F.pbytes, F.one_length, S.kept, S.cdata_length]
    omega) hr
theorem keepBad (w0 w : World) (D R : Nat) (room : Int) (fs : List F.Fr) (sf Z : Nat) (st : S.St) (L : List Acc) (d : S.Cl) (h : LS w0 w D R room fs sf Z st L) (hm : S.may d = false) :
    Calls Try.prog 35 #[.pointer (some ⟨Z, 0, none⟩), .agg #[.int .i64 d.term, .int .i64 d.vote, .int .i64 d.applied, .int .i64 d.active]] w fun e w' => e = .returned (.int .i64 2) ∧ LS w0 w' D R room fs sf Z st L := by
  have h0 := h
  obtain ⟨o, A, cE, xs, h1, h2, h3⟩ := h0
  exact (keep_bad w Z D st.c A xs.length cE d h2.box hm).mono fun _ _ ⟨he, hs⟩ => ⟨he, h.call hs⟩
/-- a store that has got entries -/
def grewS (st : S.St) (i : Int) (es : List M.Ent) : S.St := if es = [] then st else ⟨st.c, st.l.take (i - 1).toNat ++ es⟩
theorem appL (w0 w : World) (D R : Nat) (room : Int) (fs : List F.Fr) (sf Z : Nat) (st : S.St) (L : List Acc) (i : Int) (E : Option Addr) (n cn : Nat) (es : List M.Ent) (h : LS w0 w D R room fs sf Z st L)
    (hl : es.length = n) (hE : EntsRd w E es) (hok : ∀ e ∈ es, e.Ok) (hd : ∀ e ∈ es, e.data.length ≤ 200000) (hb : ((F.pbytes fs).length + (F.pbytes (S.puts i es)).length : Int) ≤ room) (hr : room ≤ 8388608) (hx : st.l.length + n ≤ 800000) :
    Calls Try.prog 36 #[.pointer (some ⟨Z, 0, none⟩), .int .i64 i, .slice E n cn] w fun e w' =>
      ((i < 1 ∨ (st.l.length : Int) + 1 < i) ∧ e = .returned (.int .i64 2) ∧ LS w0 w' D R room fs sf Z st L) ∨
      ((1 ≤ i ∧ i ≤ (st.l.length : Int) + 1) ∧ e = .returned (.int .i64 0) ∧ LS w0 w' D R room (fs ++ S.puts i es) sf Z (grewS st i es) L) := by
  obtain ⟨o, A, cE, xs, h1, h2, h3, h4, h5, h6⟩ := h
  have hxl : xs.length = st.l.length := by rw [h1, List.length_map]
  refine (sApp_any w0 w D R room o Z st.c A cE xs L i E n cn es h2 hl hE hok hd (by omega) (by omega) (by omega)).mono ?_
  rintro e w' (⟨k1, k2, k3⟩ | ⟨k1, k2, k3, k4⟩ | ⟨k1, k2, k3⟩)
  · rw [hxl] at k1
    exact .inl ⟨k1, k2, o, A, cE, xs, h1, k3, h3, h4, h5, h6⟩
  · rw [hxl] at k1
    refine .inr ⟨k1, k3, ?_⟩
    subst k2
    rw [grewS, if_pos rfl]
    show LS w0 w' D R room (fs ++ []) sf Z st L
    rw [List.append_nil]
    exact ⟨o, A, cE, xs, h1, k4, h3, h4, h5, h6⟩
  · rw [hxl] at k1
    rw [← h1] at k3
    refine .inr ⟨k1, ?_⟩
    rw [grewS, if_neg k2]
    exact putS_ok k3 h3 h4 h5 h6 hb hr
theorem syncL (w0 w : World) (D R : Nat) (room : Int) (fs : List F.Fr) (sf Z : Nat) (st : S.St) (L : List Acc) (h : LS w0 w D R room fs sf Z st L) :
    Calls Try.prog 37 #[.pointer (some ⟨Z, 0, none⟩)] w fun e w' => e = .returned (.int .i64 0) ∧ LS w0 w' D R room fs (F.pbytes fs).length Z st L := by
  obtain ⟨o, A, cE, xs, h1, h2, h3, h4, h5, h6⟩ := h
  refine (sSync_any w0 w D R room o Z st.c A cE xs L h2).mono ?_
  rintro e w' ⟨he, k⟩
  refine ⟨he, osync o, A, cE, xs, h1, k, ?_⟩
  cases o with
  | none => exact ⟨h3, h4, h4, Nat.le_refl _⟩
  | some f => exact ⟨h3, h4, h4, Nat.le_refl _⟩
/-- entries that were handed out -/
def OutE (w : World) (es : List M.Ent) (e : Ending) (w' : World) : Prop := ∃ A n c ys, e = .returned (.slice A n c) ∧ ys.map EV.e = es ∧ ys.length = n ∧ Bank w w' (evsAcc A n c ys :: evRows ys)
theorem outE_rd {w0 w : World} {L : List Acc} {A : Option Addr} {n c : Nat} {ys : List EV} {es : List M.Ent} (h : Bank w0 w ((evsAcc A n c ys :: evRows ys) ++ L)) (h1 : ys.map EV.e = es) (h2 : ys.length = n) : EntsRd w A es := by
  rw [← h1]
  exact evs_rd h (.head _) (fun x hx => .tail _ (List.mem_append_left _ (List.mem_map.2 ⟨x, by simpa using hx, rfl⟩))) h2
theorem entsL (w0 w : World) (D R : Nat) (room : Int) (fs : List F.Fr) (sf Z : Nat) (st : S.St) (L : List Acc) (h : LS w0 w D R room fs sf Z st L) (hn : st.l.length ≤ 1000000) (hd : ∀ e ∈ st.l, e.data.length ≤ 100000000) :
    Calls Try.prog 38 #[.pointer (some ⟨Z, 0, none⟩)] w (OutE w st.l) := by
  obtain ⟨o, A, cE, xs, h1, h2, h3⟩ := h
  have hxl : xs.length = st.l.length := by rw [h1, List.length_map]
  refine (sEnts_any w Z D st.c A xs.length cE xs h2.box h2.evs (by omega) (h2.evn (by rw [← h1]; exact hd))).mono ?_
  rintro e w' ⟨A', c', ys, he, k1, k2, k3⟩
  exact ⟨A', xs.length, c', ys, he, by rw [h1, ← k2], k1, k3⟩
theorem cellL (w0 w : World) (D R : Nat) (room : Int) (fs : List F.Fr) (sf Z : Nat) (st : S.St) (L : List Acc) (h : LS w0 w D R room fs sf Z st L) :
    Calls Try.prog 39 #[.pointer (some ⟨Z, 0, none⟩)] w fun e w' => e = .returned (.agg #[.int .i64 st.c.term, .int .i64 st.c.vote, .int .i64 st.c.applied, .int .i64 st.c.active]) ∧ Since w w' := by
  obtain ⟨o, A, cE, xs, h1, h2, h3⟩ := h
  exact sCell_any w Z D st.c A xs.length cE h2.box
theorem crashD (w0 w : World) (D R : Nat) (room : Int) (bs : List (BitVec 8)) (sf : Nat) (L : List Acc) (k : Nat) (h : DF w0 w D R room bs sf L) (hn : bs.length ≤ 100000000) (hk : k ≤ 100000000) :
    Calls Try.prog 52 #[.pointer (some ⟨D, 0, none⟩), .int .i64 (k : Int)] w fun e w' => e = .returned (.int .i64 0) ∧ DF w0 w' D R room (bs.take (crashAt sf k bs.length)) (crashAt sf k bs.length) L := by
  obtain ⟨o, h1, h2, h3, h4, h5⟩ := h
  cases o with
  | none =>
    obtain rfl : bs = [] := h2.symm
    obtain rfl : sf = 0 := h4.symm
    refine (crash_none w0 w D R room L (k : Int) h1).mono ?_
    rintro e w' ⟨he, k1⟩
    refine ⟨he, none, k1, ?_⟩
    simp [crashAt, obytes, olen, osafe]
  | some f =>
    have e1 : f.bs = bs := h2
    have e2 : f.n = bs.length := h3
    have e3 : f.safe = sf := h4
    refine (crash_at w0 w D R room f L k (crashAt sf k bs.length) (by rw [e2, e3]) h1 (by omega) (by omega) hk).mono ?_
    rintro e w' ⟨he, A, c, k1⟩
    have hq : crashAt sf k bs.length ≤ bs.length := by unfold crashAt; omega
    refine ⟨he, _, k1, by rw [← e1]; rfl, ?_, rfl, ?_⟩
    · rw [List.length_take, Nat.min_eq_left hq]; rfl
    · rw [List.length_take, Nat.min_eq_left hq]; exact Nat.le_refl _
/-- the file's bytes are read -/
theorem readD (w0 w : World) (D R : Nat) (room : Int) (bs : List (BitVec 8)) (sf : Nat) (L : List Acc) (h : DF w0 w D R room bs sf L) (hn : bs.length ≤ 100000000) :
    Calls Try.prog 32 #[.pointer (some ⟨D, 0, none⟩), .string storeS] w fun e w' => ∃ A n c k, e = .returned (.tuple #[.slice A n c, .int .i64 k]) ∧ DF w0 w' D R room bs sf (rowAcc A n c bs :: L) := by
  obtain ⟨o, h1, h2, h3, h4, h5⟩ := h
  cases o with
  | none =>
    obtain rfl : bs = [] := h2.symm
    refine (dRead_none w0 w D R room L h1).mono ?_
    rintro e w' ⟨he, k1⟩
    exact ⟨none, 0, 0, 6, he, none, k1.none', h2, h3, h4, h5⟩
  | some f =>
    obtain rfl : f.bs = bs := h2
    have e2 : f.n = f.bs.length := h3
    refine (dRead_some w0 w D R room f L h1 (by omega)).mono ?_
    rintro e w' ⟨A, n, c, he, k1⟩
    exact ⟨A, n, c, 0, he, _, k1, rfl, h3, h4, h5⟩
end Go.Proofs.Ytfpjmeknjhhakaa.K
