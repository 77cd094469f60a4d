/- What the law of crashes keeps from deed to deed; and how slices of states are cut. -/
import Derived.Test.YtfpjmeknjhhakaaGreatSzCrCopy
import Derived.Test.YtfpjmeknjhhakaaGreatSzLikeDec
import Derived.Test.YtfpjmeknjhhakaaGreatSz12
namespace Go.Proofs.YtfpjmeknjhhakaaGreat.K
open Go Go.RowKit Go.Maps

/-- the states that the beginnings of a file make, all that were synced among them -/
def Trail (a b : List F.Fr) (sts : List SR) : Prop := sts.length = b.length + 1 ∧ ∀ j (hj : j < sts.length), S.sdos S.zero (a ++ b.take j) = some sts[j].st
theorem Trail.start (s : SR) (a : List F.Fr) (h : S.sdos S.zero a = some s.st) : Trail a [] [s] := ⟨rfl, fun j hj => by
  have hj0 : j = 0 := by simp only [List.length_cons, List.length_nil] at hj; omega
  subst hj0
  simpa using h⟩
/-- all of the bank that holds a disk, its store and the states -/
def CrB (w : World) (D R : Nat) (fs : List F.Fr) (sf Z : Nat) (st : S.St) (g o n c : Nat) (sts : List SR) (L : List Acc) (PL : List Acc) (wr : World) : Prop :=
  ∃ pre, pre.length = o ∧ sts.length = n ∧ n ≤ c ∧ Pool sts PL ∧ LS w wr D R 1048576 fs sf Z st (L ++ stsL g o c pre sts PL)
/-- where all stands behind some deeds -/
def CrL (w : World) (D R : Nat) (cost k Z g o n c : Nat) (wr : World) : Prop :=
  ∃ a b st sts PL, Trail a b sts ∧ S.sdos S.zero (a ++ b) = some st ∧ GF (a ++ b) cost k ∧ CrB w D R (a ++ b) (F.pbytes a).length Z st g o n c sts [] PL wr
theorem CrL.since {w wr : World} {D R cost k Z g o n c : Nat} (h : CrL w D R cost k Z g o n c wr) : Since w wr := by
  obtain ⟨a, b, st, sts, PL, _, _, _, pre, _, _, _, _, h⟩ := h
  exact h.since
theorem CrL.call {w wr wr' : World} {D R cost k Z g o n c : Nat} (h : CrL w D R cost k Z g o n c wr) (hb : Below wr.heap.size wr wr') : CrL w D R cost k Z g o n c wr' := by
  obtain ⟨a, b, st, sts, PL, h1, h2, h3, pre, h4, h5, h6, h7, h⟩ := h
  exact ⟨a, b, st, sts, PL, h1, h2, h3, pre, h4, h5, h6, h7, h.call hb⟩
/-- a slice cut at both ends -/
theorem slice_mid {P : Program} {t e : TypeId} (ht : P.underlying t = some (.slice e)) (hsz : ∀ w, (sizeOf e).run P w = .ok 1 w) (g o n c lo hi : Nat) (h1 : lo ≤ hi) (h2 : hi ≤ n) (hn : n ≤ c) (h3 : lo < c) (w : World) :
    (Instr.slice t (.slice (some ⟨g, o, none⟩) n c) (some (.int .i64 (lo : Int))) (some (.int .i64 (hi : Int))) Option.none).run P w = .ok (.slice (some ⟨g, o + lo, none⟩) (hi - lo) (c - lo)) w := by
  have h : (Instr.sliceBounds true n c (some (.int .i64 (lo : Int))) (some (.int .i64 (hi : Int))) Option.none).run P w = .ok (lo, hi, c) w := by
    have hhc : hi ≤ c := by omega
    simp [Instr.sliceBounds, run_sliceBound, h1, hhc, Result.andThen]
  have hne : ¬ c = lo := by omega
  simp only [Instr.slice, Sem.run_bind, run_underlying ht, Result.andThen, h, hsz, Sem.run_pure]
  simp [hne, Addr.add]
theorem slice_from {P : Program} {t e : TypeId} (ht : P.underlying t = some (.slice e)) (hsz : ∀ w, (sizeOf e).run P w = .ok 1 w) (g o n c lo : Nat) (h1 : lo < n) (hn : n ≤ c) (w : World) :
    (Instr.slice t (.slice (some ⟨g, o, none⟩) n c) (some (.int .i64 (lo : Int))) Option.none Option.none).run P w = .ok (.slice (some ⟨g, o + lo, none⟩) (n - lo) (c - lo)) w := by
  have h : (Instr.sliceBounds true n c (some (.int .i64 (lo : Int))) Option.none Option.none).run P w = .ok (lo, n, c) w := by
    have hln : lo ≤ n := by omega
    simp [Instr.sliceBounds, run_sliceBound, hln, Result.andThen]
  have hne : ¬ c = lo := by omega
  simp only [Instr.slice, Sem.run_bind, run_underlying ht, Result.andThen, h, hsz, Sem.run_pure]
  simp [hne, Addr.add]
theorem pick_self {x n : Int} (h0 : 0 ≤ x) (h1 : x < n) : pick x n = x := Int.emod_eq_of_lt h0 h1
section
variable {w wr : World} {D R : Nat} {fs : List F.Fr} {sf Z : Nat} {st : S.St} {g o n c : Nat} {sts : List SR} {L PL : List Acc}
/-- what a state of the list holds -/
theorem CrB.at' (h : CrB w D R fs sf Z st g o n c sts L PL wr) (j : Nat) (hj : j < sts.length) : wr.cell? ⟨g, o + j, none⟩ = some (.pointer (some ⟨sts[j].G, 0, none⟩)) := by
  obtain ⟨pre, h1, _, _, _, h⟩ := h
  exact ptr_at h.bank (List.mem_append_right _ (.head _)) h1 j hj
theorem CrB.mem (h : CrB w D R fs sf Z st g o n c sts L PL wr) {s : SR} (hs : s ∈ sts) : RBox wr s.G s.c s.A s.xs.length s.cE ∧ wr.ownsRow 0 62 6 (.slice s.A s.xs.length s.cE) s.xs.length (s.xs.flatMap EV.cells) ∧ RefC wr s.G s.c s.A s.xs.length s.cE ∧ EntsRd wr s.A (s.xs.map EV.e) := by
  obtain ⟨pre, h1, _, _, h4, h⟩ := h
  have m1 : s.box ∈ L ++ stsL g o c pre sts PL := List.mem_append_right _ (.tail _ (List.mem_append_left _ (stsR_mem hs).1))
  have m2 : s.evs ∈ L ++ stsL g o c pre sts PL := List.mem_append_right _ (.tail _ (List.mem_append_left _ (stsR_mem hs).2))
  exact ⟨sr_box h.bank m1, sr_own h.bank m2, sr_c h.bank m1, sr_rd h.bank m2 (fun x hx => List.mem_append_right _ (.tail _ (List.mem_append_right _ (h4 s hs x hx))))⟩
/-- what was put with the frames goes to the pool -/
theorem fr_pool (Fa : Option Addr) (cF : Nat) (ps : List FR) (x y q : Acc) (pre : List Value) : (FrL Fa cF ps (x :: y :: q :: stsL g o c pre sts PL)).Perm (x :: y :: stsL g o c pre sts (FrL Fa cF ps (q :: PL))) := by
  obtain ⟨X, hX⟩ : ∃ X, X = frmAcc Fa cF ps :: ps.reverse.map FR.acc := ⟨_, rfl⟩
  obtain ⟨Y, hY⟩ : ∃ Y, Y = ptrAcc g (o + sts.length) (o + c) (pre ++ sts.map SR.ptr) :: stsR sts := ⟨_, rfl⟩
  have e1 : FrL Fa cF ps (x :: y :: q :: stsL g o c pre sts PL) = X ++ ([x, y] ++ ([q] ++ (Y ++ PL))) := by rw [hX, hY]; rfl
  have e2 : (x :: y :: stsL g o c pre sts (FrL Fa cF ps (q :: PL))) = [x, y] ++ (Y ++ (X ++ ([q] ++ PL))) := by rw [hX, hY]; simp [stsL, FrL]
  rw [e1, e2]
  refine (List.perm_append_comm_assoc X [x, y] _).trans (List.Perm.append_left _ ?_)
  exact (List.Perm.append_left X (List.perm_append_comm_assoc [q] Y PL)).trans (List.perm_append_comm_assoc X Y _)
/-- so does a row that a frame made -/
theorem row_pool (K : List Acc) (pre : List Value) : (K ++ stsL g o c pre sts PL).Perm (stsL g o c pre sts (K ++ PL)) := by
  show (K ++ ((ptrAcc g (o + sts.length) (o + c) (pre ++ sts.map SR.ptr) :: stsR sts) ++ PL)).Perm ((ptrAcc g (o + sts.length) (o + c) (pre ++ sts.map SR.ptr) :: stsR sts) ++ (K ++ PL))
  exact List.perm_append_comm_assoc _ _ _
end
theorem trail_snoc {a l : List F.Fr} {sts : List SR} (h : ∀ t (ht : t < sts.length), S.sdos S.zero (a ++ l.take t) = some sts[t].st) (s : SR) (hs : S.sdos S.zero (a ++ l.take sts.length) = some s.st) : ∀ t (ht : t < (sts ++ [s]).length), S.sdos S.zero (a ++ l.take t) = some (sts ++ [s])[t].st := fun t ht => by
  rcases Nat.lt_or_ge t sts.length with h1 | h1
  · rw [List.getElem_append_left h1]; exact h t h1
  · have h2 : t = sts.length := by rw [List.length_append, List.length_singleton] at ht; omega
    subst h2
    rw [List.getElem_append_right (Nat.le_refl _)]
    simpa using hs
/-- where all stands while a deed's frames are done to a state's copy -/
structure InB (w : World) (D R : Nat) (a b fr : List F.Fr) (sf Z : Nat) (st st2 : S.St) (G : Nat) (Fa : Option Addr) (cF : Nat) (ps : List FR) (q : Acc) (g o n c j : Nat) (s2 : SR) (sts : List SR) (PL : List Acc) (wr : World) : Prop where
  ptr : s2.G = G
  does : S.sdos st (fr.take j) = some s2.st
  len : s2.xs.length ≤ 10000 + j
  pool : ∀ x ∈ s2.xs, x.acc ∈ PL
  num : sts.length = b.length + 1 + j
  trail : ∀ t (ht : t < sts.length), S.sdos S.zero (a ++ (b ++ fr).take t) = some sts[t].st
  frm : frmAcc Fa cF ps ∈ PL
  row : ∀ p ∈ ps, p.acc ∈ PL
  own : q ∈ PL
  bank : CrB w D R (a ++ b ++ fr) sf Z st2 g o n c sts [s2.box, s2.evs] PL wr
section
variable {w wr w' : World} {D R : Nat} {a b fr : List F.Fr} {sf Z : Nat} {st st2 : S.St} {G : Nat} {Fa : Option Addr} {cF : Nat} {ps : List FR} {q : Acc} {g o n c j : Nat} {s2 : SR} {sts : List SR} {PL : List Acc}
theorem InB.ls (h : InB w D R a b fr sf Z st st2 G Fa cF ps q g o n c j s2 sts PL wr) : ∃ pre, pre.length = o ∧ sts.length = n ∧ n ≤ c ∧ Pool sts PL ∧ LS w wr D R 1048576 (a ++ b ++ fr) sf Z st2 (s2.box :: s2.evs :: stsL g o c pre sts PL) := h.bank
/-- all frames are done -/
theorem InB.done (h : InB w D R a b fr sf Z st st2 G Fa cF ps q g o n c j s2 sts PL wr) (hj : j = fr.length) : Trail a (b ++ fr) sts ∧ CrB w D R (a ++ b ++ fr) sf Z st2 g o n c sts [] PL wr := by
  refine ⟨⟨by rw [h.num, hj, List.length_append]; omega, h.trail⟩, ?_⟩
  obtain ⟨pre, h1, h2, h3, h4, h5⟩ := h.bank
  exact ⟨pre, h1, h2, h3, h4, h5.sub (.cons _ (.cons _ (List.Sublist.refl _)))⟩
end
/-- the last of the states that were alike -/
def LeftI (sts : List SR) (t : S.St) (j k : Nat) (lf : Int) : Prop := (lf = -1 ∧ k ≤ j) ∨ ∃ x : Nat, lf = (x : Int) ∧ x < k ∧ ∃ h : x < sts.length, sts[x].st = t
theorem LeftI.yes {sts : List SR} {t : S.St} {j k : Nat} (hk : k < sts.length) (h : t = sts[k].st) : LeftI sts t j (k + 1) (k : Int) := .inr ⟨k, rfl, Nat.lt_succ_self _, hk, h.symm⟩
theorem LeftI.no {sts : List SR} {t : S.St} {j k : Nat} {lf : Int} (h : LeftI sts t j k lf) (hj : j < sts.length) (ht : sts[j].st = t) (hk : k < sts.length) (hn : ¬ t = sts[k].st) : LeftI sts t j (k + 1) lf := by
  rcases h with ⟨h1, h2⟩ | ⟨x, h1, h2, h3⟩
  · refine .inl ⟨h1, ?_⟩
    have hkj : k ≠ j := fun e => by
      subst e
      exact hn ht.symm
    omega
  · exact .inr ⟨x, h1, by omega, h3⟩
theorem CrB.call {w wr w' : World} {D R : Nat} {fs : List F.Fr} {sf Z : Nat} {st : S.St} {g o n c : Nat} {sts : List SR} {L PL : List Acc} (h : CrB w D R fs sf Z st g o n c sts L PL wr) (hb : Below wr.heap.size wr w') : CrB w D R fs sf Z st g o n c sts L PL w' := by
  obtain ⟨pre, h1, h2, h3, h4, h5⟩ := h
  exact ⟨pre, h1, h2, h3, h4, h5.call hb⟩
/-- from the last state on -/
theorem CrB.last {w wr : World} {D R : Nat} {fs : List F.Fr} {sf Z : Nat} {st : S.St} {g o n c : Nat} {sts : List SR} {PL : List Acc} (h : CrB w D R fs sf Z st g o n c sts [] PL wr) (j : Nat) (hj : j < sts.length) : CrB w D R fs sf Z st g (o + j) 1 (c - j) [sts[j]] [] PL wr := by
  obtain ⟨pre, h1, h2, h3, h4, h5⟩ := h
  obtain ⟨h6, h7⟩ := ls_drop h5 h1 j hj
  have h8 := ls_take h6 h7 1 (by rw [List.length_drop]; omega)
  have e1 : (sts.drop j).take 1 = [sts[j]] := by rw [List.drop_eq_getElem_cons hj]; rfl
  rw [e1] at h8
  exact ⟨_, h7, rfl, by omega, fun s hs => by rw [List.mem_singleton.1 hs]; exact h4 _ (List.getElem_mem hj), h8⟩
end Go.Proofs.YtfpjmeknjhhakaaGreat.K
