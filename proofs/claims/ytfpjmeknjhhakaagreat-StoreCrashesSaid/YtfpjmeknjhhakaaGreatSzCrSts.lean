/- The law's list of states: pointers to reference's stores, in a row whose slice may begin behind the row's own beginning; entries' bytes lie in a pool that all states share. -/
import Derived.Test.YtfpjmeknjhhakaaGreatSzCrMath
import Derived.Test.YtfpjmeknjhhakaaGreatSz12
namespace Go.Proofs.YtfpjmeknjhhakaaGreat.K
open Go Go.RowKit Go.Maps

section
variable {P : Program}
/-- one value put behind a slice that may begin inside its row -/
theorem run_append_off (w : World) (base : Nat) (t ty e : TypeId) (i : TypeInfo) (z : Value) (bytes : Nat) (ht : P.underlying t = some (.slice e)) (hi : P.info? e = some i) (hz : i.zero = some z) (hsize : i.size = 1) (hby : i.bytes = bytes) (hzs : z.cells.size = 1)
    (g o n c : Nat) (pre xs : List Value) (hpre : pre.length = o) (hxs : xs.length = n) (hown : w.ownsRow base e 1 (.slice (some ⟨g, 0, none⟩) (o + n) (o + c)) (o + n) (pre ++ xs))
    (ad : Addr) (d : Nat) (v : Value) (hv : w.cell? ad = some v) (h1 : v.oneCell' = true) (h63 : n + 1 ≤ 1000000000) (hbytes : (n + 1) * bytes ≤ 140737488355328) (hbase : base ≤ w.heap.size) :
    ∃ g' o' c' pre' w', (Builtin.append_ #[t, t] ty #[.slice (some ⟨g, o, none⟩) n c, .slice (some ad) 1 d]).run P w = .ok (.slice (some ⟨g', o', none⟩) (n + 1) c') w' ∧ pre'.length = o' ∧
      w'.ownsRow base e 1 (.slice (some ⟨g', 0, none⟩) (o' + (n + 1)) (o' + c')) (o' + (n + 1)) (pre' ++ (xs ++ [v])) ∧ w.grownBy w' (some g) ∧ (g' = g ∨ g' = w.heap.size) ∧ n + 1 ≤ c' := by
  have hnews : ∀ j u, [v][j]? = some u → w.cell? (ad.add j) = some u := fun j u hu => by
    cases j with
    | zero => cases hu; rw [show ad.add 0 = ad by unfold Addr.add; split <;> simp_all]; exact hv
    | succ j => cases hu
  rcases hown.2 with ⟨h0, _⟩ | ⟨g2, cap, cur, hvv, hbg, hg, hnc, hcm, hcs, htake⟩
  · cases h0
  simp only [Value.slice.injEq, Option.some.injEq, Addr.mk.injEq, true_and, and_true] at hvv
  obtain ⟨rfl, rfl⟩ := hvv
  by_cases hroom : n + 1 ≤ c
  · have hfit : o + n + 0 + [v].length ≤ cur.size := by rw [hcs]; simp; omega
    have hst := run_storeCells_at P g (o + n) e [v] 0 cur w hg hfit (fun u hu => by rw [List.mem_singleton.1 hu]; exact h1)
    have hf := run_firstCells_some (P := P) w 1 1 ad 1 d [v] rfl hnews
    refine ⟨g, o, c, pre, w.setRow g (cur.toList.take (o + n) ++ [v] ++ cur.toList.drop (o + n + 1)).toArray, ?_, hpre, ?_, ⟨rfl, rfl, rfl, by simp [World.setRow], fun k _ hk => setRow_other w g k _ (fun e => hk (by rw [e]))⟩, .inl rfl, hroom⟩
    · simp only [Nat.add_zero] at hst
      simp [Builtin.append_, run_underlying ht, sizeOf, typeInfo, hi, hsize, Builtin.lenOf, hroom, hf, Addr.add_lit, hst]
    · refine ⟨by simp; omega, .inr ⟨g, o + c, _, rfl, hbg, setRow_heap w g cur _ e _ hg, by omega, hcm, ?_, ?_⟩⟩
      · simp only [List.size_toArray, List.length_append, List.length_take, List.length_drop, Array.length_toList, List.length_singleton]
        omega
      · rw [show cur.toList.take (o + n) = pre ++ xs by rw [← htake, Nat.mul_one]]
        rw [List.append_assoc, List.append_assoc, ← List.append_assoc xs, ← List.append_assoc pre]
        exact List.take_left' (by simp; omega)
  · have holds : ∀ j u, xs[j]? = some u → w.cell? ((⟨g, o, none⟩ : Addr).add j) = some u := fun j u hu => by
      have h2 := hown.cells (g := g) rfl (o + j) u (by rw [List.getElem?_append_right (by omega), show o + j - pre.length = j by omega]; exact hu)
      rw [Addr.add_lit] at h2 ⊢
      rw [Nat.zero_add] at h2
      exact h2
    have hr := run_append_grow (P := P) w t ty e i z ht hi hz ⟨g, o, none⟩ n c xs (by rw [hsize, hxs]; omega) holds ad 1 d [v] (by rw [hsize]; rfl) hnews (by omega) (by omega) (growslice_fits (by omega) (by rw [hby]; exact hbytes))
    have hge := grownCap_ge w (n + 1) c e
    refine ⟨w.heap.size, 0, _, [], _, hr, rfl, ?_, ⟨rfl, rfl, rfl, by simp, fun k hk hne => (World.grownBy_alloc w.drew _ (some g)).block k hk hne⟩, .inr rfl, hge⟩
    rw [Nat.zero_add, Nat.zero_add, List.nil_append]
    refine ⟨by simp; omega, .inr ⟨w.heap.size, _, _, rfl, hbase, heap_alloc_new w.drew _, hge, grownCap_le_maxLen w (n + 1) c e (by unfold maxLen; omega), ?_, ?_⟩⟩
    · simp only [Array.size_append, List.size_toArray, size_zeroCells, hzs, hxs, List.length_singleton]
      omega
    · simp only [Array.toList_append]
      exact List.take_left' (by simp; omega)
theorem own_less {w : World} {base : Nat} {e : TypeId} {a : Addr} {n c k : Nat} {xs : List Value} (h : w.ownsRow base e 1 (.slice (some a) n c) n xs) (hk : k ≤ n) : w.ownsRow base e 1 (.slice (some a) k c) k (xs.take k) := by
  refine ⟨by have := h.1; simp; omega, ?_⟩
  rcases h.2 with ⟨h0, _⟩ | ⟨g, cap, cur, hv, h2, h3, h4, h5, h6, h7⟩
  · cases h0
  · simp only [Value.slice.injEq, Option.some.injEq, true_and] at hv
    obtain ⟨rfl, rfl⟩ := hv
    exact .inr ⟨g, c, cur, rfl, h2, h3, by omega, h5, h6, by rw [← h7, List.take_take]; congr 1; omega⟩
end
section
variable {w0 w w' : World} {D R : Nat} {room : Int} {fs : List F.Fr} {sf Z : Nat} {st : S.St} {L : List Acc}
/-- an account ahead of the rest was put anew -/
theorem LS.head {p p' : Acc} (h : LS w0 w D R room fs sf Z st (p :: L)) (ho : w'.ownsRow w0.heap.size p'.e p'.size p'.v p'.n p'.xs) (hg : w.grownBy w' p.v.ownBlock) (hb : p'.v.ownBlock = p.v.ownBlock ∨ p'.v.ownBlock = some w.heap.size) : LS w0 w' D R room fs sf Z st (p' :: L) := by
  obtain ⟨o2, A2, cE, xs, h1, h2, h3⟩ := h
  refine ⟨o2, A2, cE, xs, h1, ?_, h3⟩
  have h4 : Side w0 w R (mapObj o2) (p :: (dAcc D R room :: (filAccs o2 ++ StL Z D st.c A2 cE xs L))) := (Dk.perm (show Dk w0 w D R room o2 _ from h2) (stl_head _ Z D st.c A2 cE xs)).side.perm (by
    show (([dAcc D R room] ++ filAccs o2) ++ (p :: StL Z D st.c A2 cE xs L)).Perm (p :: (([dAcc D R room] ++ filAccs o2) ++ StL Z D st.c A2 cE xs L))
    exact List.perm_middle)
  have h5 : Side w0 w' R (mapObj o2) (p' :: (dAcc D R room :: (filAccs o2 ++ StL Z D st.c A2 cE xs L))) := h4.put 0 rfl (h4.bank.put 0 rfl ho hg hb) hg hb
  have h6 : Dk w0 w' D R room o2 (p' :: StL Z D st.c A2 cE xs L) := Side.perm h5 (by
    show (p' :: (([dAcc D R room] ++ filAccs o2) ++ StL Z D st.c A2 cE xs L)).Perm (([dAcc D R room] ++ filAccs o2) ++ (p' :: StL Z D st.c A2 cE xs L))
    exact List.perm_middle.symm)
  exact Dk.perm h6 (stl_head _ Z D st.c A2 cE xs).symm
end
/-- a reference's store and where it lies -/
structure SR where
  G : Nat
  c : S.Cl
  A : Option Addr
  cE : Nat
  xs : List EV
def SR.st (s : SR) : S.St := ⟨s.c, s.xs.map EV.e⟩
def SR.ptr (s : SR) : Value := .pointer (some ⟨s.G, 0, none⟩)
def SR.box (s : SR) : Acc := boxAcc s.G 36 (refCells s.c s.A s.xs.length s.cE)
def SR.evs (s : SR) : Acc := evsAcc s.A s.xs.length s.cE s.xs
def SR.accs (s : SR) : List Acc := [s.box, s.evs]
def ptrAcc (g N C : Nat) (vs : List Value) : Acc := ⟨.slice (some ⟨g, 0, none⟩) N C, N, 31, 1, vs⟩
def stsR (sts : List SR) : List Acc := sts.reverse.flatMap SR.accs
theorem stsR_snoc (sts : List SR) (s : SR) : stsR (sts ++ [s]) = s.box :: s.evs :: stsR sts := by simp [stsR, SR.accs]
theorem stsR_mem {sts : List SR} {s : SR} (h : s ∈ sts) : s.box ∈ stsR sts ∧ s.evs ∈ stsR sts := by
  unfold stsR
  exact ⟨List.mem_flatMap.2 ⟨s, by simpa using h, .head _⟩, List.mem_flatMap.2 ⟨s, by simpa using h, .tail _ (.head _)⟩⟩
theorem sub_flat {xs ys : List SR} (h : xs.Sublist ys) : (xs.flatMap SR.accs).Sublist (ys.flatMap SR.accs) := by
  induction h with
  | slnil => exact .slnil
  | cons a _ ih => rw [List.flatMap_cons]; exact ih.trans (List.sublist_append_right _ _)
  | cons_cons a _ ih => rw [List.flatMap_cons, List.flatMap_cons]; exact (List.Sublist.refl _).append ih
/-- the list of states, ahead of the pool -/
def stsL (g o c : Nat) (pre : List Value) (sts : List SR) (L : List Acc) : List Acc := ptrAcc g (o + sts.length) (o + c) (pre ++ sts.map SR.ptr) :: (stsR sts ++ L)
def Pool (sts : List SR) (L : List Acc) : Prop := ∀ s ∈ sts, ∀ x ∈ s.xs, x.acc ∈ L
theorem Pool.more {sts : List SR} {L L' : List Acc} (h : Pool sts L) (hs : ∀ p ∈ L, p ∈ L') : Pool sts L' := fun s h1 x h2 => hs _ (h s h1 x h2)
theorem Pool.snoc {sts : List SR} {L : List Acc} (h : Pool sts L) (s : SR) (hs : ∀ x ∈ s.xs, x.acc ∈ L) : Pool (sts ++ [s]) L := fun t h1 x h2 => by
  rcases List.mem_append.1 h1 with h1 | h1
  · exact h t h1 x h2
  · rw [List.mem_singleton.1 h1] at h2; exact hs x h2
section
variable {w0 w w' : World} {L : List Acc}
theorem Bank.boxM (h : Bank w0 w L) {g : Nat} {t : TypeId} {vs : List Value} (hm : boxAcc g t vs ∈ L) : w.heap[g]? = some (.cells vs.toArray t (0, 0)) := by
  obtain ⟨i, hi⟩ := List.mem_iff_getElem?.1 hm
  exact (h.boxAt i hi).2
/-- a state of a bank -/
theorem sr_box (h : Bank w0 w L) {s : SR} (hm : s.box ∈ L) : RBox w s.G s.c s.A s.xs.length s.cE := h.boxM hm
theorem sr_c (h : Bank w0 w L) {s : SR} (hm : s.box ∈ L) : RefC w s.G s.c s.A s.xs.length s.cE := ⟨(sr_box h hm).c0.1, (sr_box h hm).c0.2.1, (sr_box h hm).c0.2.2.1, (sr_box h hm).c0.2.2.2, (sr_box h hm).c4⟩
theorem sr_own (h : Bank w0 w L) {s : SR} (hm : s.evs ∈ L) : w.ownsRow 0 62 6 (.slice s.A s.xs.length s.cE) s.xs.length (s.xs.flatMap EV.cells) := row_base (h.own _ hm) (Nat.zero_le _)
theorem sr_rd (h : Bank w0 w L) {s : SR} (hm : s.evs ∈ L) (hp : ∀ x ∈ s.xs, x.acc ∈ L) : EntsRd w s.A (s.xs.map EV.e) := evs_rd h hm hp rfl
theorem ptr_at (h : Bank w0 w L) {g o c : Nat} {pre : List Value} {sts : List SR} (hm : ptrAcc g (o + sts.length) (o + c) (pre ++ sts.map SR.ptr) ∈ L) (hpre : pre.length = o) (j : Nat) (hj : j < sts.length) : w.cell? ⟨g, o + j, none⟩ = some sts[j].ptr := by
  have h1 := World.ownsRow.cellAt (h.own _ hm) (o + j) (by show _ < (o + sts.length) * 1; omega)
  refine h1.trans ?_
  show (pre ++ sts.map SR.ptr)[o + j]? = _
  rw [List.getElem?_append_right (by omega), show o + j - pre.length = j by omega, List.getElem?_map, List.getElem?_eq_getElem hj]
  rfl
end
section
variable {w0 w w' : World} {D R : Nat} {room : Int} {fs : List F.Fr} {sf Z : Nat} {st : S.St} {L : List Acc} {f : F.Fr} {e : Ending}
/-- a frame done to a reference's store whose entries' bytes lie in the pool -/
theorem ls_rfB {s : SR} {PL : List Acc} (h : LS w0 w D R room fs sf Z st (s.box :: s.evs :: L)) (hp : RDoPost w s.G s.c s.xs f e w') (hx : ∀ x ∈ s.xs, x.acc ∈ PL) :
    (S.sdo s.st f = none ∧ e = .returned (.bool false) ∧ LS w0 w' D R room fs sf Z st (s.box :: s.evs :: L)) ∨
    (∃ (s' : SR) (K : List Acc), s'.G = s.G ∧ S.sdo s.st f = some s'.st ∧ s'.xs.length ≤ s.xs.length + 1 ∧ e = .returned (.bool true) ∧ LS w0 w' D R room fs sf Z st (s'.box :: s'.evs :: (K ++ L)) ∧ ∀ x ∈ s'.xs, x.acc ∈ K ++ PL) := by
  rcases hp with ⟨h1, he, hs⟩ | ⟨c', w1, h1, he, hs, rfl⟩ | ⟨w1, q, A', cE', en, B, m, cB, h1, hq, he, hB, rfl⟩
  · exact .inl ⟨h1, he, h.call hs⟩
  · exact .inr ⟨⟨s.G, c', s.A, s.cE, s.xs⟩, [], rfl, h1, Nat.le_succ _, he, ((((h.call hs).boxSet0 0 (.int .i64 c'.term)).boxSet0 1 (.int .i64 c'.vote)).boxSet0 2 (.int .i64 c'.applied)).boxSet0 3 (.int .i64 c'.active), hx⟩
  · have hl : (s.xs.take q ++ [⟨en, B, m, cB⟩] : List EV).length = q + 1 := by simp; omega
    refine .inr ⟨⟨s.G, s.c, A', cE', s.xs.take q ++ [EV.mk en B m cB]⟩, [rowAcc B m cB en.data], rfl, h1, by rw [hl]; omega, he, ?_, ?_⟩
    · have h2 := (h.add hB).perm (L' := s.box :: evsAcc A' (q + 1) cE' (s.xs.take q ++ [⟨en, B, m, cB⟩]) :: rowAcc B m cB en.data :: s.evs :: L) (by
        show ([evsAcc A' (q + 1) cE' (s.xs.take q ++ [⟨en, B, m, cB⟩]), rowAcc B m cB en.data] ++ s.box :: (s.evs :: L)).Perm (s.box :: ([evsAcc A' (q + 1) cE' (s.xs.take q ++ [⟨en, B, m, cB⟩]), rowAcc B m cB en.data] ++ (s.evs :: L)))
        exact List.perm_middle)
      have h3 := (LS.boxSet0 (g := s.G) (vs := refCells s.c s.A s.xs.length s.cE) h2 4 (.slice A' (q + 1) cE')).sub (L' := boxAcc s.G 36 (refCells s.c A' (q + 1) cE') :: evsAcc A' (q + 1) cE' (s.xs.take q ++ [⟨en, B, m, cB⟩]) :: rowAcc B m cB en.data :: L) (.cons_cons _ (.cons_cons _ (.cons_cons _ (.cons _ (List.Sublist.refl _)))))
      show LS w0 _ D R room fs sf Z st (boxAcc s.G _ (refCells s.c A' (s.xs.take q ++ [⟨en, B, m, cB⟩] : List EV).length cE') :: evsAcc A' (s.xs.take q ++ [⟨en, B, m, cB⟩] : List EV).length cE' _ :: ([rowAcc B m cB en.data] ++ L))
      rw [hl]
      exact h3
    · intro x hx2
      rcases List.mem_append.1 hx2 with hx2 | hx2
      · exact List.mem_append_right _ (hx x (List.mem_of_mem_take hx2))
      · rw [List.mem_singleton.1 hx2]
        exact .head _
/-- a state is put behind the list of states, on the walk -/
theorem wpList_append_sts {P : Program} {ops : Array Oper} {rest : List Oper} {o : Oper} {a : Act} {Q : Exit → Act → World → Prop} {g o1 c : Nat} {pre : List Value} {sts : List SR} {s : SR} (h : LS w0 w D R room fs sf Z st (s.box :: s.evs :: stsL g o1 c pre sts L)) (hpre : pre.length = o1) (hgd : o.guard = Option.none) (s1 y : Operand) (t : TypeId)
    (ho : o.op = .call { callee := .builtin .append, args := #[s1, y], argTypes := #[t, t] })
    (hz : (P.info? 31).map (fun i => (i.zero, i.size, i.bytes)) = some (some (.pointer none), 1, 8)) (ht : P.underlying t = some (.slice 31)) (n : Nat) (hn : n = sts.length) (hs : a.eval s1 = .slice (some ⟨g, o1, none⟩) n c)
    (ad : Addr) (d : Nat) (hx : a.eval y = .slice (some ad) 1 d) (hv : w.cell? ad = some s.ptr) (hb : n + 1 ≤ 1000000)
    (hK : ∀ g' o' c' pre' w' n', n' = (sts ++ [s]).length → LS w0 w' D R room fs sf Z st (stsL g' o' c' pre' (sts ++ [s]) L) → pre'.length = o' → n' ≤ c' → wpList P ops Q rest (a.put o.dst (.slice (some ⟨g', o', none⟩) n' c')) w') : wpList P ops Q (o :: rest) a w := by
  subst hn
  obtain ⟨i0, hi, hz0, hz1, hz2⟩ := info_parts hz
  refine wpList_plain hgd fun K hK' => ?_
  have h2 : LS w0 w D R room fs sf Z st (ptrAcc g (o1 + sts.length) (o1 + c) (pre ++ sts.map SR.ptr) :: s.box :: s.evs :: (stsR sts ++ L)) := h.perm (by
    show ([s.box, s.evs] ++ (ptrAcc g (o1 + sts.length) (o1 + c) (pre ++ sts.map SR.ptr) :: (stsR sts ++ L))).Perm (ptrAcc g (o1 + sts.length) (o1 + c) (pre ++ sts.map SR.ptr) :: ([s.box, s.evs] ++ (stsR sts ++ L)))
    exact List.perm_middle)
  obtain ⟨g', o', c', pre', w', hr, hp', how, hg, hgg, hnc⟩ := run_append_off (P := P) w w0.heap.size t o.type 31 i0 _ 8 ht hi hz0 hz1 hz2 rfl g o1 sts.length c pre (sts.map SR.ptr) hpre (by simp) (h2.bank.at 0 rfl) ad d s.ptr hv rfl (by omega) (by omega) h2.since.size
  have h3 : LS w0 w' D R room fs sf Z st (ptrAcc g' (o' + (sts.length + 1)) (o' + c') (pre' ++ (sts.map SR.ptr ++ [s.ptr])) :: s.box :: s.evs :: (stsR sts ++ L)) := h2.head how hg (by
    rcases hgg with e | e
    · exact .inl (by rw [e]; rfl)
    · exact .inr (by rw [e]; rfl))
  have h4 : LS w0 w' D R room fs sf Z st (stsL g' o' c' pre' (sts ++ [s]) L) := by
    unfold stsL
    rw [stsR_snoc, List.length_append, List.map_append]
    exact h3
  unfold Oper.wp execOp
  simp only [ho, resolve, invoke, builtin, Sem.run_bind, Sem.run_pure, Result.andThen_ok, List.map_toArray, List.map_cons, List.map_nil, hs, hx, hr]
  exact hK' _ _ (hK g' o' c' pre' w' (sts.length + 1) (by simp) h4 hp' hnc)
/-- from a state on -/
theorem ls_drop {g o c : Nat} {pre : List Value} {sts : List SR} (h : LS w0 w D R room fs sf Z st (stsL g o c pre sts L)) (hpre : pre.length = o) (j : Nat) (hj : j < sts.length) :
    LS w0 w D R room fs sf Z st (stsL g (o + j) (c - j) (pre ++ (sts.take j).map SR.ptr) (sts.drop j) L) ∧ (pre ++ (sts.take j).map SR.ptr).length = o + j := by
  have hown := h.bank.at 0 rfl
  have hjc : j ≤ c := by
    rcases hown.2 with ⟨h0, _⟩ | ⟨g2, cap, cur, hv, h2, h3, h4, _⟩
    · cases h0
    · have e : o + c = cap := by
        simp only [ptrAcc, Value.slice.injEq] at hv
        exact hv.2.2
      have : o + sts.length ≤ cap := h4
      omega
  refine ⟨?_, by simp; omega⟩
  have e1 : ptrAcc g (o + j + (sts.drop j).length) (o + j + (c - j)) (pre ++ (sts.take j).map SR.ptr ++ (sts.drop j).map SR.ptr) = ptrAcc g (o + sts.length) (o + c) (pre ++ sts.map SR.ptr) := by
    rw [List.append_assoc, ← List.map_append, List.take_append_drop, List.length_drop, show o + j + (sts.length - j) = o + sts.length by omega, show o + j + (c - j) = o + c by omega]
  unfold stsL
  rw [e1]
  exact h.sub (.cons_cons _ (List.Sublist.append (by
    unfold stsR
    exact sub_flat ((List.drop_sublist j sts).reverse)) (List.Sublist.refl _)))
/-- no more than so many of them -/
theorem ls_take {g o c : Nat} {pre : List Value} {sts : List SR} (h : LS w0 w D R room fs sf Z st (stsL g o c pre sts L)) (hpre : pre.length = o) (k : Nat) (hk : k ≤ sts.length) :
    LS w0 w D R room fs sf Z st (stsL g o c pre (sts.take k) L) := by
  have hown := h.bank.at 0 rfl
  have h2 := own_less (k := o + k) hown (by show o + k ≤ o + sts.length; omega)
  have h3 : (pre ++ sts.map SR.ptr).take (o + k) = pre ++ (sts.take k).map SR.ptr := by
    rw [List.take_append, List.take_of_length_le (by omega), List.map_take, show o + k - pre.length = k by omega]
  rw [show (ptrAcc g (o + sts.length) (o + c) (pre ++ sts.map SR.ptr)).xs = pre ++ sts.map SR.ptr from rfl, h3] at h2
  have e1 : (sts.take k).length = k := by simp; omega
  have h4 : LS w0 w D R room fs sf Z st (ptrAcc g (o + (sts.take k).length) (o + c) (pre ++ (sts.take k).map SR.ptr) :: (stsR sts ++ L)) := h.head (by rw [e1]; exact h2) (World.grownBy.refl _ _) (.inl rfl)
  exact h4.sub (.cons_cons _ (List.Sublist.append (by
    unfold stsR
    exact sub_flat ((List.take_sublist k sts).reverse)) (List.Sublist.refl _)))
end
end Go.Proofs.YtfpjmeknjhhakaaGreat.K
